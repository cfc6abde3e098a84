/- Layout: Strip, Explicit, and whether two lists of tokens are the same. -/
import Derived.Test.YtmjofajbfondhaaLzLayO
set_option linter.unusedSimpArgs false
set_option linter.unusedVariables false
namespace Go.Proofs.TryL
open Go.Proofs.Lz

theorem drop_step {α : Type} {l r : List α} {t : α} {i : Nat} (hd : l.drop i = t :: r) : i < l.length ∧ l[i]? = some t ∧ l.drop (i + 1) = r := by
  have hlt : i < l.length := by
    by_cases h' : i < l.length
    · exact h'
    · rw [List.drop_eq_nil_iff.2 (by omega)] at hd; cases hd
  refine ⟨hlt, ?_, ?_⟩
  · rw [List.drop_eq_getElem_cons hlt] at hd
    injection hd with h1 h2
    rw [List.getElem?_eq_getElem hlt, h1]
  · rw [List.drop_eq_getElem_cons hlt] at hd
    injection hd with h1 h2
theorem drop_end {α : Type} {l : List α} {i : Nat} (hd : l.drop i = []) (hi : i ≤ l.length) : i = l.length := by
  have := List.drop_eq_nil_iff.1 hd
  omega
def stripS (l : List Tok) : List Tok := l.filter fun t => !t.auto
def unA (t : Tok) : Tok := { t with auto := false }

/-! ### Strip -/
def K15 (v : WV) (l : List Tok) (i : Nat) : WFr := { env := wassoc [(3, v), (6, .c (tks l)), (7, .c (.int .i64 l.length)), (8, .c (.int .i64 i))], al := noAl }
set_option maxHeartbeats 2000000 in
theorem round15 {l : List Tok} {t : Tok} {i : Nat} {o : List Tok} {v : WV} (hn : l.length < 1000000000) (ht : l[i]? = some t) (hv : OutV v o) (ho : o.length < 1000000000) (H : WHeap) :
    ∃ fr' v', wC Vv (wv Vv) witW lp15_1 (K15 v l i) H = some (.nrm, fr', H) ∧ wkeep [3, 6, 7, 8] fr' = K15 v' l (i + 1) ∧ OutV v' (if t.auto = true then o else o ++ [t]) := by
  have hx : (l.map tokC)[i]? = some (tokC t) := by simp [ht]
  have hlt : i < l.length := (List.getElem?_eq_some_iff.1 ht).1
  have c1 : (i : Int) < l.length := by omega
  have w1 : IntKind.i64.wrap ((i : Int) + 1) = (i : Int) + 1 := by rw [wrap_id] <;> omega
  have b1 : o.length + 1 ≤ 140737488355328 := by omega
  have b2 : (o.length + 1) * 72 ≤ 140737488355328 := by omega
  cases ha : t.auto with
  | true =>
    rcases hv with ⟨rfl, ho'⟩ | rfl
    · refine ⟨?_, .nils, ?_, ?_, .inl ⟨rfl, ho'⟩⟩
      rotate_left
      · simp [-getElem?_pos, List.getElem?_cons_zero, lp15_1, K15, tks, hx, hlt, c1, ha]
        rfl
      · simp [K15, tks, w1]
    · refine ⟨?_, _, ?_, ?_, .inr rfl⟩
      rotate_left
      · simp [-getElem?_pos, List.getElem?_cons_zero, lp15_1, K15, tks, hx, hlt, c1, ha]
        rfl
      · simp [K15, tks, w1]
  | false =>
    rcases hv with ⟨rfl, ho'⟩ | rfl
    · refine ⟨?_, _, ?_, ?_, .inr rfl⟩
      rotate_left
      · simp [-getElem?_pos, List.getElem?_cons_zero, lp15_1, K15, tks, hx, hlt, c1, ha, lim]
        rfl
      · simp [K15, tks, w1, ho', ha]
    · refine ⟨?_, _, ?_, ?_, .inr rfl⟩
      rotate_left
      · simp [-getElem?_pos, List.getElem?_cons_zero, lp15_1, K15, tks, hx, hlt, c1, ha, lim, b1, b2]
        rfl
      · simp [K15, tks, w1, ha]
theorem loop15 {l : List Tok} (hn : l.length < 100000000) : ∀ (r : List Tok) (i : Nat) (o : List Tok) (v : WV) (H : WHeap), l.drop i = r → i ≤ l.length → OutV v o → o.length ≤ i → ∀ fr, wkeep [3, 6, 7, 8] fr = K15 v l i →
    ∃ fr' v', wC Vv (wv Vv) witW (.loop [3, 6, 7, 8] lp15_1) fr H = some (.exit 0, fr', H) ∧ fr'.env 3 = v' ∧ fr'.env 2 = .undef ∧ fr'.env 20 = .undef ∧ OutV v' (o ++ stripS r) := by
  intro r
  induction r with
  | nil =>
    intro i o v H hd hi hv ho fr hk
    have := drop_end hd hi
    subst this
    rw [w_loop, witW_eq, hk]
    refine ⟨?_, v, ?_, ?_, ?_, ?_, by simpa [stripS] using hv⟩
    rotate_left
    · simp [lp15_1, K15]
      rfl
    · simp [K15]
    · simp [K15]
    · simp [K15]
  | cons t r ih =>
    intro i o v H hd hi hv ho fr hk
    obtain ⟨hlt, ht, hd'⟩ := drop_step hd
    obtain ⟨fr1, v1, h1, h2, h3⟩ := round15 (by omega) ht hv (by omega) H
    have eq : wC Vv (wv Vv) witW (.loop [3, 6, 7, 8] lp15_1) fr H = wC Vv (wv Vv) witW (.loop [3, 6, 7, 8] lp15_1) fr1 H := by rw [w_loop, witW_eq, hk, h1]; rfl
    obtain ⟨fr', v', g1, g2, g3, g4, g5⟩ := ih (i + 1) _ v1 H hd' (by omega) h3 (by
      split
      · omega
      · rw [List.length_append, List.length_singleton]; omega) fr1 h2
    refine ⟨fr', v', by rw [eq]; exact g1, g2, g3, g4, ?_⟩
    cases ha : t.auto <;> simpa [stripS, ha] using g5
theorem strip15 (l : List Tok) (hn : l.length < 100000000) : ∃ v, wv Vv 15 [.c (tks l)] [] = some (v, []) ∧ OutV v (stripS l) := by
  rw [wv_eq, wFn, vfn15]
  simp [ic15, tks]
  generalize hX : ({ env := _, al := _ } : WFr) = X
  obtain ⟨fr', v', g1, g2, g3, g4, g5⟩ := loop15 hn l 0 [] .nils [] rfl (Nat.zero_le _) (.inl ⟨rfl, rfl⟩) (Nat.zero_le _) X (by subst hX; simp [K15, tks])
  rw [g1]
  rw [List.nil_append] at g5
  rcases g5 with ⟨rfl, h5⟩ | rfl
  · refine ⟨.nils, ?_, .inl ⟨rfl, h5⟩⟩
    simp [g2, g3, g4]
  · refine ⟨_, ?_, .inr rfl⟩
    simp [g2, g3, g4, List.filter, leaveP]
/-! ### SameTokens -/
/-- A closed list of tokens. -/
def ClV (c : CV) (l : List Tok) : Prop := (c = .frz none [] ∧ l = []) ∨ c = tks l
theorem ClV.len {c : CV} {l : List Tok} (h : ClV c l) : ∃ ek xs, c = .frz ek xs ∧ xs.length = l.length := by
  rcases h with ⟨rfl, rfl⟩ | rfl
  · exact ⟨_, _, rfl, rfl⟩
  · exact ⟨_, _, rfl, by simp⟩
def K11 (a b : CV) (i : Nat) : WFr := { env := wassoc [(0, .c a), (1, .c b), (5, .c (.int .i64 i))], al := noAl }
set_option maxHeartbeats 2000000 in
theorem loop11 {ca cb : CV} {a b : List Tok} (ha : ClV ca a) (hb : ClV cb b) (hl : a.length = b.length) (hn : a.length < 100000000) : ∀ (ra rb : List Tok) (i : Nat) (H : WHeap), a.drop i = ra → b.drop i = rb → i ≤ a.length → ∀ fr, wkeep [0, 1, 5] fr = K11 ca cb i →
    ∃ fr', if ra = rb then wC Vv (wv Vv) witW (.loop [0, 1, 5] lp11_1) fr H = some (.exit 0, fr', H) else wC Vv (wv Vv) witW (.loop [0, 1, 5] lp11_1) fr H = some (.ret, fr', H) ∧ fr'.env 4 = .c (.bool false) := by
  intro ra
  induction ra with
  | nil =>
    intro rb i H hda hdb hi fr hk
    have := drop_end hda hi
    subst this
    have hrb : rb = [] := by rw [← hdb, hl]; simp
    subst hrb
    obtain ⟨ek, xs, e1, e2⟩ := ha.len
    simp only [if_true]
    rw [w_loop, witW_eq, hk]
    refine ⟨?_, ?_⟩
    rotate_left
    · simp [lp11_1, K11, e1, e2]
      rfl
  | cons t ra ih =>
    intro rb i H hda hdb hi fr hk
    obtain ⟨hlt, ht, hda'⟩ := drop_step hda
    cases rb with
    | nil =>
      have := drop_end hdb (by omega)
      omega
    | cons u rb =>
      obtain ⟨hltb, hu, hdb'⟩ := drop_step hdb
      have ea : ca = tks a := by
        rcases ha with ⟨_, h⟩ | h
        · rw [h] at hlt; cases hlt
        · exact h
      have eb : cb = tks b := by
        rcases hb with ⟨_, h⟩ | h
        · rw [h] at hltb; cases hltb
        · exact h
      have hx : (a.map tokC)[i]? = some (tokC t) := by simp [ht]
      have hy : (b.map tokC)[i]? = some (tokC u) := by simp [hu]
      have c1 : (i : Int) < a.length := by omega
      have c2 : (i : Int) < b.length := by omega
      have w1 : IntKind.i64.wrap ((i : Int) + 1) = (i : Int) + 1 := by rw [wrap_id] <;> omega
      by_cases htu : t = u
      · subst htu
        obtain ⟨fr1, h1, h2⟩ : ∃ fr1, wC Vv (wv Vv) witW lp11_1 (K11 ca cb i) H = some (.nrm, fr1, H) ∧ wkeep [0, 1, 5] fr1 = K11 ca cb (i + 1) := by
          refine ⟨?_, ?_, ?_⟩
          rotate_left
          · simp [-getElem?_pos, List.getElem?_cons_zero, lp11_1, K11, ea, eb, tks, hx, hy, hlt, hltb, c1, c2]
            rfl
          · simp [K11, ea, eb, tks, w1]
        have eq : wC Vv (wv Vv) witW (.loop [0, 1, 5] lp11_1) fr H = wC Vv (wv Vv) witW (.loop [0, 1, 5] lp11_1) fr1 H := by rw [w_loop, witW_eq, hk, h1]; rfl
        obtain ⟨fr', g⟩ := ih rb (i + 1) H hda' hdb' (by omega) fr1 h2
        refine ⟨fr', ?_⟩
        rw [eq]
        simpa using g
      · have hcne : ¬ (t :: ra = u :: rb) := by intro h; injection h with h1; exact htu h1
        simp only [if_neg hcne]
        have hne : ¬t.op = u.op ∨ ¬t.mod = u.mod ∨ ¬t.text = u.text ∨ ¬t.n = u.n ∨ ¬t.auto = u.auto ∨ ¬t.line = u.line ∨ ¬t.col = u.col := by
          apply Classical.byContradiction
          intro h
          simp only [not_or, Classical.not_not] at h
          apply htu
          cases t; cases u
          simp only at h
          simp [h]
        rw [w_loop, witW_eq, hk]
        refine ⟨?_, ?_, ?_⟩
        rotate_left
        · simp [-getElem?_pos, List.getElem?_cons_zero, lp11_1, K11, ea, eb, tks, hx, hy, hlt, hltb, c1, c2, hne]
          rfl
        · simp
theorem same11 {ca cb : CV} {a b : List Tok} (ha : ClV ca a) (hb : ClV cb b) (hn : a.length < 100000000) : wv Vv 11 [.c ca, .c cb] [] = some (.c (.bool (decide (a = b))), []) := by
  obtain ⟨ea, xa, a1, a2⟩ := ha.len
  obtain ⟨eb, xb, b1, b2⟩ := hb.len
  rw [wv_eq, wFn, vfn11]
  by_cases hl : a.length = b.length
  · simp [ic11, a1, b1, a2, b2, hl]
    generalize hX : ({ env := _, al := _ } : WFr) = X
    obtain ⟨fr', g⟩ := loop11 ha hb hl hn a b 0 [] rfl rfl (Nat.zero_le _) X (by subst hX; simp [K11, a1, b1])
    by_cases hab : a = b
    · rw [if_pos hab] at g
      rw [g]
      simp [hab]
    · rw [if_neg hab] at g
      rw [g.1]
      simp [g.2, hab]
  · have hab : a ≠ b := by intro h; exact hl (by rw [h])
    have hl' : ¬ (a.length : Int) = b.length := by omega
    simp [ic11, a1, b1, a2, b2, hl, hl', hab]
end Go.Proofs.TryL
/- Layout: the reference's Strip, and Explicit. -/
set_option linter.unusedSimpArgs false
set_option linter.unusedVariables false
namespace Go.Proofs.TryL
open Go.Proofs.Lz
def OwnV (o : List Tok) : WV := .own true 33 (some 7) (o.map tokC)
/-! ### the reference's Strip -/
def K16 (o l : List Tok) (i : Nat) : WFr := { env := wassoc [(0, .c (tks l)), (3, OwnV o), (4, .c (.int .i64 i))], al := noAl }
set_option maxHeartbeats 2000000 in
theorem round16 {l : List Tok} {t : Tok} {i : Nat} {o : List Tok} (hn : l.length < 1000000000) (ht : l[i]? = some t) (ho : o.length < 1000000000) (H : WHeap) :
    ∃ fr', wC Vv (wv Vv) witW lp16_1 (K16 o l i) H = some (.nrm, fr', H) ∧ wkeep [0, 3, 4] fr' = K16 (if t.auto = true then o else o ++ [t]) l (i + 1) := by
  have hx : (l.map tokC)[i]? = some (tokC t) := by simp [ht]
  have hlt : i < l.length := (List.getElem?_eq_some_iff.1 ht).1
  have c1 : (i : Int) < l.length := by omega
  have w1 : IntKind.i64.wrap ((i : Int) + 1) = (i : Int) + 1 := by rw [wrap_id] <;> omega
  have b1 : o.length + 1 ≤ 140737488355328 := by omega
  have b2 : (o.length + 1) * 72 ≤ 140737488355328 := by omega
  cases ha : t.auto with
  | true =>
    refine ⟨?_, ?_, ?_⟩
    rotate_left
    · simp [-getElem?_pos, List.getElem?_cons_zero, lp16_1, K16, OwnV, tks, hx, hlt, c1, ha]
      rfl
    · simp [K16, OwnV, tks, w1]
  | false =>
    refine ⟨?_, ?_, ?_⟩
    rotate_left
    · simp [-getElem?_pos, List.getElem?_cons_zero, lp16_1, K16, OwnV, tks, hx, hlt, c1, ha, lim, b1, b2]
      rfl
    · simp [K16, OwnV, tks, w1, ha]
theorem loop16 {l : List Tok} (hn : l.length < 100000000) : ∀ (r : List Tok) (i : Nat) (o : List Tok) (H : WHeap), l.drop i = r → i ≤ l.length → o.length ≤ i → ∀ fr, wkeep [0, 3, 4] fr = K16 o l i →
    ∃ fr', wC Vv (wv Vv) witW (.loop [0, 3, 4] lp16_1) fr H = some (.exit 0, fr', H) ∧ fr'.env 3 = OwnV (o ++ stripS r) ∧ fr'.env 2 = .undef ∧ fr'.env 25 = .undef := by
  intro r
  induction r with
  | nil =>
    intro i o H hd hi ho fr hk
    have := drop_end hd hi
    subst this
    rw [w_loop, witW_eq, hk]
    refine ⟨?_, ?_, ?_, ?_, ?_⟩
    rotate_left
    · simp [lp16_1, K16, tks, OwnV]
      rfl
    · simp [OwnV, stripS]
    · simp
    · simp
  | cons t r ih =>
    intro i o H hd hi ho fr hk
    obtain ⟨hlt, ht, hd'⟩ := drop_step hd
    obtain ⟨fr1, h1, h2⟩ := round16 (o := o) (by omega) ht (by omega) H
    have eq : wC Vv (wv Vv) witW (.loop [0, 3, 4] lp16_1) fr H = wC Vv (wv Vv) witW (.loop [0, 3, 4] lp16_1) fr1 H := by rw [w_loop, witW_eq, hk, h1]; rfl
    obtain ⟨fr', g1, g2, g3, g4⟩ := ih (i + 1) _ H hd' (by omega) (by
      split
      · omega
      · rw [List.length_append, List.length_singleton]; omega) fr1 h2
    refine ⟨fr', by rw [eq]; exact g1, ?_, g3, g4⟩
    rw [g2]
    cases ha : t.auto <;> simp [stripS, ha]
theorem strip16 (l : List Tok) (hn : l.length < 100000000) : wv Vv 16 [.c (tks l)] [] = some (OwnV (stripS l), []) := by
  rw [wv_eq, wFn, vfn16]
  simp [ic16, tks]
  generalize hX : ({ env := _, al := _ } : WFr) = X
  obtain ⟨fr', g1, g2, g3, g4⟩ := loop16 hn l 0 [] [] rfl (Nat.zero_le _) (Nat.zero_le _) X (by subst hX; simp [K16, tks, OwnV])
  rw [g1]
  rw [List.nil_append] at g2
  simp only [OwnV] at g2 ⊢
  simp [g2, g3, g4, List.filter, leaveP]
/-! ### Explicit -/
def K17 (v : WV) (l : List Tok) (i : Nat) : WFr := K15 v l i
set_option maxHeartbeats 2000000 in
theorem round17 {l : List Tok} {t : Tok} {i : Nat} {o : List Tok} {v : WV} (hn : l.length < 1000000000) (ht : l[i]? = some t) (hv : OutV v o) (ho : o.length < 1000000000) (H : WHeap) :
    ∃ fr' v' H', wC Vv (wv Vv) witW lp17_1 (K15 v l i) H = some (.nrm, fr', H') ∧ wkeep [3, 6, 7, 8] fr' = K15 v' l (i + 1) ∧ OutV v' (o ++ [unA t]) := by
  have hx : (l.map tokC)[i]? = some (tokC t) := by simp [ht]
  have hlt : i < l.length := (List.getElem?_eq_some_iff.1 ht).1
  have c1 : (i : Int) < l.length := by omega
  have w1 : IntKind.i64.wrap ((i : Int) + 1) = (i : Int) + 1 := by rw [wrap_id] <;> omega
  have b1 : o.length + 1 ≤ 140737488355328 := by omega
  have b2 : (o.length + 1) * 72 ≤ 140737488355328 := by omega
  have hga : ∀ x : WO, (H ++ [x])[H.length]? = some x := by intro x; simp
  have hgs : ∀ x y : WO, (H ++ [x]).set H.length y = H ++ [y] := by intro x y; simp
  rcases hv with ⟨rfl, ho'⟩ | rfl
  · refine ⟨?_, _, H ++ [.var (some 7) [.c (.int .i64 t.op), .c (.str t.mod), .c (.str t.text), .c (.int .i64 t.n), .c (.bool false), .c (.int .i64 t.line), .c (.int .i64 t.col)]], ?_, ?_, .inr rfl⟩
    rotate_left
    · simp [-getElem?_pos, List.getElem?_cons_zero, lp17_1, K15, tks, hx, hlt, c1, hga, hgs, lim]
      rfl
    · simp [K15, tks, w1, ho', unA]
  · refine ⟨?_, _, H ++ [.var (some 7) [.c (.int .i64 t.op), .c (.str t.mod), .c (.str t.text), .c (.int .i64 t.n), .c (.bool false), .c (.int .i64 t.line), .c (.int .i64 t.col)]], ?_, ?_, .inr rfl⟩
    rotate_left
    · simp [-getElem?_pos, List.getElem?_cons_zero, lp17_1, K15, tks, hx, hlt, c1, hga, hgs, lim, b1, b2]
      rfl
    · simp [K15, tks, w1, unA]
theorem loop17 {l : List Tok} (hn : l.length < 100000000) : ∀ (r : List Tok) (i : Nat) (o : List Tok) (v : WV) (H : WHeap), l.drop i = r → i ≤ l.length → OutV v o → o.length ≤ i → ∀ fr, wkeep [3, 6, 7, 8] fr = K15 v l i →
    ∃ fr' v' H', wC Vv (wv Vv) witW (.loop [3, 6, 7, 8] lp17_1) fr H = some (.exit 0, fr', H') ∧ fr'.env 3 = v' ∧ fr'.env 2 = .undef ∧ fr'.env 18 = .undef ∧ OutV v' (o ++ r.map unA) := by
  intro r
  induction r with
  | nil =>
    intro i o v H hd hi hv ho fr hk
    have := drop_end hd hi
    subst this
    rw [w_loop, witW_eq, hk]
    refine ⟨?_, v, H, ?_, ?_, ?_, ?_, by simpa using hv⟩
    rotate_left
    · simp [lp17_1, K15]
      rfl
    · simp [K15]
    · simp [K15]
    · simp [K15]
  | cons t r ih =>
    intro i o v H hd hi hv ho fr hk
    obtain ⟨hlt, ht, hd'⟩ := drop_step hd
    obtain ⟨fr1, v1, H1, h1, h2, h3⟩ := round17 (by omega) ht hv (by omega) H
    have eq : wC Vv (wv Vv) witW (.loop [3, 6, 7, 8] lp17_1) fr H = wC Vv (wv Vv) witW (.loop [3, 6, 7, 8] lp17_1) fr1 H1 := by rw [w_loop, witW_eq, hk, h1]; rfl
    obtain ⟨fr', v', H', g1, g2, g3, g4, g5⟩ := ih (i + 1) _ v1 H1 hd' (by omega) h3 (by
      rw [List.length_append, List.length_singleton]; omega) fr1 h2
    refine ⟨fr', v', H', by rw [eq]; exact g1, g2, g3, g4, ?_⟩
    simpa using g5
theorem explicit17 (l : List Tok) (hn : l.length < 100000000) : ∃ v H', wv Vv 17 [.c (tks l)] [] = some (v, H') ∧ OutV v (l.map unA) := by
  rw [wv_eq, wFn, vfn17]
  simp [ic17, tks]
  generalize hX : ({ env := _, al := _ } : WFr) = X
  obtain ⟨fr', v', H', g1, g2, g3, g4, g5⟩ := loop17 hn l 0 [] .nils [] rfl (Nat.zero_le _) (.inl ⟨rfl, rfl⟩) (Nat.zero_le _) X (by subst hX; simp [K15, tks])
  rw [g1]
  rw [List.nil_append] at g5
  rcases g5 with ⟨rfl, h5⟩ | rfl
  · refine ⟨.nils, ⟨H', ?_⟩, .inl ⟨rfl, h5⟩⟩
    simp [g2, g3, g4]
  · refine ⟨_, ⟨H', ?_⟩, .inr rfl⟩
    simp [g2, g3, g4, List.filter, leaveP]
/-! ### the reference's Explicit -/
def K18 (o : List Tok) (i : Nat) : WFr := { env := wassoc [(3, OwnV o), (4, .c (.int .i64 i))], al := noAl }
set_option maxHeartbeats 2000000 in
theorem round18 {o : List Tok} {t : Tok} {i : Nat} (hn : o.length < 1000000000) (ht : o[i]? = some t) (H : WHeap) :
    ∃ fr', wC Vv (wv Vv) witW lp18_1 (K18 o i) H = some (.nrm, fr', H) ∧ wkeep [3, 4] fr' = K18 (o.set i (unA t)) (i + 1) := by
  have hx : (o.map tokC)[i]? = some (tokC t) := by simp [ht]
  have hlt : i < o.length := (List.getElem?_eq_some_iff.1 ht).1
  have c1 : (i : Int) < o.length := by omega
  have w1 : IntKind.i64.wrap ((i : Int) + 1) = (i : Int) + 1 := by rw [wrap_id] <;> omega
  refine ⟨?_, ?_, ?_⟩
  rotate_left
  · simp [-getElem?_pos, List.getElem?_cons_zero, lp18_1, K18, OwnV, hx, hlt, c1]
    rfl
  · simp [K18, OwnV, w1, unA, List.map_set]
theorem loop18 : ∀ (r d : List Tok) (H : WHeap), d.length + r.length < 100000000 → ∀ fr, wkeep [3, 4] fr = K18 (d ++ r) d.length →
    ∃ fr', wC Vv (wv Vv) witW (.loop [3, 4] lp18_1) fr H = some (.exit 0, fr', H) ∧ fr'.env 3 = OwnV (d ++ r.map unA) ∧ fr'.env 2 = .undef ∧ fr'.env 18 = .undef := by
  intro r
  induction r with
  | nil =>
    intro d H hn fr hk
    rw [w_loop, witW_eq, hk]
    refine ⟨?_, ?_, ?_, ?_, ?_⟩
    rotate_left
    · simp [lp18_1, K18, OwnV]
      rfl
    · simp [OwnV]
    · simp
    · simp
  | cons t r ih =>
    intro d H hn fr hk
    simp only [List.length_cons] at hn
    obtain ⟨fr1, h1, h2⟩ := round18 (o := d ++ t :: r) (t := t) (i := d.length) (by simp only [List.length_append, List.length_cons]; omega) (by simp) H
    have eq : wC Vv (wv Vv) witW (.loop [3, 4] lp18_1) fr H = wC Vv (wv Vv) witW (.loop [3, 4] lp18_1) fr1 H := by rw [w_loop, witW_eq, hk, h1]; rfl
    have e : (d ++ t :: r).set d.length (unA t) = (d ++ [unA t]) ++ r := by simp
    rw [e] at h2
    obtain ⟨fr', g1, g2, g3, g4⟩ := ih (d ++ [unA t]) H (by rw [List.length_append, List.length_singleton]; omega) fr1 (by rw [h2, List.length_append, List.length_singleton])
    refine ⟨fr', by rw [eq]; exact g1, ?_, g3, g4⟩
    rw [g2]
    simp
theorem explicit18 (l : List Tok) (hn : l.length < 100000000) : wv Vv 18 [.c (tks l)] [] = some (OwnV (l.map unA), []) := by
  cases l with
  | nil =>
    rw [wv_eq, wFn, vfn18]
    simp [ic18, tks, lim]
    generalize hX : ({ env := _, al := _ } : WFr) = X
    obtain ⟨fr', g1, g2, g3, g4⟩ := loop18 [] [] [] (by simp) X (by subst hX; simp [K18, OwnV])
    rw [g1]
    simp only [OwnV, List.map_nil, List.append_nil] at g2 ⊢
    simp [g2, g3, g4, List.filter, leaveP]
  | cons t r =>
    simp only [List.length_cons] at hn
    have b1 : r.length + 1 ≤ 140737488355328 := by omega
    have b2 : (r.length + 1) * 72 ≤ 140737488355328 := by omega
    rw [wv_eq, wFn, vfn18]
    simp [ic18, tks, lim, b1, b2]
    generalize hX : ({ env := _, al := _ } : WFr) = X
    obtain ⟨fr', g1, g2, g3, g4⟩ := loop18 (t :: r) [] [] (by simp only [List.length_nil, List.length_cons]; omega) X (by subst hX; simp [K18, OwnV])
    rw [g1]
    rw [List.nil_append] at g2
    simp only [OwnV] at g2 ⊢
    simp [g2, g3, g4, List.filter, leaveP]
end Go.Proofs.TryL
