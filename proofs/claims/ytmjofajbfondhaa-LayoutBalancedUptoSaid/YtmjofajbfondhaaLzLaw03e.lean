/- Layout: the law about balanced braces, whole. -/
import Derived.Test.YtmjofajbfondhaaLzLaw03d
set_option linter.unusedSimpArgs false
set_option linter.unusedVariables false
namespace Go.Proofs.TryL
open Go.Proofs.Lz
def K4 (c c3 : CV) (n : Int) (i : Nat) : WFr := { env := wassoc [(0, .c c), (3, .c c3), (5, .c (.int .i64 n)), (6, .c (.int .i64 i))], al := noAl }
set_option maxHeartbeats 2000000 in
theorem round4 (l : List Tok) {o : List Tok} {t : Tok} {n : Int} {i : Nat} (hi : o[i]? = some t) (hl : o.length < 1000000000) (hn : 0 ≤ n ∧ n ≤ i) (hb : 0 ≤ bstep n t) (H : WHeap) :
    ∃ fr1, wC Vv (wv Vv) witW lp4_1 (K4 (tks l) (tks o) n i) H = some (.nrm, fr1, H) ∧ wkeep [0, 3, 5, 6] fr1 = K4 (tks l) (tks o) (bstep n t) (i + 1) := by
  have hx : (o.map tokC)[i]? = some (tokC t) := by simp [hi]
  have hlt : i < o.length := (List.getElem?_eq_some_iff.1 hi).1
  have c1 : (i : Int) < o.length := by omega
  have w1 : IntKind.i64.wrap (n + 1) = n + 1 := wrap_id (by omega) (by omega)
  have w2 : IntKind.i64.wrap (n - 1) = n - 1 := wrap_id (by omega) (by omega)
  have w4 : IntKind.i64.wrap ((i : Int) + 1) = (i : Int) + 1 := wrap_id (by omega) (by omega)
  have n1 : ¬ n < 0 := by omega
  have n2 : ¬ n + 1 < 0 := by omega
  cases ha : t.auto with
  | false =>
    refine ⟨?_, ?_, ?_⟩
    rotate_left
    · simp [-getElem?_pos, List.getElem?_cons_zero, lp4_1, K4, tks, hx, hlt, c1, ha, n1]
      rfl
    · simp [K4, tks, bstep, ha, w4]
  | true =>
    by_cases h1 : t.text = [123]
    · refine ⟨?_, ?_, ?_⟩
      rotate_left
      · simp [-getElem?_pos, List.getElem?_cons_zero, lp4_1, K4, tks, hx, hlt, c1, ha, h1, w1, n2]
        rfl
      · simp [K4, tks, bstep, ha, h1, w1, w4]
    · by_cases h2 : t.text = [125]
      · have hb' : 0 ≤ n - 1 := by simpa [bstep, ha, h2] using hb
        have n3 : ¬ n - 1 < 0 := by omega
        refine ⟨?_, ?_, ?_⟩
        rotate_left
        · simp [-getElem?_pos, List.getElem?_cons_zero, lp4_1, K4, tks, hx, hlt, c1, ha, h2, w2, n3]
          rfl
        · simp [K4, tks, bstep, ha, h2, w2, w4]
      · refine ⟨?_, ?_, ?_⟩
        rotate_left
        · simp [-getElem?_pos, List.getElem?_cons_zero, lp4_1, K4, tks, hx, hlt, c1, ha, h1, h2, n1]
          rfl
        · simp [K4, tks, bstep, ha, h1, h2, w4]
theorem bstep_le (n : Int) (t : Tok) : bstep n t ≤ n + 1 := by
  unfold bstep
  dsimp only
  split <;> split <;> omega
theorem loop4 (l : List Tok) {o : List Tok} {c3 : CV} (hc : ClV c3 o) (hl : o.length < 1000000000) (H : WHeap) : ∀ (r : List Tok) (i : Nat) (n : Int), o.drop i = r → i ≤ o.length → Bal n r 0 → 0 ≤ n ∧ n ≤ i → ∀ fr, wkeep [0, 3, 5, 6] fr = K4 (tks l) c3 n i →
    ∃ fr', wC Vv (wv Vv) witW (.loop [0, 3, 5, 6] lp4_1) fr H = some (.exit 0, fr', H) ∧ fr'.env 0 = .c (tks l) ∧ fr'.env 3 = .c c3 ∧ fr'.env 5 = .c (.int .i64 0) ∧ fr'.env 2 = .undef ∧ fr'.env 59 = .undef ∧ fr'.env 60 = .undef ∧ fr'.env 61 = .undef ∧ fr'.env 62 = .undef ∧ fr'.env 63 = .undef ∧ fr'.env 64 = .undef ∧ fr'.env 65 = .undef ∧ fr'.env 66 = .undef ∧ fr'.env 67 = .undef ∧ fr'.env 68 = .undef ∧ fr'.env 69 = .undef ∧ fr'.env 70 = .undef := by
  intro r
  induction r with
  | nil =>
    intro i n hd hi hb hn fr hk
    have := drop_end hd hi
    subst this
    have hb : n = 0 := hb
    subst hb
    obtain ⟨ek, xs, e1, e2⟩ := hc.len
    rw [w_loop, witW_eq, hk]
    refine ⟨?_, ?_, ?_⟩
    rotate_left
    · simp [lp4_1, K4, tks, e1, e2]
      rfl
    · simp [K4, tks, e1]
  | cons t r ih =>
    intro i n hd hi hb hn fr hk
    obtain ⟨hlt, ht, hd'⟩ := drop_step hd
    have e3 : c3 = tks o := by
      rcases hc with ⟨_, h⟩ | h
      · rw [h] at hlt; cases hlt
      · exact h
    subst e3
    obtain ⟨b1, b2⟩ := hb
    obtain ⟨fr1, h1, h2⟩ := round4 l ht hl hn b1 H
    have eq : wC Vv (wv Vv) witW (.loop [0, 3, 5, 6] lp4_1) fr H = wC Vv (wv Vv) witW (.loop [0, 3, 5, 6] lp4_1) fr1 H := by rw [w_loop, witW_eq, hk, h1]; rfl
    have := bstep_le n t
    obtain ⟨fr', g⟩ := ih (i + 1) _ hd' (by omega) b2 ⟨b1, by omega⟩ fr1 h2
    exact ⟨fr', by rw [eq]; exact g⟩
theorem ok_len {l o : List Tok} (hi : insertS l = .ok o) : o.length ≤ 16384 := by
  unfold insertS at hi
  split at hi
  · cases hi
  · cases hg : goI l zT 0 st0 with
    | error f' => rw [hg] at hi; cases hi
    | ok s =>
      rw [hg] at hi
      simp only [endI] at hi
      split at hi
      · cases hi
      · split at hi
        · cases hi
        · injection hi with hi; subst hi; omega
set_option maxHeartbeats 4000000 in
theorem law4w (l : List Tok) (hn : l.length < 4000000) : ∃ H', wv Vv 4 [.c (.frz (some 7) (l.map tokC))] [] = some (.c (.bool true), H') := by
  obtain ⟨H8, h8⟩ := ex8w
  have h7 := few7w (some 7) (l.map tokC) []
  obtain ⟨v9, H9, h9, o9⟩ := insert9 l hn
  obtain ⟨c9, s9, e9⟩ := o9.shut
  refine ⟨[], ?_⟩
  rw [wv_eq, wFn, vfn4]
  simp only [tks, fltC] at h9
  by_cases hf : l.length ≤ 3000
  · cases hi : insertS l with
    | error f =>
      rw [hi] at h9 o9 s9 e9
      have hc : f.code ≠ 0 := err_code hi
      simp only [exO, exF] at h9 o9 s9 e9
      rcases e9 with ⟨rfl, rfl⟩ | ⟨rfl, rfl⟩ <;>
        simp [ic4, h7, h8, hf, h9, hc]
    | ok o =>
      rw [hi] at h9 o9 s9 e9
      have hol := ok_len hi
      obtain ⟨hau, hw⟩ := wov_insert hi
      have hbal : Bal 0 o 0 := by simpa using wov_bal hw hau
      have hmost : most 0 0 l ≤ most 0 0 o := by simpa using wov_most hw 0 0 0 (Int.le_refl _)
      have d1 := depth12 l (by omega) []
      simp only [exO, exF, noF] at h9 o9 s9 e9
      rcases e9 with ⟨rfl, rfl⟩ | ⟨rfl, rfl⟩
      · have ho : o = [] := by
          rcases s9 with ⟨_, h⟩ | h
          · exact h
          · simp only [tks] at h; injection h with h1 h2; cases h1
        have hl : l = [] := by rw [← strip_insert hi, ho]; rfl
        subst hl
        simp only [List.map_nil] at h9 h7 ⊢
        have d1 := d1
        simp only [tks, List.map_nil, most] at d1
        have d2 := depth12n []
        simp [ic4, h7, h8, h9]
        generalize hX : ({ env := _, al := _ } : WFr) = X
        obtain ⟨fr', g0, ga, gb, gc, g2, g59, g60, g61, g62, g63, g64, g65, g66, g67, g68, g69, g70⟩ := loop4 [] s9 (by omega) [] o 0 0 rfl (Nat.zero_le _) hbal (by omega) X (by subst hX; simp [K4, tks])
        rw [g0]
        simp only [tks, List.map_nil] at ga
        simp [ga, gb, gc, g2, g59, g60, g61, g62, g63, g64, g65, g66, g67, g68, g69, g70, d1, d2, h8]
      · have d2 := depth12 o (by omega) []
        simp only [tks] at d1 d2
        simp [ic4, h7, h8, hf, h9]
        generalize hX : ({ env := _, al := _ } : WFr) = X
        obtain ⟨fr', g0, ga, gb, gc, g2, g59, g60, g61, g62, g63, g64, g65, g66, g67, g68, g69, g70⟩ := loop4 l s9 (by omega) [] o 0 0 rfl (Nat.zero_le _) hbal (by omega) X (by subst hX; simp [K4, tks])
        rw [g0]
        simp only [tks] at ga gb
        simp [ga, gb, gc, g2, g59, g60, g61, g62, g63, g64, g65, g66, g67, g68, g69, g70, d1, d2, h8, hmost]
  · rcases e9 with ⟨rfl, rfl⟩ | ⟨rfl, rfl⟩ <;>
      simp [ic4, h7, h8, hf, h9]
end Go.Proofs.TryL
