/- Layout: the law about Strip. -/
import Derived.Test.YtmjofajbfondhaaLzLayStrip2
import Derived.Test.YtmjofajbfondhaaLzLayGr
set_option linter.unusedSimpArgs false
set_option linter.unusedVariables false
namespace Go.Proofs.TryL
open Go.Proofs.Lz
theorem few7w (ek : Option Nat) (xs : List CV) (H : WHeap) : wv Vv 7 [.c (.frz ek xs)] H = some (.c (.bool (decide (xs.length ≤ 3000))), H) := by
  rw [wv_eq, wFn, vfn7]
  simp [ic7]
  omega
def isTw : Option (WV × WHeap) → Bool
  | some (.c (.bool true), _) => true
  | _ => false
theorem isTw_some {o : Option (WV × WHeap)} (h : isTw o = true) : ∃ H, o = some (.c (.bool true), H) := by
  unfold isTw at h
  split at h
  · exact ⟨_, rfl⟩
  · cases h
theorem ex8w0 : isTw (wF Vv 40 8 [] []) = true := by kernel_rfl
theorem ex8w : ∃ H, wv Vv 8 [] [] = some (.c (.bool true), H) := by
  obtain ⟨H, h⟩ := isTw_some ex8w0
  exact ⟨H, wv_of h⟩
theorem strip15n : wv Vv 15 [.c (.frz none [])] [] = some (.nils, []) := by
  rw [wv_eq, wFn, vfn15]
  simp [ic15, w_loop, witW_eq, lp15_1]
theorem err_code {l : List Tok} {f : Flt} (h : insertS l = .error f) : f.code ≠ 0 := by
  have hgo : ∀ (l : List Tok) (b : Tok) (i : Nat) (s : St), goI l b i s = .error f → f.code = 9 := by
    intro l
    induction l with
    | nil => intro b i s h; cases h
    | cons t r ih =>
      intro b i s h
      unfold goI at h
      split at h
      · injection h with h; subst h; rfl
      · exact ih _ _ _ h
  unfold insertS at h
  split at h
  · injection h with h; subst h; decide
  · cases hg : goI l zT 0 st0 with
    | error f' =>
      rw [hg] at h
      injection h with h
      subst h
      rw [hgo _ _ _ _ hg]
      decide
    | ok s =>
      rw [hg] at h
      simp only [endI] at h
      split at h
      · injection h with h; subst h; show (9 : Int) ≠ 0; decide
      · split at h
        · injection h with h; subst h; show (3 : Int) ≠ 0; decide
        · cases h
theorem OutV.shut {v : WV} {o : List Tok} (h : OutV v o) : ∃ c, ClV c o ∧ (v = .nils ∧ c = .frz none [] ∨ v = .own true 33 (some 7) (o.map tokC) ∧ c = tks o) := by
  rcases h with ⟨rfl, rfl⟩ | rfl
  · exact ⟨_, .inl ⟨rfl, rfl⟩, .inl ⟨rfl, rfl⟩⟩
  · exact ⟨_, .inr rfl, .inr ⟨rfl, rfl⟩⟩
set_option maxHeartbeats 2000000 in
theorem law6w (l : List Tok) : ∃ H', wv Vv 6 [.c (.frz (some 7) (l.map tokC))] [] = some (.c (.bool true), H') := by
  obtain ⟨H8, h8⟩ := ex8w
  have h7 := few7w (some 7) (l.map tokC) []
  by_cases hf : l.length ≤ 3000
  · obtain ⟨v9, H9, h9, o9⟩ := insert9 l (by omega)
    obtain ⟨v15, h15, o15⟩ := strip15 l (by omega)
    have h16 := strip16 l (by omega)
    obtain ⟨v17, H17, h17, o17⟩ := explicit17 l (by omega)
    have h18 := explicit18 l (by omega)
    have hlen : (stripS l).length ≤ l.length := List.length_filter_le _ _
    obtain ⟨c15, s15, e15⟩ := o15.shut
    obtain ⟨c17, s17, e17⟩ := o17.shut
    have q1 := same11 s15 (.inr rfl : ClV (tks (stripS l)) (stripS l)) (by omega)
    have q2 := same11 s17 (.inr rfl : ClV (tks (l.map unA)) (l.map unA)) (by rw [List.length_map]; omega)
    simp only [OwnV, tks] at h9 h15 h16 h17 h18 q1 q2
    cases hi : insertS l with
    | error f =>
      rw [hi] at h9 o9
      have hc : f.code ≠ 0 := err_code hi
      simp only [exO, exF, fltC] at h9 o9
      refine ⟨[], ?_⟩
      rw [wv_eq, wFn, vfn6]
      rcases e15 with ⟨rfl, rfl⟩ | ⟨rfl, rfl⟩ <;> rcases e17 with ⟨rfl, rfl⟩ | ⟨rfl, rfl⟩ <;> rcases o9 with ⟨rfl, _⟩ | rfl <;>
      · try simp only [tks] at q1
        try simp only [tks] at q2
        simp [-List.map_map, ic6, h7, h8, hf, h9, h15, h16, h17, h18, q1, q2, hc]
    | ok o =>
      rw [hi] at h9 o9
      have hso : stripS o = l := strip_insert hi
      have hol : o.length < 100000000 := by
        have : o.length ≤ 16384 := by
          have h := hi
          unfold insertS at h
          split at h
          · cases h
          · cases hg : goI l zT 0 st0 with
            | error f' => rw [hg] at h; cases h
            | ok s =>
              rw [hg] at h
              simp only [endI] at h
              split at h
              · cases h
              · split at h
                · cases h
                · injection h with h; subst h; omega
        omega
      simp only [exO, exF, fltC, noF] at h9 o9
      refine ⟨[], ?_⟩
      rw [wv_eq, wFn, vfn6]
      rcases o9 with ⟨rfl, ho⟩ | rfl
      · have hl0 : l = [] := by rw [← hso, ho]; rfl
        have q3 := same11 (.inl ⟨rfl, rfl⟩ : ClV (.frz none []) []) (.inr rfl : ClV (tks l) l) (by simp)
        have h15n := strip15n
        rw [show decide ([] = l) = true by rw [hl0]; rfl] at q3
        simp only [tks] at q3
        rcases e15 with ⟨rfl, rfl⟩ | ⟨rfl, rfl⟩ <;> rcases e17 with ⟨rfl, rfl⟩ | ⟨rfl, rfl⟩ <;>
        · try simp only [tks] at q1
          try simp only [tks] at q2
          simp [-List.map_map, ic6, h7, h8, hf, h9, h15, h16, h17, h18, q1, q2, q3, h15n]
      · obtain ⟨vo, hvo, oo⟩ := strip15 o hol
        obtain ⟨co, so, eo⟩ := oo.shut
        have q3 := same11 so (.inr rfl : ClV (tks l) l) (by rw [hso]; omega)
        rw [show decide (stripS o = l) = true by rw [hso]; simp] at q3
        simp only [tks] at hvo q3
        rcases e15 with ⟨rfl, rfl⟩ | ⟨rfl, rfl⟩ <;> rcases e17 with ⟨rfl, rfl⟩ | ⟨rfl, rfl⟩ <;> rcases eo with ⟨rfl, rfl⟩ | ⟨rfl, rfl⟩ <;>
        · try simp only [tks] at q1
          try simp only [tks] at q2
          try simp only [tks] at q3
          simp [-List.map_map, ic6, h7, h8, hf, h9, h15, h16, h17, h18, q1, q2, q3, hvo]
  · refine ⟨[], ?_⟩
    rw [wv_eq, wFn, vfn6]
    simp [-List.map_map, ic6, h7, h8, hf]
end Go.Proofs.TryL
