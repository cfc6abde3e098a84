/- Layout: the law about Insert. -/
import Derived.Test.YtmjofajbfondhaaLzRefAB
import Derived.Test.YtmjofajbfondhaaLzLaw03s
set_option linter.unusedSimpArgs false
set_option linter.unusedVariables false
namespace Go.Proofs.TryL
open Go.Proofs.Lz
theorem few7r (ek : Option Nat) (xs : List CV) : Rets Vv 7 [.c (.frz ek xs)] (.c (.bool (decide (xs.length ≤ 3000)))) := by
  obtain h := few7w ek xs []
  exact ⟨_, _, h, rfl⟩
theorem ex8r : Rets Vv 8 [] (.c (.bool true)) := by
  obtain ⟨H, h⟩ := ex8w
  exact ⟨_, _, h, rfl⟩
theorem ins9r (l : List Tok) (hl : l.length < 1000000) : ∃ w, Q10 (insertS l) w ∧ Rets Vv 9 [.c (tks l)] w := by
  obtain ⟨v, H, h, hv⟩ := insert9 l (by omega)
  obtain ⟨c, h1, h2⟩ := hv.shut
  refine ⟨_, ⟨c, h1, rfl⟩, _, _, h, ?_⟩
  rcases h2 with ⟨rfl, rfl⟩ | ⟨rfl, rfl⟩ <;> rfl
theorem law3r (l : List Tok) : Rets Vv 3 [.c (tks l)] (.c (.bool true)) := by
  have h7 := few7r (some 7) (l.map tokC)
  rw [List.length_map] at h7
  refine rets_of vfn3 ?_
  by_cases hf : l.length ≤ 3000
  · rw [decide_eq_true hf] at h7
    obtain ⟨w9, ⟨c9, q9, rfl⟩, h9⟩ := ins9r l (by omega)
    obtain ⟨w10, ⟨c10, q10, rfl⟩, h10⟩ := insert10 l (by omega)
    have h11 : Rets Vv 11 [.c c9, .c c10] (.c (.bool true)) := by
      have h := same11 q9 q10 (by
        cases hi : insertS l with
        | error f => simp [exO]
        | ok o =>
          have : o.length ≤ 16384 := by
            have h := hi
            unfold insertS at h
            split at h
            · cases h
            · cases hg : goI l zT 0 st0 with
              | error f' => rw [hg] at h; cases h
              | ok s =>
                rw [hg] at h
                simp only [endI] at h
                split at h
                · cases h
                · split at h
                  · cases h
                  · injection h with h; subst h; omega
          simp only [exO]; omega)
      rw [decide_eq_true rfl] at h
      exact ⟨_, _, h, rfl⟩
    generalize exF (insertS l) = f at h9 h10
    repeat' first
      | apply wo_cons
      | exact put_c0
      | exact put_v0 rfl
      | (apply op_mv_c; exact rfl; exact rfl)
      | (apply op_load_boxc; (iterate 3 exact rfl))
      | (apply op_un; exact rfl; exact rfl)
      | (apply op_eqs; (iterate 3 exact rfl))
      | (apply op_pick_tc; exact rfl; (with_reducible exact rfl); exact rfl)
      | (apply op_pick_fc; exact rfl; (with_reducible exact rfl); exact rfl)
      | (apply op_mv_tup; (iterate 3 exact rfl))
      | (apply op_lbox; exact rfl; exact rfl; exact boxed_FL (by first | exact rfl | assumption | exact clean_hit (by assumption)))
      | (apply op_store_all; (iterate 4 exact rfl); exact stored0_FL (by first | exact rfl | assumption | exact clean_hit (by assumption)))
      | (apply op_ext; exact rfl; exact rfl)
      | (apply op_call (hc := h7); exact rfl; exact rfl; exact rfl)
      | (apply op_call (hc := h9); exact rfl; exact rfl; exact rfl)
      | (apply op_call (hc := h10); exact rfl; exact rfl; exact rfl)
      | (apply op_call (hc := h11); exact rfl; exact rfl; exact rfl)
      | (apply op_call (hc := ex8r); exact rfl; exact rfl; exact rfl)
      | apply wp_seq
      | apply wp_region0
      | apply wo_nil
      | apply wp_skip
      | apply wp_ret
      | (apply wp_if; exact rfl)
      | (apply wo_run; exact rfl; (with_reducible exact rfl))
      | (apply wo_skip_t; exact rfl; (with_reducible exact rfl))
      | (apply wo_if; exact rfl)
      | with_reducible exact cnd_ft
      | with_reducible apply cnd_tt
      | with_reducible apply cnd_nT
      | with_reducible apply cnd_nF
      | (with_reducible apply cnd_x; intro hc)
      | (apply fin1c; exact rfl)
    · rfl
    · simp at hc
  · rw [decide_eq_false hf] at h7
    repeat' first
      | apply wo_cons
      | exact put_c0
      | (apply op_mv_c; exact rfl; exact rfl)
      | (apply op_un; exact rfl; exact rfl)
      | (apply op_call (hc := h7); exact rfl; exact rfl; exact rfl)
      | (apply op_call (hc := ex8r); exact rfl; exact rfl; exact rfl)
      | apply wp_seq
      | apply wp_region0
      | apply wo_nil
      | apply wp_ret
      | (apply wp_if; exact rfl)
      | with_reducible exact cnd_ff
      | with_reducible apply cnd_xx
      | with_reducible apply cnd_nT
      | with_reducible apply cnd_nF
      | (apply fin1c; exact rfl)
    rfl
theorem law3w (l : List Tok) : ∃ H', wv Vv 3 [.c (.frz (some 7) (l.map tokC))] [] = some (.c (.bool true), H') := by
  exact rets_bool (law3r l)
end Go.Proofs.TryL
