/- A law's row, where the law is told how its arguments lie; and a slice's length. -/
import Derived.Test.YtmjofajbfondhaaLzRow2
set_option linter.unusedVariables false
set_option linter.unusedSimpArgs false
namespace Go.Proofs.Lz
open Go.ChangeShapes Go.WideShapes Go.RowKit
section
variable {H : Type} {enc : TypeId × Value → H} {P : Program} {W : World}
theorem law_callsR {E : Env} (hE : EnvOk P E) (hl : laidOutB P = true) {f : FuncId} {fn : Func} {s : ChangeSpec} {fresh handsOn : Bool} {args : Array Value} {ds gs : List (DataW H)} {before : List MemPlace} {tb : TypeId} {n base : Nat}
    (hps : ∀ t ∈ fn.params.toList, supT P n t = true ∧ (ekOf P t).isSome = true ∧ P.readableRec t = true ∧ t < P.types.size) (hres : fn.resultTypes = #[tb]) (htb : P.underlying tb = some .bool) (hv : s.vars = [])
    (hsp : ∀ (ds : List (DataW H)), ds.length = fn.params.toList.length → s.fn H ds = { results := [.lit (.bool true)], args := ds })
    (law : ∀ xs, ArgsOk P n fn.params.toList xs → RCs W (fun b => b < W.heap.size) xs args.toList → ∃ H', ev E f (xs.map .c) [] = some (.c (.bool true), H'))
    (hval : ∀ (j : Nat) t v, fn.params[j]? = some t → args[j]? = some v → Value.okWide P W .any base t v)
    (hW : DataW.Whole enc P fn.params.toList s.vars false W args.toList ds gs before) :
    Calls P f args W fun e W' => ∃ v, e = .returned v ∧ s.post enc P fn false fresh handsOn false W args v W' := by
  have hW' := hW
  obtain ⟨p, q, hA, _⟩ := hW
  obtain ⟨xs, k1, k2, k3⟩ := args_good (n := n) hA (fun t ht => ⟨(hps t ht).1, (hps t ht).2.1⟩) (fun j t v ht hv => hval j t v (by simpa using ht) (by simpa using hv))
  obtain ⟨H', he⟩ := law xs k1 k2
  obtain ⟨m, hm⟩ := ev_some he
  have hrh : RHs W (fun b => b < W.heap.size) [] (fun _ => ⟨0, 0⟩) (xs.map .c) args.toList := by
    have : ∀ {xs : List CV} {vs : List Value}, RCs W (fun b => b < W.heap.size) xs vs → RHs W (fun b => b < W.heap.size) [] (fun _ => ⟨0, 0⟩) (xs.map .c) vs := by
      intro xs
      induction xs with
      | nil => intro vs h; rw [rcs_nil] at h; subst h; exact rhs_nil.2 rfl
      | cons x xs ih =>
        intro vs h
        rw [rcs_cons] at h
        obtain ⟨v, us, rfl, h1, h2⟩ := h
        exact rhs_cons.2 ⟨v, us, rfl, rh_c.2 h1, ih h2⟩
    exact this k2
  have hg := evF_ok hE m f _ [] _ H' hm W (fun b => b < W.heap.size) (fun _ => ⟨0, 0⟩) args.toList (rheap_empty _ (fun b hb => hb)) hrh
  obtain ⟨_, hc⟩ := hg
  have ea : args.toList.toArray = args := by simp
  rw [ea] at hc
  refine hc.mono fun e W' ⟨v, F', m', he, st, _, hr, _⟩ => ⟨v, he, ?_⟩
  rw [rh_c, rc_bool] at hr
  subst hr
  exact post_true hl (fun t ht => (hps t ht).2.2) hres htb hv hsp k3 hW' (below_of_stp st)

theorem slice_read {spare : Nat → Bool} {t e : TypeId} {ad : Option Addr} {len cap : Nat} {d : DataW H} {ps : List MemPlace} {fuel : Nat} {v : Value} (hu : P.underlying t = some (.slice e)) (hv : v = .slice ad len cap)
    (h : DataW.trod enc P W 0 spare true fuel t v.cells.toList = some (d, ps)) : len = 0 ∨ ∃ elems sp, d = .slice elems sp ∧ elems.length = len := by
  subst hv
  cases fuel with
  | zero => cases h
  | succ fuel =>
    unfold DataW.trod at h
    rw [hu] at h
    dsimp only at h
    split at h <;> rename_i heq <;> (try cases heq)
    · exact .inl rfl
    · refine .inr ?_
      split at h
      · rw [Option.bind_eq_some_iff] at h
        obtain ⟨elems, hm, h⟩ := h
        obtain ⟨m1, _⟩ := mapM_get hm
        rw [Option.map_eq_some_iff] at h
        obtain ⟨rest, _, h2⟩ := h
        injection h2 with h3 h4
        exact ⟨_, _, h3.symm, by simpa using m1⟩
      · cases h
    · cases h
end
end Go.Proofs.Lz
