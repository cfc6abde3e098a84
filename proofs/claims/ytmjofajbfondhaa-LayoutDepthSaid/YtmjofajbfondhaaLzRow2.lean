/- A law's row from what the evaluator gives. -/
import Derived.Test.YtmjofajbfondhaaLzRow
set_option linter.unusedVariables false
set_option linter.unusedSimpArgs false
namespace Go.Proofs.Lz
open Go.ChangeShapes Go.WideShapes Go.RowKit

/-- A closed value of a type, as an argument. -/
def ArgOk (P : Program) (n : Nat) (t : TypeId) (x : CV) : Prop := ∃ zs ek, ekOf P t = some ek ∧ CellsT P n t zs ∧ zs.length = ekSize ek ∧ unflat ek zs = some x
def ArgsOk (P : Program) (n : Nat) : List TypeId → List CV → Prop
  | [], [] => True
  | t :: ts, x :: xs => ArgOk P n t x ∧ ArgsOk P n ts xs
  | _, _ => False

section
variable {H : Type} {enc : TypeId × Value → H} {P : Program} {W : World}

theorem arg_good {spare : Nat → Bool} {base : Nat} {n : Nat} {t : TypeId} {v : Value} {d : DataW H} {ps : List MemPlace} (hs : supT P n t = true) (he : (ekOf P t).isSome = true) (hok : Value.okWide P W .any base t v)
    (h : DataW.Trod enc P W 0 spare true t v d ps) : ∃ x, ArgOk P n t x ∧ RC W (fun b => b < W.heap.size) x v := by
  obtain ⟨fuel, h⟩ := h
  obtain ⟨zs, g1, g2, g3, g4, g5⟩ := trod_good n fuel t _ _ hs h
  obtain ⟨ek, hek⟩ := Option.isSome_iff_exists.1 he
  have hsz := ekOf_size hek
  obtain ⟨y, u, m1, m2, m3, m4⟩ := shape_cells (ek := ek) g2 (by rw [g3, hsz]) g5
  refine ⟨y, ⟨zs, ek, hek, g1, by rw [g4, g3, hsz], m1⟩, ?_⟩
  have huv : u = v := by
    cases ek with
    | some k =>
      obtain ⟨cs, rfl, _, _⟩ := m3
      have hst : ∃ fs, P.underlying t = some (.struct fs) := by
        unfold ekOf at hek
        split at hek
        · rename_i fs _ hu _; exact ⟨fs, hu⟩
        · cases hek
        · split at hek <;> cases hek
        · cases hek
      obtain ⟨fs, hst⟩ := hst
      unfold Value.okWide at hok
      rw [hst] at hok
      obtain ⟨cs', rfl, _, _⟩ := hok
      simp only [Value.cells] at m2
      congr 1
      exact Array.ext' m2
    | none =>
      have hone : v.oneCell' = true := by
        cases n with
        | zero => cases hs
        | succ n =>
          unfold supT at hs
          unfold ekOf at hek
          unfold Value.okWide at hok
          cases hu : P.underlying t with
          | none => rw [hu] at hs; cases hs
          | some td =>
            rw [hu] at hs hok hek
            cases td <;> first | (cases hs; done) | (cases v <;> first | rfl | (simp [Cell.okWide, Cell.ok, hu] at hok; done) | skip)
            all_goals (first | rfl | (exfalso; cases hi : P.info? t <;> rw [hi] at hek <;> simp at hek))
      have h1 : u.cells.toList = [u] := by
        have : u.oneCell' = true := m3
        cases u <;> first | rfl | (simp [Value.oneCell'] at this)
      have h2 : v.cells.toList = [v] := by cases v <;> first | rfl | (simp [Value.oneCell'] at hone)
      rw [h1, h2] at m2
      injection m2
  rw [← huv]
  exact m4

theorem args_good {spare : Nat → Bool} {base n : Nat} : ∀ {ts : List TypeId} {vs : List Value} {ds : List (DataW H)} {ps : List MemPlace}, DataW.TrodAll enc P W 0 spare true ts vs ds ps →
    (∀ t ∈ ts, supT P n t = true ∧ (ekOf P t).isSome = true) → (∀ (j : Nat) t v, ts[j]? = some t → vs[j]? = some v → Value.okWide P W .any base t v) →
    ∃ xs, ArgsOk P n ts xs ∧ RCs W (fun b => b < W.heap.size) xs vs ∧ ds.length = ts.length
  | [], _, _, _, h, _, _ => by
    obtain ⟨rfl, rfl, rfl⟩ := trodAll_nil h
    exact ⟨[], trivial, rcs_nil.2 rfl, rfl⟩
  | t :: ts, _, _, _, h, hs, hok => by
    obtain ⟨v, vs1, d, ds1, a, b, rfl, rfl, rfl, h1, h2⟩ := trodAll_cons h
    obtain ⟨x, k1, k2⟩ := arg_good (hs t (by simp)).1 (hs t (by simp)).2 (hok 0 t v rfl rfl) h1
    obtain ⟨xs, k3, k4, k5⟩ := args_good h2 (fun t' ht => hs t' (by simp [ht])) (fun j t' v' ht hv => hok (j + 1) t' v' (by simpa using ht) (by simpa using hv))
    exact ⟨x :: xs, ⟨k1, k3⟩, rcs_cons.2 ⟨v, vs1, rfl, k2, k4⟩, by simp [k5]⟩

/-- The arguments read behind the call as they did. -/
theorem trodAll_below (hl : laidOutB P = true) {W' : World} (hb : Below W.heap.size W W') : ∀ {ts : List TypeId} {vs : List Value} {ds : List (DataW H)} {ps : List MemPlace}, DataW.TrodAll enc P W 0 (fun _ => true) true ts vs ds ps →
    (∀ t ∈ ts, P.readableRec t = true ∧ t < P.types.size) → (∀ x ∈ ps, x.block < W.heap.size) → DataW.TrodAll enc P W' 0 (fun b => decide (b < W.heap.size)) true ts vs ds ps
  | [], _, _, _, h, _, _ => by
    obtain ⟨rfl, rfl, rfl⟩ := trodAll_nil h
    exact rfl
  | t :: ts, _, _, _, h, hs, hlt => by
    obtain ⟨v, vs1, d, ds1, a, b, rfl, rfl, rfl, h1, h2⟩ := trodAll_cons h
    exact ⟨a, b, Below.trod hl (hs t (by simp)).1 (hs t (by simp)).2 h1 hb (fun x hx => hlt x (by simp [hx])), trodAll_below hl hb h2 (fun t' ht => hs t' (by simp [ht])) (fun x hx => hlt x (by simp [hx])), rfl⟩

theorem below_of_stp {F F' : Nat → Prop} {H' : Heap} {m m' : LMap} {W' : World} (st : Stp W.heap.size F F' [] H' m m' W W') : Below W.heap.size W W' :=
  ⟨st.os, st.tape, st.output, st.size, fun b hb => (st.far b hb (fun id h => by simp at h)).1⟩

/-- What is owed behind the call, of a law that answers true. -/
theorem post_true (hl : laidOutB P = true) {fn : Func} {s : ChangeSpec} {fresh handsOn : Bool} {W' : World} {args : Array Value} {ds gs : List (DataW H)} {before : List MemPlace} {tb : TypeId}
    (hps : ∀ t ∈ fn.params.toList, P.readableRec t = true ∧ t < P.types.size) (hres : fn.resultTypes = #[tb]) (htb : P.underlying tb = some .bool) (hv : s.vars = [])
    (hsp : ∀ (ds : List (DataW H)), ds.length = fn.params.toList.length → s.fn H ds = { results := [.lit (.bool true)], args := ds }) (hlen : ds.length = fn.params.toList.length)
    (hW : DataW.Whole enc P fn.params.toList s.vars false W args.toList ds gs before) (hb : Below W.heap.size W W') : s.post enc P fn false fresh handsOn false W args (.bool true) W' := by
  have hW' := hW
  obtain ⟨p, q, hA, hV, rfl, hz, _⟩ := hW
  rw [hv] at hV
  obtain ⟨rfl, rfl⟩ := trodVars_none hV
  have hlt : ∀ x ∈ p, x.block < W.heap.size := fun x hx => hW'.lt x (by simp [hx])
  have e : s.fn H (ds ++ []) = { results := [.lit (.bool true)], args := ds } := by rw [List.append_nil]; exact hsp ds hlen
  refine ⟨ds, [], p ++ [], [], p, [], hW', ?_, ?_, ?_, hb.frame _, fun h => by cases h⟩
  · rw [e, hres]
    exact trodAll_mk1 (shut_bool htb true)
  · rw [e]
    exact trodAll_below hl hb hA hps hlt
  · rw [e, hv]
    exact (rfl : ([] : List MemPlace) = [])

theorem law_calls {E : Env} (hE : EnvOk P E) (hl : laidOutB P = true) {f : FuncId} {fn : Func} {s : ChangeSpec} {fresh handsOn : Bool} {args : Array Value} {ds gs : List (DataW H)} {before : List MemPlace} {tb : TypeId} {n base : Nat}
    (hps : ∀ t ∈ fn.params.toList, supT P n t = true ∧ (ekOf P t).isSome = true ∧ P.readableRec t = true ∧ t < P.types.size) (hres : fn.resultTypes = #[tb]) (htb : P.underlying tb = some .bool) (hv : s.vars = [])
    (hsp : ∀ (ds : List (DataW H)), ds.length = fn.params.toList.length → s.fn H ds = { results := [.lit (.bool true)], args := ds })
    (law : ∀ xs, ArgsOk P n fn.params.toList xs → ∃ H', ev E f (xs.map .c) [] = some (.c (.bool true), H'))
    (hval : ∀ (j : Nat) t v, fn.params[j]? = some t → args[j]? = some v → Value.okWide P W .any base t v)
    (hW : DataW.Whole enc P fn.params.toList s.vars false W args.toList ds gs before) :
    Calls P f args W fun e W' => ∃ v, e = .returned v ∧ s.post enc P fn false fresh handsOn false W args v W' := by
  have hW' := hW
  obtain ⟨p, q, hA, _⟩ := hW
  obtain ⟨xs, k1, k2, k3⟩ := args_good (n := n) hA (fun t ht => ⟨(hps t ht).1, (hps t ht).2.1⟩) (fun j t v ht hv => hval j t v (by simpa using ht) (by simpa using hv))
  obtain ⟨H', he⟩ := law xs k1
  obtain ⟨m, hm⟩ := ev_some he
  have hrh : RHs W (fun b => b < W.heap.size) [] (fun _ => ⟨0, 0⟩) (xs.map .c) args.toList := by
    have : ∀ {xs : List CV} {vs : List Value}, RCs W (fun b => b < W.heap.size) xs vs → RHs W (fun b => b < W.heap.size) [] (fun _ => ⟨0, 0⟩) (xs.map .c) vs := by
      intro xs
      induction xs with
      | nil => intro vs h; rw [rcs_nil] at h; subst h; exact rhs_nil.2 rfl
      | cons x xs ih =>
        intro vs h
        rw [rcs_cons] at h
        obtain ⟨v, us, rfl, h1, h2⟩ := h
        exact rhs_cons.2 ⟨v, us, rfl, rh_c.2 h1, ih h2⟩
    exact this k2
  have hg := evF_ok hE m f _ [] _ H' hm W (fun b => b < W.heap.size) (fun _ => ⟨0, 0⟩) args.toList (rheap_empty _ (fun b hb => hb)) hrh
  obtain ⟨_, hc⟩ := hg
  have ea : args.toList.toArray = args := by simp
  rw [ea] at hc
  refine hc.mono fun e W' ⟨v, F', m', he, st, _, hr, _⟩ => ⟨v, he, ?_⟩
  rw [rh_c, rc_bool] at hr
  subst hr
  exact post_true hl (fun t ht => (hps t ht).2.2) hres htb hv hsp k3 hW' (below_of_stp st)
end
end Go.Proofs.Lz
