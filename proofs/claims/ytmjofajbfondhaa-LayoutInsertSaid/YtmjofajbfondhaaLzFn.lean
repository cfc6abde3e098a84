/- Functions: the evaluator's result is the machine's, whatever the number of rounds. -/
import Derived.Test.YtmjofajbfondhaaLzCode
set_option linter.unusedVariables false
set_option linter.unusedSimpArgs false
namespace Go.Proofs.Lz

def EnvOk (P : Program) (E : Env) : Prop := ∀ f g, E.fn f = some g → ∃ fn, P.funcs[f]? = some fn ∧ compFn P E.md fn = some g

section
variable {P : Program} {fb N : Nat} {w : World} {F : Nat → Prop} {H : Heap} {m : LMap} {lb : Nat → Nat} {fr : Fr} {a : Act}

def resSem (tmps : Array Value) : ResultVar → Sem Value
  | .tmp t => pure (tmps.getD t undef)
  | .cell x t => do loadVar t (← asAddr (tmps.getD x undef))

theorem res_rel (rs : RS fb N w F H m lb fr a) : ∀ {l : List ResultVar} {irs : List IRes} {hvs : List HV}, compRes P l = some irs → resOf fr H irs = some hvs →
    ∃ us : List Value, (l.mapM (resSem a.tmps)).run P w = .ok us w ∧ RHs w F H m hvs us ∧ ∀ v ∈ hvs, ∀ ek x, v ≠ .lbox ek x := by
  intro l
  induction l with
  | nil =>
    intro irs hvs hc hr
    simp [compRes] at hc; subst hc
    simp [resOf] at hr; subst hr
    exact ⟨[], by simp, rhs_nil.2 rfl, by simp⟩
  | cons r l ih =>
    intro irs hvs hc hr
    cases r with
    | tmp t =>
      simp only [compRes, Option.map_eq_some_iff] at hc
      obtain ⟨irs', h1, rfl⟩ := hc
      unfold resOf at hr
      cases h2 : resOf fr H irs' with
      | none => rw [h2] at hr; cases hr
      | some hvs' =>
        rw [h2] at hr
        injection hr with hr; subst hr
        obtain ⟨us, k1, k2, k3⟩ := ih h1 h2
        obtain ⟨h3, h4⟩ := opd_rel rs.fr (x := .tmp t) (ix := .t t) rfl
        refine ⟨a.tmps.getD t undef :: us, ?_, rhs_cons.2 ⟨_, _, rfl, h3, k2⟩, ?_⟩
        · simp only [List.mapM_cons, resSem, Sem.run_bind, Sem.run_pure, Result.andThen_ok, k1]
        · intro v hv
          rcases List.mem_cons.1 hv with rfl | hv
          · exact h4
          · exact k3 v hv
    | cell x t =>
      unfold compRes at hc
      cases h0 : ekOf P t with
      | none => rw [h0] at hc; cases hc
      | some ek =>
        cases h1 : compRes P l with
        | none => rw [h0, h1] at hc; cases hc
        | some irs' =>
          rw [h0, h1] at hc
          injection hc with hc; subst hc
          unfold resOf at hr
          have main : ∀ (y : HV) (v : Value) (b off : Nat), a.tmps.getD x undef = .pointer (some ⟨b, off, none⟩) → RH w F H m y v → Shape ek v → w.rangeAt b off v.cells.toList → (∀ ek' z, y ≠ .lbox ek' z) →
              (∀ hvs', resOf fr H irs' = some hvs' → hvs = y :: hvs' → ∃ us : List Value, ((ResultVar.cell x t :: l).mapM (resSem a.tmps)).run P w = .ok us w ∧ RHs w F H m hvs us ∧ ∀ v ∈ hvs, ∀ ek x, v ≠ .lbox ek x) := by
            intro y v b off hp hy hs hrg hb hvs' h2 e
            subst e
            obtain ⟨us, k1, k2, k3⟩ := ih h1 h2
            refine ⟨v :: us, ?_, rhs_cons.2 ⟨_, _, rfl, hy, k2⟩, ?_⟩
            · simp only [List.mapM_cons, resSem, Sem.run_bind, hp, asAddr, Sem.run_pure, Result.andThen_ok, run_load h0 hs hrg, k1]
            · intro v' hv
              rcases List.mem_cons.1 hv with rfl | hv
              · exact hb
              · exact k3 v' hv
          cases he : fr.env x with
          | lbox ek' y =>
            rw [he] at hr
            dsimp only at hr
            by_cases hek : ek' = ek
            · rw [if_pos hek] at hr
              subst hek
              cases h2 : resOf fr H irs' with
              | none => rw [h2] at hr; cases hr
              | some hvs' =>
                rw [h2] at hr
                injection hr with hr
                obtain ⟨p1, _, _, _, _, _, hft, v, e, p7, p8, p9⟩ := rs.fr.box x ek' y he
                have hnb : ∀ e x, y ≠ .lbox e x := by intro e x hh; subst hh; cases ek' <;> simp [fitsH] at hft
                exact main y v (lb x) 0 p1 p9 p8 (range_of_cells (rest := []) (by simpa using p7)) hnb hvs' h2 hr.symm
            · rw [if_neg hek] at hr
              cases h2 : resOf fr H irs' <;> rw [h2] at hr <;> cases hr
          | _ =>
            rw [he] at hr
            dsimp only at hr
            cases hl : loadH ek _ H with
            | none => rw [hl] at hr; cases hr
            | some y =>
              rw [hl] at hr
              cases h2 : resOf fr H irs' with
              | none => rw [h2] at hr; cases hr
              | some hvs' =>
                rw [h2] at hr
                injection hr with hr
                have hv := rs.fr.val x (by rw [he]; simp)
                rw [he] at hv
                obtain ⟨b, off, v, e1, e2, e3, e4, e5⟩ := loadH_rel rs.heap hv hl
                exact main y v b off e1 e2 e3 e4 e5 hvs' h2 hr.symm

theorem assoc_binds : ∀ (args : List HV) (i t : Nat), assoc (binds i args) t = if i ≤ t then (args[t - i]?).getD .undef else .undef := by
  intro args
  induction args with
  | nil => intro i t; simp [binds, assoc]
  | cons v args ih =>
    intro i t
    simp only [binds, assoc]
    by_cases h : t = i
    · subst h; simp
    · rw [if_neg h, ih]
      by_cases h2 : i ≤ t
      · rw [if_pos (by omega), if_pos h2]
        have : t - i = (t - (i + 1)) + 1 := by omega
        rw [this, List.getElem?_cons_succ]
      · rw [if_neg (by omega), if_neg h2]

theorem rs_enter {ntmps : Nat} (hh : RHeap w F H m) {args : List HV} {vs : List Value} (ha : RHs w F H m args vs) : RS w.heap.size ntmps w F H m (fun _ => 0) { env := assoc (binds 0 args), al := noAl } { tmps := vs.toArray ++ Array.replicate (ntmps - vs.toArray.size) undef, defers := [] } := by
  have hnb : ∀ (t : Nat) (v : HV), args[t]? = some v → ∀ ek x, v ≠ .lbox ek x := by
    intro t v hv ek x e
    obtain ⟨u, _, hu⟩ := rhs_get ha hv
    subst e
    unfold RH at hu
    exact hu
  refine ⟨hh, ⟨by simp; omega, rfl, ?_, ?_, fun t b off h => by simp [noAl] at h⟩, Nat.le_refl _⟩
  · intro t ht
    simp only [assoc_binds, Nat.zero_le, if_true, Nat.sub_zero] at ht ⊢
    cases hv : args[t]? with
    | none => simp only [Option.getD_none]; unfold RH; exact trivial
    | some v =>
      obtain ⟨u, hu, hr⟩ := rhs_get ha hv
      simp only [Option.getD_some]
      have hlt := (List.getElem?_eq_some_iff.1 hu).1
      have : (vs.toArray ++ Array.replicate (ntmps - vs.toArray.size) undef).getD t undef = u := by
        rw [Array.getD_eq_getD_getElem?, Array.getElem?_append_left (by simpa using hlt), List.getElem?_toArray, hu]
        rfl
      rw [this]
      exact hr
  · intro t ek x hx
    simp only [assoc_binds, Nat.zero_le, if_true, Nat.sub_zero] at hx
    cases hv : args[t]? with
    | none => rw [hv] at hx; cases hx
    | some v => rw [hv] at hx; exact absurd hx (hnb t v hv ek x)

def oneV : List Value → Value
  | [v] => v
  | us => .tuple us.toArray
theorem run_results {fn : Func} {us : List Value} (h : (fn.results.toList.mapM (resSem a.tmps)).run P w = .ok us w) : (results fn a.tmps).run P w = .ok (oneV us) w := by
  have e : results fn a.tmps = (do
      let vs ← fn.results.mapM (resSem a.tmps)
      pure (if h : vs.size = 1 then vs[0] else .tuple vs)) := by
    unfold results
    congr 1
  have e2 : fn.results.mapM (resSem a.tmps) = List.toArray <$> fn.results.toList.mapM (resSem a.tmps) := by
    rw [← List.mapM_toArray]
  rw [e, e2]
  simp only [Sem.run_bind, Sem.run_map, h, Result.andThen_ok]
  cases us with
  | nil => simp [oneV]
  | cons v us =>
    cases us with
    | nil => simp [oneV]
    | cons u us => simp [oneV]
end

theorem evF_ok {P : Program} {E : Env} (hE : EnvOk P E) : ∀ n, CallOk P (evF E n) := by
  intro n
  induction n with
  | zero => intro f args H r H' h; cases h
  | succ n ih =>
    intro f args H r H' h w F m vs hh ha
    unfold evF runFn at h
    cases hf : E.fn f with
    | none => rw [hf] at h; cases h
    | some g =>
      rw [hf] at h
      dsimp only at h
      obtain ⟨fn, hfn, hcomp⟩ := hE f g hf
      unfold compFn at hcomp
      cases hb : fn.body with
      | none => rw [hb] at hcomp; cases hcomp
      | some c =>
        rw [hb] at hcomp
        dsimp only at hcomp
        split at hcomp
        · cases hcomp
        · rename_i hnm
          rw [Bool.not_eq_true, Bool.or_eq_false_iff] at hnm
          obtain ⟨hname, hdst⟩ := hnm
          split at hcomp
          · rename_i ib ir h1 h2
            injection hcomp with hcomp; subst hcomp
            have hd : ∀ o ∈ Code.opers c, ∀ d, o.dst = some d → d < fn.ntmps := by
              intro o ho d hod
              simp only [Bool.not_eq_false', List.all_eq_true] at hdst
              have := hdst o ho
              rw [hod] at this
              simpa using this
            refine ⟨?_, ?_⟩
            · simp [callFunc, hfn, hname, hb]
              simpa using hname
            · refine calls_of_wp hfn hb ?_
              cases he : evC E (evF E n) (itF n) ib { env := assoc (binds 0 args), al := noAl } H with
              | none => rw [he] at h; cases h
              | some p =>
                obtain ⟨e, fr', H2⟩ := p
                rw [he] at h
                refine code_sound (P := P) (N := fn.ntmps) ih n c _ _ ib h1 hd w.heap.size _ fr' H H2 e he F m (fun _ => 0) _ w (bodyPost P fn _) (rs_enter hh ha) ?_
                intro F' m' lb' a' w' st rs
                have fin : ∀ hvs, resOf fr' H2 ir = some hvs → r = oneOf hvs → H2 = H' → a'.defers = [] ∧ ∃ v, (results fn a'.tmps).run P w' = .ok v w' ∧ ∃ v' F'' m'', Ending.returned v = .returned v' ∧ Stp w.heap.size F F'' H H' m m'' w w' ∧ RHeap w' F'' H' m'' ∧ RH w' F'' H' m'' r v' ∧ ∀ ek x, r ≠ .lbox ek x := by
                  intro hvs hr er eH
                  subst eH
                  obtain ⟨us, k1, k2, k3⟩ := res_rel rs h2 hr
                  refine ⟨rs.fr.defers, _, run_results k1, _, F', m', rfl, st, rs.heap, ?_, ?_⟩
                  · subst er
                    cases hvs with
                    | nil => rw [rhs_nil] at k2; subst k2; simp only [oneOf, oneV]; unfold RH; exact ⟨[], rfl, rhs_nil.2 rfl⟩
                    | cons v hvs =>
                      have k2' := k2
                      rw [rhs_cons] at k2
                      obtain ⟨u, us', rfl, k4, k5⟩ := k2
                      cases hvs with
                      | nil => rw [rhs_nil] at k5; subst k5; exact k4
                      | cons v2 hvs =>
                        have hl := rhs_length k5
                        cases us' with
                        | nil => simp at hl
                        | cons u2 us2 => simp only [oneOf, oneV]; unfold RH; exact ⟨_, rfl, k2'⟩
                  · subst er
                    cases hvs with
                    | nil => simp [oneOf]
                    | cons v hvs => cases hvs with
                      | nil => exact k3 v List.mem_cons_self
                      | cons v2 hvs => simp [oneOf]
                cases e with
                | nrm =>
                  dsimp only at h
                  cases hr : resOf fr' H2 ir with
                  | none => rw [hr] at h; cases h
                  | some hvs =>
                    rw [hr] at h
                    injection h with h
                    injection h with z1 z2
                    exact fin hvs hr z1.symm z2
                | ret =>
                  dsimp only at h
                  cases hr : resOf fr' H2 ir with
                  | none => rw [hr] at h; cases h
                  | some hvs =>
                    rw [hr] at h
                    injection h with h
                    injection h with z1 z2
                    exact fin hvs hr z1.symm z2
                | exit i => cases h
                | goto l => cases h
          · cases hcomp
end Go.Proofs.Lz
