/- The call's two modes; the operations that call. -/
import Derived.Test.YtmjofajbfondhaaLzCall
set_option linter.unusedVariables false
set_option linter.unusedSimpArgs false
namespace Go.Proofs.Lz
section
variable {P : Program} {fb N : Nat} {w : World} {F : Nat → Prop} {H : Heap} {m : LMap} {lb : Nat → Nat} {fr : Fr} {a : Act} {o : Oper}
variable {K : Act → World → Prop} {Q : Exit → Act → World → Prop}

/-- An empty live memory: everything that is there is either frozen or out of reach. -/
theorem rheap_empty (Fc : Nat → Prop) (hF : ∀ b, Fc b → b < w.heap.size) : RHeap w Fc [] m :=
  ⟨fun id o h => by simp at h, hF, fun id ek cs h => by simp at h, fun id fz e ek ver xs h => by simp at h, fun id id' h => by simp at h⟩

theorem own_call {f : Nat} {as : List HV} {r : HV} {H'' : Heap} (hg : CallGood P f [] as r H'') {Fc : Nat → Prop} (hFc : ∀ b, Fc b → b < w.heap.size) {vs : List Value} (has : RHs w Fc [] m as vs) {R : Ending → World → Prop}
    (hR : ∀ v F'' m'' w', Stp w.heap.size Fc F'' [] H'' m m'' w w' → RHeap w' F'' H'' m'' → RH w' F'' H'' m'' r v → R (.returned v) w') :
    (callFunc f vs.toArray).run P w = .ok (.enter f vs.toArray) w ∧ Calls P f vs.toArray w R := by
  obtain ⟨h1, h2⟩ := hg w Fc m vs (rheap_empty Fc hFc) has
  refine ⟨h1, h2.mono ?_⟩
  rintro e w' ⟨v, F'', m'', rfl, st, hh, hr, _⟩
  exact hR v F'' m'' w' st hh hr

theorem callWith_ok {E : Env} {call : CallF} (hc : CallOk P call) : CallOk P (callWith E call) := by
  intro f args H r H' h
  unfold callWith at h
  cases hm : E.md f with
  | S => rw [hm] at h; exact hc f args H r H' h
  | P =>
    rw [hm] at h
    dsimp only at h
    cases ha : thawArgs H args with
    | none => rw [ha] at h; cases h
    | some as =>
      rw [ha] at h
      dsimp only at h
      cases hcl : call f as [] with
      | none => rw [hcl] at h; cases h
      | some p =>
        obtain ⟨r0, H''⟩ := p
        rw [hcl] at h
        dsimp only at h
        cases ht : thawRes H'' r0 with
        | none => rw [ht] at h; cases h
        | some r' =>
          rw [ht] at h
          dsimp only at h
          have hgood := hc f as [] r0 H'' hcl
          intro w F m vs hh hargs
          -- blocks of the callee's live memory are new
          have hnew : ∀ {Fc F'' : Nat → Prop} {m'' : LMap} {w' : World}, Stp w.heap.size Fc F'' [] H'' m m'' w w' → RHeap w' F'' H'' m'' → (∀ b, F'' b → Fc b ∨ (w.heap.size ≤ b ∧ b < w'.heap.size)) ∧ ∀ id, id < H''.length → w.heap.size ≤ (m'' id).blk ∧ (m'' id).blk < w'.heap.size := by
            intro Fc F'' m'' w' st hh''
            constructor
            · intro b hb
              by_cases hlt : b < w.heap.size
              · exact .inl ((st.far b hlt (fun id hid => by simp at hid)).2.2 hb)
              · exact .inr ⟨by omega, hh''.fthere b hb⟩
            · intro id hid
              have h2 := hh''.there id H''[id] (List.getElem?_eq_getElem hid)
              refine ⟨?_, h2⟩
              by_cases hlt : (m'' id).blk < w.heap.size
              · exact absurd rfl ((st.far _ hlt (fun id hid => by simp at hid)).2.1 id hid)
              · omega
          split at h
          · rename_i hcase
            injection h with h
            injection h with z1 z2
            subst z1; subst z2
            rw [Bool.or_eq_true] at hcase
            rcases hcase with hcase | hcase
            · have has := thawArgs_c hh hargs hcase ha
              refine own_call hgood hh.fthere has ?_
              intro v F'' m'' w' st hh'' hr
              obtain ⟨n1, n2⟩ := hnew st hh''
              obtain ⟨k1, k2⟩ := after_own hh st
              obtain ⟨k3, k4⟩ := thawRes_rel hh'' (F' := fun b => F b ∨ (w.heap.size ≤ b ∧ b < w'.heap.size)) n1 (fun id hid => .inr (n2 id hid)) (H0 := H) (m0 := m) hr ht
              exact ⟨v, _, m, rfl, k2, k1, k3, k4⟩
            · have has := thawArgs_all hh (F' := fun b => F b ∨ ∃ id, id < H.length ∧ (m id).blk = b) (fun b hb => .inl hb) (fun id hid => .inr ⟨id, hid, rfl⟩) hargs ha
              refine own_call hgood (fun b hb => ?_) has ?_
              · rcases hb with hb | ⟨id, hid, rfl⟩
                · exact hh.fthere b hb
                · exact hh.there id H[id] (List.getElem?_eq_getElem hid)
              · intro v F'' m'' w' st hh'' hr
                obtain ⟨k1, k2⟩ := after_own hh st
                obtain ⟨k3, k4⟩ := thawRes_rel hh'' (F' := fun b => b < w'.heap.size) hh''.fthere (fun id hid => hh''.there id H''[id] (List.getElem?_eq_getElem hid)) (H0 := H) (m0 := m) hr ht
                exact ⟨v, _, m, rfl, k2, k1, noRef_rel hcase k3, k4⟩
          · split at h
            · rename_i hno
              injection h with h
              injection h with z1 z2
              subst z1; subst z2
              have hz := frzVs_frzs args H
              obtain ⟨g1, g2⟩ := frzs_heap hh hz
              have has := thawArgs_frz hh (F' := fun b => F b ∨ FzOf (frzVs args H) m b) (fun b hb => .inl hb) hargs hno (fun v hv id hi hrow => by
                obtain ⟨fz, e, ek, ver, xs, hr⟩ := hrow
                exact .inr ⟨id, e, ek, ver, xs, frzVs_is args H v id hv hi hr, rfl⟩) ha
              refine own_call hgood g1.fthere has ?_
              intro v F'' m'' w' st hh'' hr
              obtain ⟨n1, n2⟩ := hnew st hh''
              obtain ⟨k1, k2⟩ := after_own g1 st
              obtain ⟨k3, k4⟩ := thawRes_rel hh'' (F' := fun b => (F b ∨ FzOf (frzVs args H) m b) ∨ (w.heap.size ≤ b ∧ b < w'.heap.size)) n1 (fun id hid => .inr (n2 id hid)) (H0 := frzVs args H) (m0 := m) hr ht
              exact ⟨v, _, m, rfl, g2.trans k2, k1, k3, k4⟩
            · cases h

/-- The call's own step. -/
theorem call_step {f : Nat} {args : List HV} {vs : List Value} {r : HV} {H' : Heap} (hg : CallGood P f H args r H') (hs : RS fb N w F H m lb fr a) (hN : ∀ d, o.dst = some d → d < N) (hargs : RHs w F H m args vs)
    (hrun : (execOp a.eval o).run P w = (callFunc f vs.toArray).run P w) (h : Next fb N w F H m (fr.put o.dst r) H' K) : o.wp P a w K Q := by
  obtain ⟨h1, h2⟩ := hg w F m vs hs.heap hargs
  unfold Oper.wp
  rw [hrun, h1]
  rw [Oper.upon_enter]
  refine h2.mono ?_
  rintro e w' ⟨v, F', m', rfl, st, hh, hr, hb⟩
  exact h F' m' lb _ w' (st.mono hs.fb) ⟨hh, (hs.fr.step st).put o.dst hN hr hb, Nat.le_trans hs.fb st.size⟩

theorem sim_call {E : Env} {call : CallF} (hok : CallOk P call) {f : FuncId} {args : Array Operand} {ts : Array TypeId} {ias : List Opd} (ho : o.op = .call { callee := .value (.func f), args, argTypes := ts }) (hx : opdsOf args.toList = some ias) (hs : RS fb N w F H m lb fr a) (hN : ∀ d, o.dst = some d → d < N)
    {fr' : Fr} {H' : Heap} (hd : doOp E call (.call f ias) o.dst fr H = some (fr', H')) (h : Next fb N w F H m fr' H' K) : o.wp P a w K Q := by
  unfold doOp at hd
  dsimp only at hd
  cases hc : callWith E call f (ias.map fr.opd) H with
  | none => rw [hc] at hd; simp [putCall] at hd
  | some p =>
    obtain ⟨r, H1⟩ := p
    rw [hc] at hd
    simp only [putCall, Option.some.injEq, Prod.mk.injEq] at hd
    obtain ⟨q1, q2⟩ := hd
    subst q1; subst q2
    have hargs := opds_rel hs.fr hx
    refine call_step (callWith_ok hok f _ H r _ hc) hs hN hargs ?_ h
    have e : args.map a.eval = (args.toList.map a.eval).toArray := by apply Array.ext'; simp
    simp [execOp, ho, resolve, Act.eval, Deferred.ofValue, invoke, e, Sem.run_bind]

theorem sim_callv {E : Env} {call : CallF} (hok : CallOk P call) {t : Tmp} {args : Array Operand} {ts : Array TypeId} {ias : List Opd} (ho : o.op = .call { callee := .value (.tmp t), args, argTypes := ts }) (hx : opdsOf args.toList = some ias) (hs : RS fb N w F H m lb fr a) (hN : ∀ d, o.dst = some d → d < N)
    {fr' : Fr} {H' : Heap} (hd : doOp E call (.callv (.t t) ias) o.dst fr H = some (fr', H')) (h : Next fb N w F H m fr' H' K) : o.wp P a w K Q := by
  unfold doOp at hd
  dsimp only at hd
  obtain ⟨hf, _⟩ := opd_rel hs.fr (x := .tmp t) (ix := .t t) rfl
  have hargs := opds_rel hs.fr hx
  cases htg : targetOf (fr.opd (.t t)) (ias.map fr.opd) with
  | none => rw [htg] at hd; cases hd
  | some p =>
    obtain ⟨f, as⟩ := p
    rw [htg] at hd
    dsimp only at hd
    cases hc : callWith E call f as H with
    | none => rw [hc] at hd; simp [putCall] at hd
    | some p =>
      obtain ⟨r, H1⟩ := p
      rw [hc] at hd
      simp only [putCall, Option.some.injEq, Prod.mk.injEq] at hd
      obtain ⟨q1, q2⟩ := hd
      subst q1; subst q2
      have key : ∃ ps qs : List Value, a.eval (.tmp t) = .func (.func f) ps.toArray qs.toArray ∧ RHs w F H m as (ps ++ args.toList.map a.eval ++ qs) := by
        unfold targetOf at htg
        split at htg
        · rename_i g first cap e
          injection htg with htg
          injection htg with z1 z2
          subst z1; subst z2
          rw [e, rh_c] at hf
          unfold RC at hf
          obtain ⟨ps, qs, h1, h2, h3⟩ := hf
          exact ⟨ps, qs, h1, rhs_append (rhs_append (rhs_c h2) hargs) (rhs_c h3)⟩
        · rename_i g first cap e
          injection htg with htg
          injection htg with z1 z2
          subst z1; subst z2
          rw [e] at hf
          unfold RH at hf
          obtain ⟨ps, qs, h1, h2, h3⟩ := hf
          exact ⟨ps, qs, h1, rhs_append (rhs_append h2 hargs) h3⟩
        · cases htg
      obtain ⟨ps, qs, hev, hrel⟩ := key
      refine call_step (callWith_ok hok f _ H r _ hc) hs hN hrel ?_ h
      have e : args.map a.eval = (args.toList.map a.eval).toArray := by apply Array.ext'; simp
      have e2 : ps.toArray ++ (args.toList.map a.eval).toArray ++ qs.toArray = (ps ++ args.toList.map a.eval ++ qs).toArray := by simp
      simp only [execOp, ho, resolve, hev, Deferred.ofValue, invoke, e, Sem.run_bind, Sem.run_pure, Result.andThen_ok, e2]
end
end Go.Proofs.Lz
