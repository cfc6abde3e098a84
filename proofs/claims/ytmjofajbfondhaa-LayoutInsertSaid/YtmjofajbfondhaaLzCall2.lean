/- Calls: with the caller's memory, or with a memory of their own. -/
import Derived.Test.YtmjofajbfondhaaLzLit
set_option linter.unusedVariables false
set_option linter.unusedSimpArgs false
namespace Go.Proofs.Lz

/-- What a call of the evaluator promises of the machine's. -/
def CallGood (P : Program) (f : Nat) (H : Heap) (args : List HV) (r : HV) (H' : Heap) : Prop :=
  ∀ (w : World) (F : Nat → Prop) (m : LMap) (vs : List Value), RHeap w F H m → RHs w F H m args vs →
    (callFunc f vs.toArray).run P w = .ok (.enter f vs.toArray) w ∧
    Calls P f vs.toArray w (fun e w' => ∃ v F' m', e = .returned v ∧ Stp w.heap.size F F' H H' m m' w w' ∧ RHeap w' F' H' m' ∧ RH w' F' H' m' r v ∧ ∀ ek x, r ≠ .lbox ek x)
def CallOk (P : Program) (call : CallF) : Prop := ∀ f args H r H', call f args H = some (r, H') → CallGood P f H args r H'

section
variable {P : Program} {fb N : Nat} {w : World} {F : Nat → Prop} {H : Heap} {m : LMap} {lb : Nat → Nat} {fr : Fr} {a : Act} {o : Oper}
variable {K : Act → World → Prop} {Q : Exit → Act → World → Prop}

theorem rhs_one_c {c : CV} {u : Value} {H0 : Heap} {F0 : Nat → Prop} (h : RC w F0 c u) : RH w F0 H0 m (.c c) u := rh_c.2 h

/-- A captured variable, lent. -/
theorem thawP_rel (hh : RHeap w F H m) {F' : Nat → Prop} (hk : ∀ b, F b → F' b) {v : HV} {x : Value} {u : CV} (h : RH w F H m v x) (ht : thawP H v = some u) (hF : ∀ id, id < H.length → F' (m id).blk) : RC w F' u x := by
  have hlt : ∀ id, IsRow H id → id < H.length := fun id ⟨_, _, _, _, _, hr⟩ => (List.getElem?_eq_some_iff.1 hr).1
  unfold thawP at ht
  split at ht
  · rename_i id off
    split at ht
    · rename_i ek cs hH
      cases hl : thaw0L H cs with
      | none => rw [hl] at ht; cases ht
      | some l =>
        rw [hl] at ht
        dsimp only at ht
        split at ht
        · rename_i hlen
          cases hu : unflat ek l with
          | none => rw [hu] at ht; cases ht
          | some y =>
            rw [hu] at ht
            injection ht with ht; subst ht
            unfold RH at h
            obtain ⟨rfl, _⟩ := h
            obtain ⟨_, vs, e, k1, k2, k3⟩ := hh.var id ek cs hH
            have hrc := thaw0L_rel hh hk k2 hl (fun j _ hr => hF j (hlt j hr))
            obtain ⟨y', r1, r2, r3⟩ := unflat_relC hrc k3 (by rw [rcs_length hrc, hlen]) hu
            unfold RC
            refine ⟨(m id).blk, 0, y', by simp, hF id (List.getElem?_eq_some_iff.1 hH).1, r3, ?_, r1⟩
            rw [r2]
            exact range_of_cells (rest := []) (by simpa using k1)
        · cases ht
    · cases ht
  · exact thaw1_rel hh hk h ht (fun id _ hr => hF id (hlt id hr))
theorem thawPL_rel (hh : RHeap w F H m) {F' : Nat → Prop} (hk : ∀ b, F b → F' b) (hF : ∀ id, id < H.length → F' (m id).blk) : ∀ {vs : List HV} {xs : List Value} {us : List CV}, RHs w F H m vs xs → thawPL H vs = some us → RCs w F' us xs := by
  intro vs
  induction vs with
  | nil => intro xs us h ht; simp [thawPL] at ht; subst ht; rw [rhs_nil] at h; subst h; exact rcs_nil.2 rfl
  | cons v vs ih =>
    intro xs us h ht
    unfold thawPL at ht
    cases h1 : thawP H v with
    | none => rw [h1] at ht; cases ht
    | some u =>
      cases h2 : thawPL H vs with
      | none => rw [h1, h2] at ht; cases ht
      | some us' =>
        rw [h1, h2] at ht
        injection ht with ht; subst ht
        rw [rhs_cons] at h
        obtain ⟨x, xs', rfl, h3, h4⟩ := h
        exact rcs_cons.2 ⟨x, xs', rfl, thawP_rel hh hk h3 h1 hF, ih h4 h2⟩

/-- Arguments lent: everything live may be read. -/
theorem thawArgs_all (hh : RHeap w F H m) {F' : Nat → Prop} (hk : ∀ b, F b → F' b) (hF : ∀ id, id < H.length → F' (m id).blk) : ∀ {vs : List HV} {xs : List Value} {us : List HV}, RHs w F H m vs xs → thawArgs H vs = some us → RHs w F' [] m us xs := by
  have hlt : ∀ id, IsRow H id → id < H.length := fun id ⟨_, _, _, _, _, hr⟩ => (List.getElem?_eq_some_iff.1 hr).1
  intro vs
  induction vs with
  | nil => intro xs us h ht; simp [thawArgs] at ht; subst ht; rw [rhs_nil] at h; subst h; exact rhs_nil.2 rfl
  | cons v vs ih =>
    intro xs us h ht
    unfold thawArgs at ht
    cases h1 : thaw H v with
    | none => rw [h1] at ht; cases ht
    | some u =>
      cases h2 : thawArgs H vs with
      | none => rw [h1, h2] at ht; cases ht
      | some us' =>
        rw [h1, h2] at ht
        injection ht with ht; subst ht
        rw [rhs_cons] at h
        obtain ⟨x, xs', rfl, h3, h4⟩ := h
        refine rhs_cons.2 ⟨x, xs', rfl, rh_c.2 ?_, ih h4 h2⟩
        unfold thaw at h1
        split at h1
        · rename_i f first cap
          cases e1 : thawPL H first with
          | none => rw [e1] at h1; cases h1
          | some l1 =>
            cases e2 : thawPL H cap with
            | none => rw [e1, e2] at h1; cases h1
            | some l2 =>
              rw [e1, e2] at h1
              injection h1 with h1; subst h1
              unfold RH at h3
              obtain ⟨ps, qs, rfl, h5, h6⟩ := h3
              unfold RC
              exact ⟨ps, qs, rfl, thawPL_rel hh hk hF h5 e1, thawPL_rel hh hk hF h6 e2⟩
        · exact thawP_rel hh hk h3 h1 hF
/-- Arguments that are closed already. -/
theorem thawArgs_c (hh : RHeap w F H m) : ∀ {vs : List HV} {xs : List Value} {us : List HV}, RHs w F H m vs xs → vs.all isC = true → thawArgs H vs = some us → RHs w F [] m us xs := by
  intro vs
  induction vs with
  | nil => intro xs us h _ ht; simp [thawArgs] at ht; subst ht; rw [rhs_nil] at h; subst h; exact rhs_nil.2 rfl
  | cons v vs ih =>
    intro xs us h hc ht
    rw [List.all_cons, Bool.and_eq_true] at hc
    unfold thawArgs at ht
    cases h1 : thaw H v with
    | none => rw [h1] at ht; cases ht
    | some u =>
      cases h2 : thawArgs H vs with
      | none => rw [h1, h2] at ht; cases ht
      | some us' =>
        rw [h1, h2] at ht
        injection ht with ht; subst ht
        rw [rhs_cons] at h
        obtain ⟨x, xs', rfl, h3, h4⟩ := h
        refine rhs_cons.2 ⟨x, xs', rfl, rh_c.2 ?_, ih h4 hc.2 h2⟩
        cases v with
        | c y => simp [thaw, thawP, thaw1, thaw0] at h1; subst h1; exact rh_c.1 h3
        | nils => exact thaw1_rel hh (fun _ q => q) h3 h1 (fun id hi _ => by obtain ⟨p, q, r, hm⟩ := hi; simp [idsOf] at hm)
        | _ => simp [isC] at hc
theorem frzVs_frzs : ∀ (vs : List HV) (H : Heap), Frzs H (frzVs vs H) := by
  intro vs
  induction vs with
  | nil => intro H; exact Frzs.refl H
  | cons v vs ih =>
    intro H
    unfold frzVs
    rw [frzV_eq]
    exact (frzIn_frzs _ H).trans (ih _)
theorem frzVs_is : ∀ (vs : List HV) (H : Heap) (v : HV) (id : Nat) {fz : Bool} {e : Nat} {ek : Option Nat} {ver : Nat} {xs : List CV}, v ∈ vs → IdIn id (idsOf v) → H[id]? = some (.row fz e ek ver xs) → (frzVs vs H)[id]? = some (.row true e ek ver xs) := by
  intro vs
  induction vs with
  | nil => intro H v id fz e ek ver xs hm; simp at hm
  | cons v0 vs ih =>
    intro H v id fz e ek ver xs hm hi hH
    unfold frzVs
    rw [frzV_eq]
    rcases List.mem_cons.1 hm with rfl | hm
    · have h1 := frzIn_is (idsOf v) H id hi hH
      obtain ⟨fz', h2, h3⟩ := (frzVs_frzs vs (frzIn (idsOf v) H)).row id true e ek ver xs h1
      rw [h3 rfl] at h2
      exact h2
    · obtain ⟨fz', h2, _⟩ := (frzIn_frzs (idsOf v0) H).row id fz e ek ver xs hH
      exact ih _ v id hm hi h2
theorem thawArgs_frz (hh : RHeap w F H m) {F' : Nat → Prop} (hk : ∀ b, F b → F' b) : ∀ {vs : List HV} {xs : List Value} {us : List HV}, RHs w F H m vs xs → vs.all noFn = true → (∀ v ∈ vs, ∀ id, IdIn id (idsOf v) → IsRow H id → F' (m id).blk) → thawArgs H vs = some us → RHs w F' [] m us xs := by
  intro vs
  induction vs with
  | nil => intro xs us h _ _ ht; simp [thawArgs] at ht; subst ht; rw [rhs_nil] at h; subst h; exact rhs_nil.2 rfl
  | cons v vs ih =>
    intro xs us h hc hF ht
    rw [List.all_cons, Bool.and_eq_true] at hc
    unfold thawArgs at ht
    cases h1 : thaw H v with
    | none => rw [h1] at ht; cases ht
    | some u =>
      cases h2 : thawArgs H vs with
      | none => rw [h1, h2] at ht; cases ht
      | some us' =>
        rw [h1, h2] at ht
        injection ht with ht; subst ht
        rw [rhs_cons] at h
        obtain ⟨x, xs', rfl, h3, h4⟩ := h
        refine rhs_cons.2 ⟨x, xs', rfl, rh_c.2 ?_, ih h4 hc.2 (fun v hv => hF v (List.mem_cons_of_mem _ hv)) h2⟩
        have h1' : thaw1 H v = some u := by
          unfold thaw at h1
          split at h1
          · simp [noFn] at hc
          · unfold thawP at h1
            split at h1
            · simp [noFn] at hc
            · exact h1
        exact thaw1_rel hh hk h3 h1' (hF v List.mem_cons_self)

/-- Results, closed. -/
theorem thawRs_rel (hh : RHeap w F H m) {F' : Nat → Prop} (hk : ∀ b, F b → F' b) (hF : ∀ id, id < H.length → F' (m id).blk) {H0 : Heap} {m0 : LMap} : ∀ {vs : List HV} {xs : List Value} {us : List HV}, RHs w F H m vs xs → thawRs H vs = some us → RHs w F' H0 m0 us xs := by
  have hlt : ∀ id, IsRow H id → id < H.length := fun id ⟨_, _, _, _, _, hr⟩ => (List.getElem?_eq_some_iff.1 hr).1
  intro vs
  induction vs with
  | nil => intro xs us h ht; simp [thawRs] at ht; subst ht; rw [rhs_nil] at h; subst h; exact rhs_nil.2 rfl
  | cons v vs ih =>
    intro xs us h ht
    unfold thawRs at ht
    cases h1 : thaw1 H v with
    | none => rw [h1] at ht; cases ht
    | some u =>
      cases h2 : thawRs H vs with
      | none => rw [h1, h2] at ht; cases ht
      | some us' =>
        rw [h1, h2] at ht
        injection ht with ht; subst ht
        rw [rhs_cons] at h
        obtain ⟨x, xs', rfl, h3, h4⟩ := h
        exact rhs_cons.2 ⟨x, xs', rfl, rh_c.2 (thaw1_rel hh hk h3 h1 (fun id _ hr => hF id (hlt id hr))), ih h4 h2⟩
theorem thawRes_rel (hh : RHeap w F H m) {F' : Nat → Prop} (hk : ∀ b, F b → F' b) (hF : ∀ id, id < H.length → F' (m id).blk) {H0 : Heap} {m0 : LMap} {r r' : HV} {x : Value} (h : RH w F H m r x) (ht : thawRes H r = some r') : RH w F' H0 m0 r' x ∧ ∀ ek y, r' ≠ .lbox ek y := by
  have hlt : ∀ id, IsRow H id → id < H.length := fun id ⟨_, _, _, _, _, hr⟩ => (List.getElem?_eq_some_iff.1 hr).1
  unfold thawRes at ht
  split at ht
  · rename_i vs
    simp only [Option.map_eq_some_iff] at ht
    obtain ⟨us, h1, rfl⟩ := ht
    unfold RH at h
    obtain ⟨xs, rfl, h2⟩ := h
    refine ⟨?_, by simp⟩
    unfold RH
    exact ⟨xs, rfl, thawRs_rel hh hk hF h2 h1⟩
  · simp only [Option.map_eq_some_iff] at ht
    obtain ⟨u, h1, rfl⟩ := ht
    exact ⟨rh_c.2 (thaw1_rel hh hk h h1 (fun id _ hr => hF id (hlt id hr))), by simp⟩

/-- What leads nowhere holds in any memory. -/
theorem plain_rel {c : CV} {x : Value} {F0 F' : Nat → Prop} {w' : World} (hp : plainC c = true) (h : RC w F0 c x) : RC w' F' c x := by
  cases c <;> simp [plainC] at hp <;> (unfold RC at h ⊢; exact h)
theorem plainL_rel {F0 F' : Nat → Prop} {w' : World} : ∀ {l : List CV} {xs : List Value}, l.all plainC = true → RCs w F0 l xs → RCs w' F' l xs := by
  intro l
  induction l with
  | nil => intro xs _ h; rw [rcs_nil] at h; subst h; exact rcs_nil.2 rfl
  | cons c l ih =>
    intro xs hp h
    rw [List.all_cons, Bool.and_eq_true] at hp
    rw [rcs_cons] at h
    obtain ⟨v, us, rfl, h1, h2⟩ := h
    exact rcs_cons.2 ⟨v, us, rfl, plain_rel hp.1 h1, ih hp.2 h2⟩
theorem noRefC_rel {c : CV} {x : Value} {F0 F' : Nat → Prop} {w' : World} (hp : noRef (.c c) = true) (h : RC w F0 c x) : RC w' F' c x := by
  cases c with
  | agg l =>
    simp only [noRef] at hp
    unfold RC at h ⊢
    obtain ⟨vs, h1, h2, h3⟩ := h
    exact ⟨vs, h1, plainL_rel hp h2, h3⟩
  | _ => exact plain_rel (by simpa [noRef] using hp) h
theorem noRefL_rel {F0 F' : Nat → Prop} {w' : World} {H0 H1 : Heap} {m0 m1 : LMap} : ∀ {l : List HV} {xs : List Value}, noRef.noRefL l = true → RHs w F0 H0 m0 l xs → RHs w' F' H1 m1 l xs := by
  intro l
  induction l with
  | nil => intro xs _ h; rw [rhs_nil] at h; subst h; exact rhs_nil.2 rfl
  | cons v l ih =>
    intro xs hp h
    rw [rhs_cons] at h
    obtain ⟨x, us, rfl, h1, h2⟩ := h
    cases v with
    | c c =>
      have hh : noRef (.c c) = true ∧ noRef.noRefL l = true := by
        cases c <;> simpa [noRef.noRefL, noRef] using hp
      exact rhs_cons.2 ⟨x, us, rfl, rh_c.2 (noRefC_rel hh.1 (rh_c.1 h1)), ih hh.2 h2⟩
    | _ => simp [noRef.noRefL] at hp
theorem noRef_rel {r : HV} {x : Value} {F0 F' : Nat → Prop} {w' : World} {H0 H1 : Heap} {m0 m1 : LMap} (hp : noRef r = true) (h : RH w F0 H0 m0 r x) : RH w' F' H1 m1 r x := by
  cases r with
  | c c => exact rh_c.2 (noRefC_rel hp (rh_c.1 h))
  | tup vs =>
    simp only [noRef] at hp
    unfold RH at h ⊢
    obtain ⟨xs, h1, h2⟩ := h
    exact ⟨xs, h1, noRefL_rel hp h2⟩
  | _ => simp [noRef] at hp

/-- The caller's memory behind a call that had a memory of its own. -/
theorem after_own {w w' : World} {Fc F'' : Nat → Prop} {H'' : Heap} {m'' : LMap} (hh : RHeap w F H m) (st : Stp w.heap.size Fc F'' [] H'' m m'' w w') :
    RHeap w' (fun b => F b ∨ (w.heap.size ≤ b ∧ b < w'.heap.size)) H m ∧ Stp w.heap.size F (fun b => F b ∨ (w.heap.size ≤ b ∧ b < w'.heap.size)) H H m m w w' := by
  have hold : ∀ b, b < w.heap.size → w'.heap[b]? = w.heap[b]? := fun b hb => (st.far b hb (fun id hid => by simp at hid)).1
  have hlt : ∀ j, j < H.length → (m j).blk < w.heap.size := fun j hj => hh.there j H[j] (List.getElem?_eq_getElem hj)
  have hg : Grows F (fun b => F b ∨ (w.heap.size ≤ b ∧ b < w'.heap.size)) H H m m w w' :=
    ⟨⟨fun b hb => .inl hb, fun b hb => hold b (hh.fthere b hb)⟩, fun _ _ cs h => ⟨rfl, cs, h, rfl⟩, fun _ fz e ek ver xs h => ⟨fz, ver, xs, h, Nat.le_refl _, fun _ => ⟨rfl, rfl⟩⟩⟩
  refine ⟨hh.same hg (fun _ _ => rfl) (fun id hid => hold _ (hlt id hid)) st.size (fun b hb => ?_), hg, st.size, st.os, st.tape, st.output, fun b hb hid => ⟨hold b hb, hid, fun hf => ?_⟩⟩
  · rcases hb with hb | hb
    · exact .inl hb
    · exact .inr ⟨hb.2, fun id hid => by have := hlt id hid; omega⟩
  · rcases hf with hf | hf
    · exact hf
    · omega
end
end Go.Proofs.Lz
/- The call's two modes; the operations that call. -/
set_option linter.unusedVariables false
set_option linter.unusedSimpArgs false
namespace Go.Proofs.Lz
section
variable {P : Program} {fb N : Nat} {w : World} {F : Nat → Prop} {H : Heap} {m : LMap} {lb : Nat → Nat} {fr : Fr} {a : Act} {o : Oper}
variable {K : Act → World → Prop} {Q : Exit → Act → World → Prop}

/-- An empty live memory: everything that is there is either frozen or out of reach. -/
theorem rheap_empty (Fc : Nat → Prop) (hF : ∀ b, Fc b → b < w.heap.size) : RHeap w Fc [] m :=
  ⟨fun id o h => by simp at h, hF, fun id ek cs h => by simp at h, fun id fz e ek ver xs h => by simp at h, fun id id' h => by simp at h⟩

theorem own_call {f : Nat} {as : List HV} {r : HV} {H'' : Heap} (hg : CallGood P f [] as r H'') {Fc : Nat → Prop} (hFc : ∀ b, Fc b → b < w.heap.size) {vs : List Value} (has : RHs w Fc [] m as vs) {R : Ending → World → Prop}
    (hR : ∀ v F'' m'' w', Stp w.heap.size Fc F'' [] H'' m m'' w w' → RHeap w' F'' H'' m'' → RH w' F'' H'' m'' r v → R (.returned v) w') :
    (callFunc f vs.toArray).run P w = .ok (.enter f vs.toArray) w ∧ Calls P f vs.toArray w R := by
  obtain ⟨h1, h2⟩ := hg w Fc m vs (rheap_empty Fc hFc) has
  refine ⟨h1, h2.mono ?_⟩
  rintro e w' ⟨v, F'', m'', rfl, st, hh, hr, _⟩
  exact hR v F'' m'' w' st hh hr

theorem callWith_ok {E : Env} {call : CallF} (hc : CallOk P call) : CallOk P (callWith E call) := by
  intro f args H r H' h
  unfold callWith at h
  cases hm : E.md f with
  | S => rw [hm] at h; exact hc f args H r H' h
  | P =>
    rw [hm] at h
    dsimp only at h
    cases ha : thawArgs H args with
    | none => rw [ha] at h; cases h
    | some as =>
      rw [ha] at h
      dsimp only at h
      cases hcl : call f as [] with
      | none => rw [hcl] at h; cases h
      | some p =>
        obtain ⟨r0, H''⟩ := p
        rw [hcl] at h
        dsimp only at h
        cases ht : thawRes H'' r0 with
        | none => rw [ht] at h; cases h
        | some r' =>
          rw [ht] at h
          dsimp only at h
          have hgood := hc f as [] r0 H'' hcl
          intro w F m vs hh hargs
          -- blocks of the callee's live memory are new
          have hnew : ∀ {Fc F'' : Nat → Prop} {m'' : LMap} {w' : World}, Stp w.heap.size Fc F'' [] H'' m m'' w w' → RHeap w' F'' H'' m'' → (∀ b, F'' b → Fc b ∨ (w.heap.size ≤ b ∧ b < w'.heap.size)) ∧ ∀ id, id < H''.length → w.heap.size ≤ (m'' id).blk ∧ (m'' id).blk < w'.heap.size := by
            intro Fc F'' m'' w' st hh''
            constructor
            · intro b hb
              by_cases hlt : b < w.heap.size
              · exact .inl ((st.far b hlt (fun id hid => by simp at hid)).2.2 hb)
              · exact .inr ⟨by omega, hh''.fthere b hb⟩
            · intro id hid
              have h2 := hh''.there id H''[id] (List.getElem?_eq_getElem hid)
              refine ⟨?_, h2⟩
              by_cases hlt : (m'' id).blk < w.heap.size
              · exact absurd rfl ((st.far _ hlt (fun id hid => by simp at hid)).2.1 id hid)
              · omega
          split at h
          · rename_i hcase
            injection h with h
            injection h with z1 z2
            subst z1; subst z2
            rw [Bool.or_eq_true] at hcase
            rcases hcase with hcase | hcase
            · have has := thawArgs_c hh hargs hcase ha
              refine own_call hgood hh.fthere has ?_
              intro v F'' m'' w' st hh'' hr
              obtain ⟨n1, n2⟩ := hnew st hh''
              obtain ⟨k1, k2⟩ := after_own hh st
              obtain ⟨k3, k4⟩ := thawRes_rel hh'' (F' := fun b => F b ∨ (w.heap.size ≤ b ∧ b < w'.heap.size)) n1 (fun id hid => .inr (n2 id hid)) (H0 := H) (m0 := m) hr ht
              exact ⟨v, _, m, rfl, k2, k1, k3, k4⟩
            · have has := thawArgs_all hh (F' := fun b => F b ∨ ∃ id, id < H.length ∧ (m id).blk = b) (fun b hb => .inl hb) (fun id hid => .inr ⟨id, hid, rfl⟩) hargs ha
              refine own_call hgood (fun b hb => ?_) has ?_
              · rcases hb with hb | ⟨id, hid, rfl⟩
                · exact hh.fthere b hb
                · exact hh.there id H[id] (List.getElem?_eq_getElem hid)
              · intro v F'' m'' w' st hh'' hr
                obtain ⟨k1, k2⟩ := after_own hh st
                obtain ⟨k3, k4⟩ := thawRes_rel hh'' (F' := fun b => b < w'.heap.size) hh''.fthere (fun id hid => hh''.there id H''[id] (List.getElem?_eq_getElem hid)) (H0 := H) (m0 := m) hr ht
                exact ⟨v, _, m, rfl, k2, k1, noRef_rel hcase k3, k4⟩
          · split at h
            · rename_i hno
              injection h with h
              injection h with z1 z2
              subst z1; subst z2
              have hz := frzVs_frzs args H
              obtain ⟨g1, g2⟩ := frzs_heap hh hz
              have has := thawArgs_frz hh (F' := fun b => F b ∨ FzOf (frzVs args H) m b) (fun b hb => .inl hb) hargs hno (fun v hv id hi hrow => by
                obtain ⟨fz, e, ek, ver, xs, hr⟩ := hrow
                exact .inr ⟨id, e, ek, ver, xs, frzVs_is args H v id hv hi hr, rfl⟩) ha
              refine own_call hgood g1.fthere has ?_
              intro v F'' m'' w' st hh'' hr
              obtain ⟨n1, n2⟩ := hnew st hh''
              obtain ⟨k1, k2⟩ := after_own g1 st
              obtain ⟨k3, k4⟩ := thawRes_rel hh'' (F' := fun b => (F b ∨ FzOf (frzVs args H) m b) ∨ (w.heap.size ≤ b ∧ b < w'.heap.size)) n1 (fun id hid => .inr (n2 id hid)) (H0 := frzVs args H) (m0 := m) hr ht
              exact ⟨v, _, m, rfl, g2.trans k2, k1, k3, k4⟩
            · cases h

/-- The call's own step. -/
theorem call_step {f : Nat} {args : List HV} {vs : List Value} {r : HV} {H' : Heap} (hg : CallGood P f H args r H') (hs : RS fb N w F H m lb fr a) (hN : ∀ d, o.dst = some d → d < N) (hargs : RHs w F H m args vs)
    (hrun : (execOp a.eval o).run P w = (callFunc f vs.toArray).run P w) (h : Next fb N w F H m (fr.put o.dst r) H' K) : o.wp P a w K Q := by
  obtain ⟨h1, h2⟩ := hg w F m vs hs.heap hargs
  unfold Oper.wp
  rw [hrun, h1]
  rw [Oper.upon_enter]
  refine h2.mono ?_
  rintro e w' ⟨v, F', m', rfl, st, hh, hr, hb⟩
  exact h F' m' lb _ w' (st.mono hs.fb) ⟨hh, (hs.fr.step st).put o.dst hN hr hb, Nat.le_trans hs.fb st.size⟩

theorem sim_call {E : Env} {call : CallF} (hok : CallOk P call) {f : FuncId} {args : Array Operand} {ts : Array TypeId} {ias : List Opd} (ho : o.op = .call { callee := .value (.func f), args, argTypes := ts }) (hx : opdsOf args.toList = some ias) (hs : RS fb N w F H m lb fr a) (hN : ∀ d, o.dst = some d → d < N)
    {fr' : Fr} {H' : Heap} (hd : doOp E call (.call f ias) o.dst fr H = some (fr', H')) (h : Next fb N w F H m fr' H' K) : o.wp P a w K Q := by
  unfold doOp at hd
  dsimp only at hd
  cases hc : callWith E call f (ias.map fr.opd) H with
  | none => rw [hc] at hd; simp [putCall] at hd
  | some p =>
    obtain ⟨r, H1⟩ := p
    rw [hc] at hd
    simp only [putCall, Option.some.injEq, Prod.mk.injEq] at hd
    obtain ⟨q1, q2⟩ := hd
    subst q1; subst q2
    have hargs := opds_rel hs.fr hx
    refine call_step (callWith_ok hok f _ H r _ hc) hs hN hargs ?_ h
    have e : args.map a.eval = (args.toList.map a.eval).toArray := by apply Array.ext'; simp
    simp [execOp, ho, resolve, Act.eval, Deferred.ofValue, invoke, e, Sem.run_bind]

theorem sim_callv {E : Env} {call : CallF} (hok : CallOk P call) {t : Tmp} {args : Array Operand} {ts : Array TypeId} {ias : List Opd} (ho : o.op = .call { callee := .value (.tmp t), args, argTypes := ts }) (hx : opdsOf args.toList = some ias) (hs : RS fb N w F H m lb fr a) (hN : ∀ d, o.dst = some d → d < N)
    {fr' : Fr} {H' : Heap} (hd : doOp E call (.callv (.t t) ias) o.dst fr H = some (fr', H')) (h : Next fb N w F H m fr' H' K) : o.wp P a w K Q := by
  unfold doOp at hd
  dsimp only at hd
  obtain ⟨hf, _⟩ := opd_rel hs.fr (x := .tmp t) (ix := .t t) rfl
  have hargs := opds_rel hs.fr hx
  cases htg : targetOf (fr.opd (.t t)) (ias.map fr.opd) with
  | none => rw [htg] at hd; cases hd
  | some p =>
    obtain ⟨f, as⟩ := p
    rw [htg] at hd
    dsimp only at hd
    cases hc : callWith E call f as H with
    | none => rw [hc] at hd; simp [putCall] at hd
    | some p =>
      obtain ⟨r, H1⟩ := p
      rw [hc] at hd
      simp only [putCall, Option.some.injEq, Prod.mk.injEq] at hd
      obtain ⟨q1, q2⟩ := hd
      subst q1; subst q2
      have key : ∃ ps qs : List Value, a.eval (.tmp t) = .func (.func f) ps.toArray qs.toArray ∧ RHs w F H m as (ps ++ args.toList.map a.eval ++ qs) := by
        unfold targetOf at htg
        split at htg
        · rename_i g first cap e
          injection htg with htg
          injection htg with z1 z2
          subst z1; subst z2
          rw [e, rh_c] at hf
          unfold RC at hf
          obtain ⟨ps, qs, h1, h2, h3⟩ := hf
          exact ⟨ps, qs, h1, rhs_append (rhs_append (rhs_c h2) hargs) (rhs_c h3)⟩
        · rename_i g first cap e
          injection htg with htg
          injection htg with z1 z2
          subst z1; subst z2
          rw [e] at hf
          unfold RH at hf
          obtain ⟨ps, qs, h1, h2, h3⟩ := hf
          exact ⟨ps, qs, h1, rhs_append (rhs_append h2 hargs) h3⟩
        · cases htg
      obtain ⟨ps, qs, hev, hrel⟩ := key
      refine call_step (callWith_ok hok f _ H r _ hc) hs hN hrel ?_ h
      have e : args.map a.eval = (args.toList.map a.eval).toArray := by apply Array.ext'; simp
      have e2 : ps.toArray ++ (args.toList.map a.eval).toArray ++ qs.toArray = (ps ++ args.toList.map a.eval ++ qs).toArray := by simp
      simp only [execOp, ho, resolve, hev, Deferred.ofValue, invoke, e, Sem.run_bind, Sem.run_pure, Result.andThen_ok, e2]
end
end Go.Proofs.Lz
