/- Code and functions: what the state with slices as values gives, the evaluator gives. -/
import Derived.Test.YtmjofajbfondhaaLzWCall
namespace Go.Proofs.Lz

structure EnvR (V : WEnv) (E : Env) : Prop where
  fn : V.fn = E.fn
  md : V.md = E.md

theorem VRs_rd {X : Cx} {w : WFr} {fr : Fr} (f : FrR X w fr) : ∀ (l : List Opd), (∀ v ∈ l.map w.rd, v ≠ .gone) → VRs X (l.map w.rd) (l.map fr.opd) := by
  intro l
  induction l with
  | nil => intro _; trivial
  | cons x l ih =>
    intro h
    exact ⟨rdR f Pl.tmp x (h _ (by simp)), ih (fun v hv => h v (by rw [List.map_cons]; exact List.mem_cons_of_mem _ hv))⟩
theorem thaw_ne {W : WHeap} : ∀ {l as : List WV}, thawWs W l = some as → ∀ v ∈ l, v ≠ .gone ∧ compW v := by
  intro l
  induction l with
  | nil => intro as _ v hv; cases hv
  | cons x l ih =>
    intro as h v hv
    simp only [thawWs] at h
    split at h
    · rename_i a b h1 h2
      rcases List.mem_cons.1 hv with hv | hv
      · subst hv
        refine ⟨?_, ?_, ?_⟩
        · intro e; subst e; cases h1
        · intro vs e; subst e; cases h1
        · intro ek w e; subst e; cases h1
      · exact ih h2 v hv
    · cases h
theorem okA_ne {l : List WV} (h : l.all okA = true) : ∀ v ∈ l, v ≠ .gone ∧ ∀ vs, v ≠ .tup vs := by
  intro v hv
  have := List.all_eq_true.1 h v hv
  constructor
  · intro e; subst e; cases this
  · intro vs e; subst e; cases this

theorem callTo_sim {V : WEnv} {E : Env} (hE : EnvR V E) {cw : WCallF} {c : CallF} (hc : CallSim cw c) {f : Nat} {args : List WV} {hargs : List HV} {dst : Option Nat} {X : Cx} {w w' : WFr} {W W' : WHeap} {fr : Fr} (s : SR X w W fr)
    (ra : (∀ v ∈ args, v ≠ .gone) → VRs X args hargs) (hb : ∀ v ∈ args, (∀ ek u, v ≠ .lbox ek u) ∧ hasOwn v = false) (h : wcallTo V cw f args dst w W = some (w', W')) : SimC E c f hargs dst X fr w' W' := by
  unfold wcallTo at h
  cases hm : V.md f with
  | S =>
    rw [hm] at h
    simp only at h
    split at h
    · rename_i hcnd
      obtain ⟨h0, h1, h2⟩ := hcnd
      rw [hitAll_eq] at h
      simp only at h
      split at h
      · cases h
      · rename_i r W2 hr
        injection h with h
        have ne := okA_ne h0
        exact callS_sim hc (by rw [← hE.md]; exact hm) s (ra fun v hv => (ne v hv).1) (fun v hv => ⟨⟨(ne v hv).2, (hb v hv).1⟩, (hb v hv).2⟩) h1 h2 hr h
    · cases h
  | P =>
    rw [hm] at h
    simp only at h
    split at h
    · cases h
    · rename_i as ha
      split at h
      · cases h
      · rename_i r W2 hr
        split at h
        · cases h
        · rename_i r' hs
          exact callP_sim hc (by rw [← hE.md]; exact hm) s (ra fun v hv => (thaw_ne ha v hv).1) ha hr hs h
theorem VRs_c {X : Cx} : ∀ l : List CV, VRs X (l.map .c) (l.map .c) := by
  intro l
  induction l with
  | nil => trivial
  | cons a l ih => exact ⟨(rfl : HV.c a = .c a), ih⟩
theorem VRs_plain {X : Cx} : ∀ {l : List WV} {s : List HV}, PlainR X l s → VRs X l s := by
  intro l
  induction l with
  | nil => intro s h; cases s with
    | nil => trivial
    | cons => exact h.elim
  | cons v l ih =>
    intro s h
    cases s with
    | nil => cases v <;> exact h.elim
    | cons a s =>
      cases v with
      | c v => exact ⟨h.1, ih h.2⟩
      | nils => exact ⟨h.1, ih h.2⟩
      | ptr id off => exact ⟨h.1, ih h.2⟩
      | _ => exact h.elim
theorem VRs_append {X : Cx} : ∀ {l : List WV} {s : List HV} {l' : List WV} {s' : List HV}, VRs X l s → VRs X l' s' → VRs X (l ++ l') (s ++ s') := by
  intro l
  induction l with
  | nil => intro s l' s' h h'; cases s with
    | nil => exact h'
    | cons => exact h.elim
  | cons v l ih => intro s l' s' h h'; cases s with
    | nil => exact h.elim
    | cons a s => exact ⟨h.1, ih h.2 h'⟩
theorem plain_shape {X : Cx} : ∀ {l : List WV} {s : List HV}, PlainR X l s → ∀ v ∈ l, (∀ ek u, v ≠ .lbox ek u) ∧ hasOwn v = false := by
  intro l
  induction l with
  | nil => intro s _ v hv; cases hv
  | cons x l ih =>
    intro s h v hv
    cases s with
    | nil => cases x <;> exact h.elim
    | cons a s =>
      have key : PlainR X l s ∧ ((∀ ek u, x ≠ .lbox ek u) ∧ hasOwn x = false) := by
        cases x with
        | c v => exact ⟨h.2, fun _ _ e => (by cases e), rfl⟩
        | nils => exact ⟨h.2, fun _ _ e => (by cases e), rfl⟩
        | ptr id off => exact ⟨h.2, fun _ _ e => (by cases e), rfl⟩
        | _ => exact h.elim
      rcases List.mem_cons.1 hv with hv | hv
      · subst hv; exact key.2
      · exact ih key.1 v hv
theorem rd_shape (w : WFr) (l : List Opd) : ∀ v ∈ l.map w.rd, (∀ ek u, v ≠ .lbox ek u) ∧ hasOwn v = false := by
  intro v hv
  obtain ⟨x, _, rfl⟩ := List.mem_map.1 hv
  exact ⟨rd_noBox w x, rd_noOwn w x⟩

theorem wOp_sim {V : WEnv} {E : Env} (hE : EnvR V E) {cw : WCallF} {c : CallF} (hc : CallSim cw c) {o : IOp} {dst : Option Nat} {X : Cx} {w w' : WFr} {W W' : WHeap} {fr : Fr} (s : SR X w W fr) (h : wOp V cw o dst w W = some (w', W')) : Sim2 E c o dst X fr w' W' := by
  unfold wOp at h
  split at h
  · rename_i f args
    obtain ⟨Y, v, h1, h2, h3⟩ := callTo_sim hE hc (hargs := args.map fr.opd) s (fun hn => VRs_rd s.fr args hn) (rd_shape w args) h
    exact ⟨Y, _, by simp only [doOp, h1, putCall], h2, h3⟩
  · rename_i x args
    split at h
    · rename_i f as ht
      have key : ∃ as', targetOf (fr.opd x) (args.map fr.opd) = some (f, as') ∧ ((∀ v ∈ as, v ≠ .gone) → VRs X as as') ∧ ∀ v ∈ as, (∀ ek u, v ≠ .lbox ek u) ∧ hasOwn v = false := by
        cases hv : w.rd x with
        | c u =>
          rw [hv] at ht
          rw [rd_c s.fr hv]
          cases u with
          | fn f' first cap =>
            simp only [wtarget, Option.some.injEq, Prod.mk.injEq] at ht
            obtain ⟨rfl, rfl⟩ := ht
            refine ⟨_, rfl, fun hn => ?_, ?_⟩
            · exact VRs_append (VRs_append (VRs_c first) (VRs_rd s.fr args (fun v hv => hn v (by simp only [List.mem_append]; exact .inl (.inr hv))))) (VRs_c cap)
            · intro v hv
              simp only [List.mem_append] at hv
              rcases hv with (hv | hv) | hv
              · obtain ⟨z, _, rfl⟩ := List.mem_map.1 hv; exact ⟨fun _ _ e => (by cases e), rfl⟩
              · exact rd_shape w args v hv
              · obtain ⟨z, _, rfl⟩ := List.mem_map.1 hv; exact ⟨fun _ _ e => (by cases e), rfl⟩
          | _ => cases ht
        | fn f' first cap =>
          rw [hv] at ht
          obtain ⟨a, b, r1, r2, r3⟩ := ptr_of s.fr hv (by simp)
          rw [r1]
          simp only [wtarget, Option.some.injEq, Prod.mk.injEq] at ht
          obtain ⟨rfl, rfl⟩ := ht
          refine ⟨_, rfl, fun hn => ?_, ?_⟩
          · exact VRs_append (VRs_append (VRs_plain r2) (VRs_rd s.fr args (fun v hv => hn v (by simp only [List.mem_append]; exact .inl (.inr hv))))) (VRs_plain r3)
          · intro v hv
            simp only [List.mem_append] at hv
            rcases hv with (hv | hv) | hv
            · exact plain_shape r2 v hv
            · exact rd_shape w args v hv
            · exact plain_shape r3 v hv
        | _ => rw [hv] at ht; cases ht
      obtain ⟨as', k1, k2, k3⟩ := key
      obtain ⟨Y, v, h1, h2, h3⟩ := callTo_sim hE hc s k2 k3 h
      exact ⟨Y, _, by simp only [doOp, k1, h1, putCall], h2, h3⟩
    · cases h
  · rename_i n1 n2
    obtain ⟨Y, fr', h1, h2, h3⟩ := wOp0_sim s h
    refine ⟨Y, fr', ?_, h2, h3⟩
    rw [← h1]
    cases o with
    | call f a => exact (n1 _ _ rfl).elim
    | callv x a => exact (n2 _ _ rfl).elim
    | _ => rfl

/-- Steps of any kind: from one state to another. -/
def StepSim (a : WFr → WHeap → Option (WFr × WHeap)) (b : Fr → Heap → Option (Fr × Heap)) : Prop :=
  ∀ X w W fr w' W', SR X w W fr → a w W = some (w', W') → ∃ Y fr', b fr X.H = some (fr', Y.H) ∧ SR Y w' W' fr' ∧ WStp X Y
theorem guard_sim {X : Cx} {w : WFr} {W : WHeap} {fr : Fr} (s : SR X w W fr) {o : IOper} {a : WFr → WHeap → Option (WFr × WHeap)} {b : Fr → Heap → Option (Fr × Heap)} (hab : StepSim a b) {w' : WFr} {W' : WHeap}
    (h : (match o.guard with
      | none => a w W
      | some (t, want) => match w.env t with
        | .c (.bool x) => if x = want then a w W else some (w.put o.dst .skipv, W)
        | .skipv => some (w.put o.dst .skipv, W)
        | _ => none) = some (w', W')) :
    ∃ Y fr', (match o.guard with
      | none => b fr X.H
      | some (t, want) => match fr.env t with
        | .c (.bool x) => if x = want then b fr X.H else some (fr.put o.dst .skipv, X.H)
        | .skipv => some (fr.put o.dst .skipv, X.H)
        | _ => none) = some (fr', Y.H) ∧ SR Y w' W' fr' ∧ WStp X Y := by
  have skip : SR X (w.put o.dst .skipv) W (fr.put o.dst .skipv) := s.put (q := Pl.tmp) (rfl : HV.skipv = .skipv) rfl
  split at h
  · exact hab X w W fr w' W' s h
  · rename_i t want hg
    split at h
    · rename_i x hx
      have r := s.fr.env t
      rw [hx] at r
      have r' : fr.env t = .c (.bool x) := r
      simp only [r']
      split at h
      · rename_i hw
        rw [if_pos hw]
        exact hab X w W fr w' W' s h
      · rename_i hw
        rw [if_neg hw]
        injection h with h; injection h with h1 h2; subst h1; subst h2
        exact ⟨X, _, rfl, skip, WStp.refl X⟩
    · rename_i hx
      have r := s.fr.env t
      rw [hx] at r
      have r' : fr.env t = .skipv := r
      simp only [r']
      injection h with h; injection h with h1 h2; subst h1; subst h2
      exact ⟨X, _, rfl, skip, WStp.refl X⟩
    · cases h
theorem wStp_sim {V : WEnv} {E : Env} (hE : EnvR V E) {cw : WCallF} {c : CallF} (hc : CallSim cw c) (o : IOper) : StepSim (wStp V cw o) (stp E c o) := by
  intro X w W fr w' W' s h
  exact guard_sim s (a := wOp V cw o.op o.dst) (b := doOp E c o.op o.dst) (fun X w W fr w' W' s h => wOp_sim hE hc s h) h
theorem wOps_sim {V : WEnv} {E : Env} (hE : EnvR V E) {cw : WCallF} {c : CallF} (hc : CallSim cw c) (ops : List IOper) : StepSim (wOps V cw ops) (evOps E c ops) := by
  induction ops with
  | nil =>
    intro X w W fr w' W' s h
    injection h with h; injection h with h1 h2; subst h1; subst h2
    exact ⟨X, fr, rfl, s, WStp.refl X⟩
  | cons o ops ih =>
    intro X w W fr w' W' s h
    unfold wOps at h
    split at h
    · rename_i w1 W1 h1
      obtain ⟨Y, fr1, k1, k2, k3⟩ := wStp_sim hE hc o X w W fr w1 W1 s h1
      obtain ⟨Z, fr2, l1, l2, l3⟩ := ih Y w1 W1 fr1 w' W' k2 h
      exact ⟨Z, fr2, by unfold evOps; rw [k1]; exact l1, l2, k3.trans l3⟩
    · cases h

theorem thaw1_isC {X : Cx} {w : WFr} {fr : Fr} (f : FrR X w fr) {x : Opd} (h : isCW (w.rd x) = true) : (thaw1 [] (fr.opd x)).isSome = true := by
  cases hv : w.rd x with
  | c u => rw [rd_c f hv]; rfl
  | nils => have r := ptr_of f hv (by simp); have r' : fr.opd x = .nils := r; rw [r']; rfl
  | _ => rw [hv] at h; cases h
theorem wD_sim {V : WEnv} {E : Env} (hE : EnvR V E) {cw : WCallF} {c : CallF} (hc : CallSim cw c) (cl : Cls) (o : IOp) (dst : Option Nat) : StepSim (wD V cw cl o dst) (doD E c cl o dst) := by
  intro X w W fr w' W' s h
  unfold wD at h
  unfold doD
  split at h
  · -- pure
    split at h
    · rename_i fz e ek z n ps
      split at h
      · rename_i hcnd
        simp only
        rw [if_pos ⟨hcnd.1, by
          rw [List.all_eq_true]
          intro p hp
          exact thaw1_isC s.fr (List.all_eq_true.1 hcnd.2 p hp)⟩]
        exact wOp0_sim s h
      · cases h
    · rename_i nb
      split at h
      · rename_i hp
        simp only
        obtain ⟨Y, fr', k1, k2⟩ := wOp0_sim s h
        exact ⟨Y, fr', by rw [← k1, if_pos hp], k2⟩
      · cases h
  · -- rdb
    split at h
    · rename_i ek a
      split at h
      · rename_i hp
        rw [place_eq s.fr] at hp
        simp only
        rw [if_pos hp]
        exact wOp0_sim s h
      · cases h
    · cases h
  · -- wrb
    split at h
    · rename_i ek a x
      split at h
      · rename_i hp
        rw [place_eq s.fr] at hp
        simp only
        rw [if_pos hp]
        exact wOp0_sim s h
      · cases h
    · cases h
  · -- rd
    split at h
    · rename_i ek a
      split at h
      · cases h
      · rename_i hp
        rw [place_eq s.fr] at hp
        simp only
        rw [if_neg hp]
        exact wOp0_sim s h
    · exact wOp0_sim s h
    · exact wOp0_sim s h
    · rename_i f args
      split at h
      · rename_i hm
        split at h
        · cases h
        · rename_i as ha
          split at h
          · cases h
          · rename_i r W2 hr
            split at h
            · cases h
            · rename_i r' hs
              split at h
              · rename_i hcnd
                injection h with h; injection h with i1 i2; subst i1; subst i2
                have hm' : E.md f = .P := by rw [← hE.md]; exact hm
                have ra := VRs_rd s.fr args (fun v hv => (thaw_ne ha v hv).1)
                obtain ⟨v, k2, k3, k4, a1, a2, base⟩ := callP_key hc hm' s ra ha hr hs
                have hcnd' : noRef v = true ∨ (args.map fr.opd).all isC = true := by rw [← k4, ← a1]; exact hcnd
                have cw' := base X.H (by
                  rw [if_pos]
                  simp only [Bool.or_eq_true]
                  exact hcnd'.symm)
                refine ⟨X, fr.put dst v, ?_, s.put (k2 X) k3, WStp.refl X⟩
                simp only
                rw [if_pos hm', cw']
                simp only
                rw [if_pos hcnd']
              · cases h
      · cases h
    · cases h
  · -- wr
    split at h
    · rename_i ek a x
      split at h
      · cases h
      · rename_i hp
        rw [place_eq s.fr] at hp
        simp only
        rw [if_neg hp]
        exact wOp0_sim s h
    · exact wOp0_sim s h
    · exact wOp0_sim s h
    · exact wOp_sim hE hc s h
    · exact wOp_sim hE hc s h
    · cases h
  · -- hb
    split at h
    · exact wOp0_sim s h
    · cases h
theorem dstOk_R {X : Cx} {w : WFr} {fr : Fr} (f : FrR X w fr) (dst : Option Nat) : wdstOk w dst = dstOk fr dst := by
  cases dst with
  | none => rfl
  | some d =>
    have := (f.env d).lbox_iff
    simp only [wdstOk, dstOk]
    revert this
    cases w.env d <;> cases fr.env d <;> simp [lboxV, lboxH]
theorem wStpD_sim {V : WEnv} {E : Env} (hE : EnvR V E) {cw : WCallF} {c : CallF} (hc : CallSim cw c) (cl : Cls) (o : IOper) : StepSim (wStpD V cw cl o) (stpD E c cl o) := by
  intro X w W fr w' W' s h
  unfold wStpD at h
  unfold stpD
  split at h
  · rename_i hd
    rw [dstOk_R s.fr] at hd
    rw [if_pos hd]
    split at h
    · rename_i w1 W1 h1
      obtain ⟨Y, fr1, k1, k2, k3⟩ := guard_sim s (o := o) (a := wD V cw cl o.op o.dst) (b := doD E c cl o.op o.dst) (wD_sim hE hc cl o.op o.dst) h1
      split at h
      · rename_i hd2
        injection h with h; injection h with i1 i2; subst i1; subst i2
        rw [dstOk_R k2.fr] at hd2
        refine ⟨Y, fr1, ?_, k2, k3⟩
        have k1' : stpG E c cl o fr X.H = some (fr1, Y.H) := k1
        rw [k1']
        simp only
        rw [if_pos hd2]
      · cases h
    · cases h
  · cases h
theorem wOpsD_sim {V : WEnv} {E : Env} (hE : EnvR V E) {cw : WCallF} {c : CallF} (hc : CallSim cw c) (ops : List (Cls × IOper)) : StepSim (wOpsD V cw ops) (evOpsD E c ops) := by
  induction ops with
  | nil =>
    intro X w W fr w' W' s h
    injection h with h; injection h with h1 h2; subst h1; subst h2
    exact ⟨X, fr, rfl, s, WStp.refl X⟩
  | cons o ops ih =>
    obtain ⟨cl, o⟩ := o
    intro X w W fr w' W' s h
    unfold wOpsD at h
    split at h
    · rename_i w1 W1 h1
      obtain ⟨Y, fr1, k1, k2, k3⟩ := wStpD_sim hE hc cl o X w W fr w1 W1 s h1
      obtain ⟨Z, fr2, l1, l2, l3⟩ := ih Y w1 W1 fr1 w' W' k2 h
      exact ⟨Z, fr2, by unfold evOpsD; rw [k1]; exact l1, l2, k3.trans l3⟩
    · cases h

/-! ### code -/
def RunSim (a : WRun) (b : Run) : Prop :=
  ∀ X w W fr e w' W', SR X w W fr → a w W = some (e, w', W') → ∃ Y fr', b fr X.H = some (e, fr', Y.H) ∧ SR Y w' W' fr' ∧ WStp X Y
theorem SR.noal {X : Cx} {w : WFr} {W : WHeap} {fr : Fr} (s : SR X w W fr) : SR X { w with al := noAl } W { fr with al := noAl } := ⟨s.ok, ⟨rfl, s.fr.env⟩, s.hp, s.ht⟩
theorem Ext.refl (K : Pl → Bool) (X : Cx) : Ext K false X X := ⟨Nat.le_refl _, fun _ _ => rfl, fun _ _ _ => ⟨rfl, rfl⟩, fun _ h => h, fun _ _ h _ => h, fun h => by cases h⟩
theorem SR.keep {X : Cx} {w : WFr} {W : WHeap} {fr : Fr} (s : SR X w W fr) (live : List Nat) : SR X (wkeep live w) W (keep live fr) := by
  refine ⟨s.ok, ⟨rfl, ?_⟩, s.hp, s.ht⟩
  intro t
  simp only [wkeep, Lz.keep]
  have : ∀ (l : List Nat), VR X (Pl.sl t) (wassoc (l.map fun s => (s, hit (deadP live) false (Pl.sl s) (w.env s))) t) (assoc (l.map fun s => (s, fr.env s)) t) := by
    intro l
    induction l with
    | nil => exact (rfl : lboxH .undef = false)
    | cons a l ih =>
      simp only [List.map_cons, wassoc, assoc]
      by_cases h : t = a
      · subst h
        rw [if_pos rfl, if_pos rfl]
        exact (s.fr.env t).hit (Ext.refl _ X)
      · rw [if_neg h, if_neg h]; exact ih
  exact this live
theorem witF_sim {a : WRun} {b : Run} (hab : RunSim a b) : ∀ n, RunSim (witF n a) (itF n b) := by
  intro n
  induction n with
  | zero => intro X w W fr e w' W' _ h; cases h
  | succ n ih =>
    intro X w W fr e w' W' s h
    rw [witF] at h
    split at h
    · rename_i w1 W1 h1
      obtain ⟨Y, fr1, k1, k2, k3⟩ := hab X w W fr _ w1 W1 s h1
      obtain ⟨Z, fr2, l1, l2, l3⟩ := ih Y w1 W1 fr1 e w' W' k2 h
      exact ⟨Z, fr2, by rw [itF, k1]; exact l1, l2, k3.trans l3⟩
    · rename_i hn
      obtain ⟨Y, fr1, k1, k2, k3⟩ := hab X w W fr e w' W' s h
      refine ⟨Y, fr1, ?_, k2, k3⟩
      rw [itF, k1]
      cases e with
      | nrm => exact (hn _ _ h).elim
      | _ => rfl
theorem wC_sim {V : WEnv} {E : Env} (hE : EnvR V E) {cw : WCallF} {c : CallF} (hc : CallSim cw c) {it2 : WRun → WRun} {it1 : Run → Run} (hi : ∀ a b, RunSim a b → RunSim (it2 a) (it1 b)) (code : ICode) : RunSim (wC V cw it2 code) (evC E c it1 code) := by
  induction code with
  | skip =>
    intro X w W fr e w' W' s h
    injection h with h; injection h with h1 h2; injection h2 with h2 h3; subst h1; subst h2; subst h3
    exact ⟨X, fr, rfl, s, WStp.refl X⟩
  | region ops =>
    intro X w W fr e w' W' s h
    unfold wC at h
    split at h
    · rename_i w1 W1 h1
      injection h with h; injection h with h2 h3; injection h3 with h3 h4; subst h2; subst h3; subst h4
      obtain ⟨Y, fr1, k1, k2, k3⟩ := wOps_sim hE hc ops X _ W _ w1 W1 s.noal h1
      exact ⟨Y, fr1, by unfold evC; rw [k1], k2, k3⟩
    · cases h
  | regionD ops =>
    intro X w W fr e w' W' s h
    unfold wC at h
    split at h
    · rename_i w1 W1 h1
      injection h with h; injection h with h2 h3; injection h3 with h3 h4; subst h2; subst h3; subst h4
      obtain ⟨Y, fr1, k1, k2, k3⟩ := wOpsD_sim hE hc ops X _ W _ w1 W1 s.noal h1
      exact ⟨Y, fr1, by unfold evC; rw [k1], k2, k3⟩
    · cases h
  | seq a b iha ihb =>
    intro X w W fr e w' W' s h
    unfold wC at h
    split at h
    · rename_i w1 W1 h1
      obtain ⟨Y, fr1, k1, k2, k3⟩ := iha X w W fr _ w1 W1 s h1
      obtain ⟨Z, fr2, l1, l2, l3⟩ := ihb Y w1 W1 fr1 e w' W' k2 h
      exact ⟨Z, fr2, by unfold evC; rw [k1]; exact l1, l2, k3.trans l3⟩
    · rename_i hn
      obtain ⟨Y, fr1, k1, k2, k3⟩ := iha X w W fr e w' W' s h
      refine ⟨Y, fr1, ?_, k2, k3⟩
      unfold evC
      rw [k1]
      cases e with
      | nrm => exact (hn _ _ h).elim
      | _ => rfl
  | cond x a b iha ihb =>
    intro X w W fr e w' W' s h
    unfold wC at h
    split at h
    · rename_i t ht
      have hx := rd_c s.fr ht
      cases t with
      | true =>
        obtain ⟨Y, fr1, k1, k2⟩ := iha X w W fr e w' W' s h
        exact ⟨Y, fr1, by unfold evC; rw [hx]; exact k1, k2⟩
      | false =>
        obtain ⟨Y, fr1, k1, k2⟩ := ihb X w W fr e w' W' s h
        exact ⟨Y, fr1, by unfold evC; rw [hx]; exact k1, k2⟩
    · cases h
  | block id b ih =>
    intro X w W fr e w' W' s h
    unfold wC at h
    split at h
    · rename_i i w1 W1 h1
      obtain ⟨Y, fr1, k1, k2, k3⟩ := ih X w W fr _ w1 W1 s h1
      refine ⟨Y, fr1, ?_, ?_, k3⟩
      · unfold evC
        rw [k1]
        simp only
        split at h
        · rename_i hh; rw [if_pos hh]; injection h with h; injection h with h2 h3; subst h2; rfl
        · rename_i hh; rw [if_neg hh]; injection h with h; injection h with h2 h3; subst h2; rfl
      · split at h
        · injection h with h; injection h with h2 h3; injection h3 with h3 h4; subst h3; subst h4; exact k2
        · injection h with h; injection h with h2 h3; injection h3 with h3 h4; subst h3; subst h4; exact k2
    · rename_i hn
      obtain ⟨Y, fr1, k1, k2, k3⟩ := ih X w W fr e w' W' s h
      refine ⟨Y, fr1, ?_, k2, k3⟩
      unfold evC
      rw [k1]
      cases e with
      | exit i => exact (hn _ _ _ h).elim
      | _ => rfl
  | loop live b ih =>
    intro X w W fr e w' W' s h
    unfold wC at h
    obtain ⟨Y, fr1, k1, k2⟩ := hi _ (fun fr H => evC E c it1 b (keep live fr) H) (fun X w W fr e w' W' s h => ih X _ W _ e w' W' (s.keep live) h) X w W fr e w' W' s h
    exact ⟨Y, fr1, by unfold evC; exact k1, k2⟩
  | exit id =>
    intro X w W fr e w' W' s h
    injection h with h; injection h with h1 h2; injection h2 with h2 h3; subst h1; subst h2; subst h3
    exact ⟨X, fr, rfl, s, WStp.refl X⟩
  | scope l live b rest ihb ihr =>
    intro X w W fr e w' W' s h
    unfold wC at h
    split at h
    · rename_i l' w1 W1 h1
      obtain ⟨Y, fr1, k1, k2, k3⟩ := ihb X w W fr _ w1 W1 s h1
      split at h
      · rename_i hl
        generalize hz : it2 (fun fr H => wturnEx l (wC V cw it2 rest (wkeep live fr) H)) w1 W1 = z at h
        cases z with
        | none => cases h
        | some q =>
          obtain ⟨e2, w2, W2⟩ := q
          have turn : RunSim (fun fr H => wturnEx l (wC V cw it2 rest (wkeep live fr) H)) (fun fr H => turnEx l (evC E c it1 rest (keep live fr) H)) := by
            intro X w W fr e w' W' s h
            have h : wturnEx l (wC V cw it2 rest (wkeep live w) W) = some (e, w', W') := h
            cases hq : wC V cw it2 rest (wkeep live w) W with
            | none => rw [hq] at h; cases h
            | some q =>
              obtain ⟨e0, w0, W0⟩ := q
              rw [hq] at h
              obtain ⟨Y, fr1, k1, k2, k3⟩ := ihr X _ W _ e0 w0 W0 (s.keep live) hq
              refine ⟨Y, fr1, ?_, ?_, k3⟩
              · simp only [k1]
                cases e0 with
                | goto l' =>
                  simp only [wturnEx] at h
                  simp only [turnEx]
                  split at h
                  · rename_i hh; rw [if_pos hh]; injection h with h; injection h with h2 h3; subst h2; rfl
                  · rename_i hh; rw [if_neg hh]; injection h with h; injection h with h2 h3; subst h2; rfl
                | nrm => injection h with h; injection h with h2 h3; subst h2; rfl
                | exit i => injection h with h; injection h with h2 h3; subst h2; rfl
                | ret => injection h with h; injection h with h2 h3; subst h2; rfl
              · cases e0 with
                | goto l' =>
                  simp only [wturnEx] at h
                  split at h <;> (injection h with h; injection h with h2 h3; injection h3 with h3 h4; subst h3; subst h4; exact k2)
                | nrm => injection h with h; injection h with h2 h3; injection h3 with h3 h4; subst h3; subst h4; exact k2
                | exit i => injection h with h; injection h with h2 h3; injection h3 with h3 h4; subst h3; subst h4; exact k2
                | ret => injection h with h; injection h with h2 h3; injection h3 with h3 h4; subst h3; subst h4; exact k2
          obtain ⟨Z, fr2, l1, l2, l3⟩ := hi _ _ turn Y w1 W1 fr1 e2 w2 W2 k2 hz
          refine ⟨Z, fr2, ?_, ?_, k3.trans l3⟩
          · unfold evC
            rw [k1]
            simp only
            rw [if_pos hl, l1]
            cases e2 with
            | goto l' =>
              simp only [wbackEx] at h
              simp only [backEx]
              split at h
              · rename_i hh; rw [if_pos hh]; injection h with h; injection h with h2 h3; subst h2; rfl
              · rename_i hh; rw [if_neg hh]; injection h with h; injection h with h2 h3; subst h2; rfl
            | nrm => injection h with h; injection h with h2 h3; subst h2; rfl
            | exit i => injection h with h; injection h with h2 h3; subst h2; rfl
            | ret => injection h with h; injection h with h2 h3; subst h2; rfl
          · cases e2 with
            | goto l' =>
              simp only [wbackEx] at h
              split at h <;> (injection h with h; injection h with h2 h3; injection h3 with h3 h4; subst h3; subst h4; exact l2)
            | nrm => injection h with h; injection h with h2 h3; injection h3 with h3 h4; subst h3; subst h4; exact l2
            | exit i => injection h with h; injection h with h2 h3; injection h3 with h3 h4; subst h3; subst h4; exact l2
            | ret => injection h with h; injection h with h2 h3; injection h3 with h3 h4; subst h3; subst h4; exact l2
      · rename_i hl
        injection h with h; injection h with h2 h3; injection h3 with h3 h4; subst h2; subst h3; subst h4
        exact ⟨Y, fr1, by unfold evC; rw [k1]; simp only; rw [if_neg hl], k2, k3⟩
    · rename_i hn
      obtain ⟨Y, fr1, k1, k2, k3⟩ := ihb X w W fr e w' W' s h
      refine ⟨Y, fr1, ?_, k2, k3⟩
      unfold evC
      rw [k1]
      cases e with
      | goto i => exact (hn _ _ _ h).elim
      | _ => rfl
  | label l =>
    intro X w W fr e w' W' s h
    injection h with h; injection h with h1 h2; injection h2 with h2 h3; subst h1; subst h2; subst h3
    exact ⟨X, fr, rfl, s, WStp.refl X⟩
  | goto l =>
    intro X w W fr e w' W' s h
    injection h with h; injection h with h1 h2; injection h2 with h2 h3; subst h1; subst h2; subst h3
    exact ⟨X, fr, rfl, s, WStp.refl X⟩
  | ret =>
    intro X w W fr e w' W' s h
    injection h with h; injection h with h1 h2; injection h2 with h2 h3; subst h1; subst h2; subst h3
    exact ⟨X, fr, rfl, s, WStp.refl X⟩

/-! ### functions -/
theorem load_R {X : Cx} {w : WFr} {W : WHeap} {fr : Fr} (s : SR X w W fr) {ek : Option Nat} {v u : WV} {h : HV} {q : Nat → Nat → Pl} (r : VR X q v h) (h1 : loadW ek v W = some u) : ∃ y, loadH ek h X.H = some y ∧ VR X Pl.tmp u y ∧ hasOwn u = false := by
  cases v with
  | c v =>
    have r' : h = .c v := r
    subst r'
    cases v with
    | fptr ek' x off =>
      simp only [loadW] at h1
      cases hr : readC ek' ek x off with
      | none => rw [hr] at h1; cases h1
      | some z =>
        rw [hr] at h1
        injection h1 with h1; subst h1
        exact ⟨_, by simp only [loadH, hr]; rfl, rfl, rfl⟩
    | _ => cases h1
  | ptr id off =>
    simp only [loadW] at h1
    cases hw : W[id]? with
    | none => rw [hw] at h1; cases h1
    | some o =>
      obtain ⟨ek', cs⟩ := o
      rw [hw] at h1
      simp only at h1
      obtain ⟨⟨hs, c1, c2⟩, c3⟩ := s.hp.cells id ek' cs hw
      obtain ⟨y, k1, k2, k3⟩ := part_R (q' := Pl.tmp) (c2.peek (q' := Pl.tmp 0) (k' := 0)) (peekL_noOwn _ cs 0) h1
      exact ⟨y, by rw [r.1]; simp only [loadH, c1, k1], k2, k3⟩
  | eptr p i off ek' x =>
    obtain ⟨r1, b', e, ys, r2, r3⟩ := r
    simp only [loadW] at h1
    cases hr : readC ek' ek x off with
    | none => rw [hr] at h1; cases h1
    | some z =>
      rw [hr] at h1
      injection h1 with h1; subst h1
      obtain ⟨zs, z1, z2, z3, z4⟩ := s.ok.own p _ _ _ _ r2
      have hz := sub_get z3 r3
      exact ⟨_, by rw [r1]; simp only [loadH, z1, if_true, hz, hr]; rfl, rfl, rfl⟩
  | iptr fz ek' x off =>
    obtain ⟨id, ver, i, r1, fb, e, ys, r2, r3, r4⟩ := r
    simp only [loadW] at h1
    cases hr : readC ek' ek x off with
    | none => rw [hr] at h1; cases h1
    | some z =>
      rw [hr] at h1
      injection h1 with h1; subst h1
      exact ⟨_, by rw [r1]; simp only [loadH, r2, if_true, r3, hr]; rfl, rfl, rfl⟩
  | _ => cases h1
theorem okRes_shape {v : WV} (h : okRes v = true) : compW v := by
  constructor
  · intro vs e; subst e; cases h
  · intro ek w e; subst e; cases h
/-- A result's relation: a component, nothing of its own. -/
def CRs (X : Cx) : List WV → List HV → Prop
  | [], [] => True
  | v :: r, h :: s => (okRes v = true → VRC X (Pl.tmp 0) v h ∧ hasOwnC v = false) ∧ CRs X r s
  | _, _ => False
theorem VR_noOwnC {X : Cx} {q : Nat → Nat → Pl} {v : WV} {h : HV} (r : VR X q v h) (ok : okRes v = true) (ho : hasOwn v = false) : VRC X (q 0) v h ∧ hasOwnC v = false :=
  toC_rd r (okRes_shape ok).1 (okRes_shape ok).2 ho
theorem resOf_sim {X : Cx} {w : WFr} {W : WHeap} {fr : Fr} (s : SR X w W fr) : ∀ (rs : List IRes) {vs : List WV}, wresOf w W rs = some vs → ∃ hs, resOf fr X.H rs = some hs ∧ CRs X vs hs := by
  intro rs
  induction rs with
  | nil => intro vs h; injection h with h; subst h; exact ⟨[], rfl, trivial⟩
  | cons a rs ih =>
    intro vs h
    cases a with
    | tmp t =>
      simp only [wresOf] at h
      split at h
      · rename_i l hl
        injection h with h; subst h
        obtain ⟨hs, i1, i2⟩ := ih hl
        refine ⟨unbox (fr.env t) :: hs, by simp only [resOf, i1], ?_, i2⟩
        intro ok
        have r := (s.fr.env t).rd (q' := Pl.tmp)
        have e : peek (Pl.sl t) (wunbox (w.env t)) = peekC (Pl.sl t 0) (wunbox (w.env t)) := by
          revert ok
          cases wunbox (w.env t) with
          | tup vs => intro ok; cases ok
          | _ => intro _; rfl
        rw [e] at r
        exact VR_noOwnC r ok (by have := peek_noOwn (Pl.sl t) (w.env t); rw [e] at this; exact this)
      · cases h
    | cell b ek =>
      simp only [wresOf] at h
      split at h
      · rename_i v l hv hl
        injection h with h; subst h
        obtain ⟨hs, i1, i2⟩ := ih hl
        have key : ∃ y, ((∃ x1, fr.env b = .lbox ek x1 ∧ y = x1) ∨ (lboxH (fr.env b) = false ∧ loadH ek (fr.env b) X.H = some y)) ∧ (okRes v = true → VRC X (Pl.tmp 0) v y ∧ hasOwnC v = false) := by
          have r := s.fr.env b
          by_cases hb : ∃ ek' x, w.env b = .lbox ek' x
          · obtain ⟨ek', x, hb⟩ := hb
            rw [hb] at r hv
            obtain ⟨x1, r1, r2⟩ := r
            simp only at hv
            split at hv
            · rename_i he
              injection hv with hv; subst hv
              exact ⟨x1, .inl ⟨x1, by rw [r1, he], rfl⟩, fun ok => ⟨r2.peek, peekC_noOwn _ _⟩⟩
            · cases hv
          · have nb : lboxH (fr.env b) = false := by
              rw [← r.lbox_iff]
              cases hw : w.env b with
              | lbox ek' x => exact (hb ⟨_, _, hw⟩).elim
              | _ => rfl
            have hv' : loadW ek (peek (Pl.sl b) (w.env b)) W = some v := by
              revert hv
              cases hw : w.env b with
              | lbox ek' x => exact (hb ⟨_, _, hw⟩).elim
              | _ => exact fun h => h
            have ew : wunbox (w.env b) = w.env b := by
              cases hw : w.env b with
              | lbox ek' x => exact (hb ⟨_, _, hw⟩).elim
              | _ => rfl
            have eh : unbox (fr.env b) = fr.env b := by
              revert nb
              cases fr.env b with
              | lbox => intro h; cases h
              | _ => intro _; rfl
            have r2 := r.rd (q' := Pl.tmp)
            rw [ew, eh] at r2
            obtain ⟨y, k1, k2, k3⟩ := load_R s r2 hv'
            exact ⟨y, .inr ⟨nb, k1⟩, fun ok => VR_noOwnC k2 ok k3⟩
        obtain ⟨y, k1, k2⟩ := key
        refine ⟨y :: hs, ?_, k2, i2⟩
        simp only [resOf]
        rcases k1 with ⟨x1, e1, e2⟩ | ⟨e1, e2⟩
        · subst e2
          rw [e1]
          simp only [if_true, i1]
        · revert e1 e2
          cases fr.env b with
          | lbox => intro h; cases h
          | _ => intro _ e2; simp only [e2, i1]
      · cases h
theorem leave1_keep {n : Nat} {v : WV} (h : ∀ p ∈ src1 v, leaveP n p = false) : leave1 n v = v := by
  cases v with
  | view p b off e ek xs => simp only [leave1, h p (by simp [src1]), Bool.false_eq_true, if_false]
  | _ => rfl
theorem leaveC_keep {n : Nat} {v : WV} (h : ∀ p ∈ srcC v, leaveP n p = false) : leaveC n v = v := by
  cases v with
  | agg cs =>
    simp only [leaveC]
    congr 1
    rw [List.map_congr_left (g := id)]
    · simp
    · intro x hx
      exact leave1_keep (fun p hp => h p (by simp only [srcC, srcL_eq, List.mem_flatMap]; exact ⟨x, hx, hp⟩))
  | _ => (simp only [leaveC]; exact leave1_keep h)
theorem leave1_own {n : Nat} {v : WV} (ok : okRes1 v = true) (h : ∀ p ∈ src1 v, leaveP n p = true) : leave1 n v = ownIt1 v := by
  cases v with
  | view p b off e ek xs => simp only [leave1, h p (by simp [src1]), if_true, ownIt1]
  | eptr => cases ok
  | _ => rfl
theorem leaveC_own {n : Nat} {v : WV} (ok : okRes v = true) (h : ∀ p ∈ srcC v, leaveP n p = true) : leaveC n v = ownItC v := by
  cases v with
  | agg cs =>
    simp only [leaveC, ownItC]
    congr 1
    apply List.map_congr_left
    intro x hx
    exact leave1_own (List.all_eq_true.1 ok x hx) (fun p hp => h p (by simp only [srcC, srcL_eq, List.mem_flatMap]; exact ⟨x, hx, hp⟩))
  | _ => (simp only [leaveC, ownItC]; exact leave1_own ok h)
theorem CRs.tup {X : Cx} : ∀ {l : List WV} {s : List HV} {k : Nat}, CRs X l s → l.all okRes = true → VRT X Pl.tmp k l s ∧ l.any hasOwnC = false := by
  intro l
  induction l with
  | nil => intro s k r _; cases s with
    | nil => exact ⟨trivial, rfl⟩
    | cons => exact r.elim
  | cons v l ih =>
    intro s k r h
    cases s with
    | nil => exact r.elim
    | cons a s =>
      simp only [List.all_cons, Bool.and_eq_true] at h
      obtain ⟨i1, i2⟩ := ih (k := k + 1) r.2 h.2
      obtain ⟨r1, r2⟩ := r.1 h.1
      exact ⟨⟨r1.any r2, i1⟩, by simp only [List.any_cons, r2, i2, Bool.or_self]⟩
theorem wone_tup {vs : List WV} (h : ∀ v, vs ≠ [v]) : woneOf vs = .tup vs := by
  match vs, h with
  | [], _ => rfl
  | [v], h => exact (h v rfl).elim
  | _ :: _ :: _, _ => rfl
theorem one_tup {vs : List HV} (h : ∀ v, vs ≠ [v]) : oneOf vs = .tup vs := by
  match vs, h with
  | [], _ => rfl
  | [v], h => exact (h v rfl).elim
  | _ :: _ :: _, _ => rfl
theorem srcAll_eq : ∀ l : List WV, srcAll l = srcT l := by
  intro l
  induction l with
  | nil => rfl
  | cons v l ih => simp only [srcAll, srcT, ih]
/-- One result, or several, as one value. -/
theorem CRs.one {X : Cx} {vs : List WV} {hs : List HV} (r : CRs X vs hs) (ok : vs.all okRes = true) :
    VR X Pl.tmp (woneOf vs) (oneOf hs) ∧ hasOwn (woneOf vs) = false ∧ (∀ ek w, woneOf vs ≠ .lbox ek w) ∧ srcs (woneOf vs) = srcAll vs ∧ okResT (woneOf vs) = true ∧
      woneOf (vs.map ownItC) = ownIt (woneOf vs) ∧ woneOf vs = woneOf vs := by
  by_cases h1 : ∃ v, vs = [v]
  · obtain ⟨v, rfl⟩ := h1
    cases hs with
    | nil => exact r.elim
    | cons a s =>
      cases s with
      | cons => exact r.2.elim
      | nil =>
        simp only [List.all_cons, List.all_nil, Bool.and_true] at ok
        obtain ⟨r1, r2⟩ := r.1 ok
        obtain ⟨c1, c2⟩ := okRes_shape ok
        refine ⟨VR_of_C (q := Pl.tmp) r1, ?_, c2, ?_, ?_, ?_, rfl⟩
        · show hasOwn v = false
          cases v with
          | tup => exact (c1 _ rfl).elim
          | lbox => exact (c2 _ _ rfl).elim
          | _ => exact r2
        · show srcs v = srcC v ++ []
          rw [List.append_nil]
          cases v with
          | tup => exact (c1 _ rfl).elim
          | _ => rfl
        · show okResT v = true
          cases v with
          | tup => exact (c1 _ rfl).elim
          | _ => exact ok
        · show ownItC v = ownIt v
          cases v with
          | tup => exact (c1 _ rfl).elim
          | _ => rfl
  · have n1 : ∀ v, vs ≠ [v] := fun v e => h1 ⟨v, e⟩
    have n2 : ∀ v, hs ≠ [v] := by
      intro v e
      subst e
      cases vs with
      | nil => exact r.elim
      | cons a s =>
        cases s with
        | nil => exact n1 a rfl
        | cons => exact r.2.elim
    have n3 : ∀ v, vs.map ownItC ≠ [v] := by
      intro v e
      cases vs with
      | nil => cases e
      | cons a s =>
        cases s with
        | nil => exact n1 a rfl
        | cons => cases e
    rw [wone_tup n1, one_tup n2, wone_tup n3]
    obtain ⟨r1, r2⟩ := r.tup (k := 0) ok
    exact ⟨⟨hs, rfl, r1⟩, r2, fun _ _ e => (by cases e), by rw [srcAll_eq]; rfl, ok, rfl, rfl⟩
theorem wframe_put (r : WV) : ((wframe []).putD 0 r).env = (wframe [r]).env := by
  funext t
  have h0 : ∀ K, hit K false (Pl.sl t) (.undef) = .undef := fun K => rfl
  simp only [WFr.putD, wframe, wbinds]
  split
  · simp only [WFr.put1, hitF, upd, wassoc, h0]
  · simp only [WFr.put1, upd, wassoc]
theorem wframe_al (r : WV) : ((wframe []).putD 0 r).al = noAl := by
  funext t
  simp only [WFr.putD]
  split <;> (simp only [WFr.put1, hitF, upd, wframe, noAl]; split <;> rfl)
theorem hframe_put (r : HV) : (hframe []).put (some 0) r = hframe [r] := by
  have h1 : ((hframe []).put (some 0) r).env = (hframe [r]).env := by
    funext t; simp only [Fr.put, hframe, upd, binds, assoc]
  have h2 : ((hframe []).put (some 0) r).al = (hframe [r]).al := by
    funext t; simp only [Fr.put, hframe, upd, noAl]; split <;> rfl
  have e : ∀ a b : Fr, a.env = b.env → a.al = b.al → a = b := by
    intro a b h1 h2; cases a; cases b; simp only at h1 h2; rw [h1, h2]
  exact e _ _ h1 h2
theorem wframe_put' (r : WV) : (wframe []).putD 0 r = wframe [r] := by
  have e : ∀ a b : WFr, a.env = b.env → a.al = b.al → a = b := by
    intro a b h1 h2; cases a; cases b; simp only at h1 h2; rw [h1, h2]
  exact e _ _ (wframe_put r) (wframe_al r)
theorem empty_R (X : Cx) : FrR X (wframe []) (hframe []) := ⟨rfl, fun s => (rfl : lboxH .undef = false)⟩
/-- What a function's frame leaves behind. -/
theorem finish_sim {X : Cx} {w : WFr} {W W' : WHeap} {fr : Fr} (s : SR X w W fr) {n : Nat} {vs : List WV} {hs : List HV} (r : CRs X vs hs) {v : WV} (h : wfinish n vs W = some (v, W')) :
    ∃ Y, SR Y (wframe [v]) W' (hframe [oneOf hs]) ∧ WStp X Y ∧ Y.H = X.H ∧ resOk v := by
  unfold wfinish at h
  split at h
  · rename_i hc
    obtain ⟨hn, ok, hor⟩ := hc
    injection h with h; injection h with h1 h2; subst h1; subst h2
    obtain ⟨r1, r2, r3, r4, r5, r6, _⟩ := r.one ok
    rcases hor with hnone | hall
    · -- nothing leaves its place
      have hk : ∀ p ∈ srcAll vs, leaveP n p = false := by
        intro p hp
        cases hl : leaveP n p with
        | false => rfl
        | true =>
          have : p ∈ (srcAll vs).filter (leaveP n) := List.mem_filter.2 ⟨hp, hl⟩
          rw [hnone] at this
          cases this
      have hmap : vs.map (leaveC n) = vs := by
        rw [List.map_congr_left (g := id)]
        · simp
        · intro x hx
          refine leaveC_keep (fun p hp => hk p ?_)
          rw [srcAll_eq, srcT_eq]
          exact List.mem_flatMap.2 ⟨x, hx, hp⟩
      rw [hnone, hmap]
      simp only [hitH]
      have s0 : SR X (wframe []) W (hframe []) := ⟨s.ok, empty_R X, s.hp, s.ht⟩
      have s1 := s0.put (dst := some 0) r1 r2
      have e1 : (wframe []).put (some 0) (woneOf vs) = wframe [woneOf vs] := wframe_put' _
      rw [e1, hframe_put] at s1
      refine ⟨X, s1, WStp.refl X, rfl, r5, fun ho => (by rw [r2] at ho; cases ho), r3, ?_⟩
      intro p hp
      rw [r4] at hp
      have := hk p hp
      cases p with
      | hp => rfl
      | sl => cases this
      | tmp => cases this
    · -- all leave
      have hf : (srcAll vs).filter (leaveP n) = srcAll vs := by
        rw [List.filter_eq_self]
        exact fun p hp => List.all_eq_true.1 hall p hp
      rw [hf] at hn ⊢
      have hmap : vs.map (leaveC n) = vs.map ownItC := by
        apply List.map_congr_left
        intro x hx
        refine leaveC_own (List.all_eq_true.1 ok x hx) (fun p hp => List.all_eq_true.1 hall p ?_)
        rw [srcAll_eq, srcT_eq]
        exact List.mem_flatMap.2 ⟨x, hx, hp⟩
      rw [hmap, r6, ← r4]
      obtain ⟨Y, hY, st, hH, hv, hnv, _⟩ := s.take r1 r2 r3 (by rw [r4]; exact hn)
      have hY0 : Hand Y (wframe []) (hitH false (srcs (woneOf vs)) W) (hframe []) (ownIt (woneOf vs)) (oneOf hs) := ⟨hY.ok, empty_R _, hY.hp, hY.vo, hY.vf⟩
      obtain ⟨Z, hZ, st', hH'⟩ := hY0.putD 0
      rw [wframe_put', hframe_put] at hZ
      refine ⟨Z, hZ, st.trans st', by rw [hH', hH], ?_, fun _ => hnv, ?_, ?_⟩
      · have o1 : ∀ v, okRes1 v = true → okRes1 (ownIt1 v) = true := by
          intro v hv
          cases v with
          | eptr => cases hv
          | _ => exact hv
        have oC : ∀ v, okRes v = true → okRes (ownItC v) = true := by
          intro v hv
          cases v with
          | agg cs =>
            simp only [okRes, ownItC, List.all_map, List.all_eq_true] at hv ⊢
            exact fun x hx => o1 x (hv x hx)
          | view => rfl
          | _ => first | exact hv | cases hv
        revert r5 r3
        cases woneOf vs with
        | tup ws =>
          intro _ r5
          simp only [okResT, ownIt, List.all_map, List.all_eq_true] at r5 ⊢
          exact fun x hx => oC x (r5 x hx)
        | lbox ek w => intro r3 _; exact (r3 _ _ rfl).elim
        | agg cs => intro _ r5; exact oC (.agg cs) r5
        | view p b off e ek xs => intro _ _; rfl
        | eptr => intro _ r5; cases r5
        | _ => intro _ r5; exact r5
      · revert r3
        cases woneOf vs with
        | lbox ek w => intro r3; exact (r3 _ _ rfl).elim
        | _ => intro _ ek w e; cases e
      · intro p hp
        exfalso
        have n1 : ∀ v, src1 (ownIt1 v) = [] := by intro v; cases v <;> rfl
        have nL : ∀ l : List WV, srcL (l.map ownIt1) = [] := by
          intro l
          induction l with
          | nil => rfl
          | cons v l ih => simp only [List.map_cons, srcL, n1, ih, List.append_nil]
        have nC : ∀ v, srcC (ownItC v) = [] := by
          intro v
          cases v with
          | agg cs => exact nL cs
          | _ => rfl
        have nT : ∀ l : List WV, srcT (l.map ownItC) = [] := by
          intro l
          induction l with
          | nil => rfl
          | cons v l ih => simp only [List.map_cons, srcT, nC, ih, List.append_nil]
        have nn : srcs (ownIt (woneOf vs)) = [] := by
          cases woneOf vs with
          | tup ws => exact nT ws
          | agg cs => exact nL cs
          | _ => rfl
        rw [nn] at hp
        cases hp
  · cases h
theorem wFn_sim {V : WEnv} {E : Env} (hE : EnvR V E) {cw : WCallF} {c : CallF} (hc : CallSim cw c) {it2 : WRun → WRun} {it1 : Run → Run} (hi : ∀ a b, RunSim a b → RunSim (it2 a) (it1 b)) : CallSim (wFn V cw it2) (runFn E c it1) := by
  intro f args W r W' h X args1 s
  unfold wFn at h
  cases hf : V.fn f with
  | none => rw [hf] at h; cases h
  | some g =>
    rw [hf] at h
    simp only at h
    have hf' : E.fn f = some g := by rw [← hE.fn]; exact hf
    have fin : ∀ e w1 W1, wC V cw it2 g.body (wframe args) W = some (e, w1, W1) → (e = .nrm ∨ e = .ret) → (match wresOf w1 W1 g.res with
        | some vs => wfinish W.length vs W1
        | none => none) = some (r, W') → ∃ r1 Y, runFn E c it1 f args1 X.H = some (r1, Y.H) ∧ SR Y (wframe [r]) W' (hframe [r1]) ∧ WStp X Y ∧ resOk r := by
      intro e w1 W1 h1 he h2
      obtain ⟨Y, fr1, k1, k2, k3⟩ := wC_sim hE hc hi g.body X _ W _ e w1 W1 s h1
      split at h2
      · rename_i vs hvs
        obtain ⟨hs, l1, l2⟩ := resOf_sim k2 g.res hvs
        obtain ⟨Z, z1, z2, z3, z4⟩ := finish_sim k2 l2 h2
        refine ⟨oneOf hs, Z, ?_, z1, k3.trans z2, z4⟩
        unfold runFn
        rw [hf']
        simp only
        have k1' : evC E c it1 g.body { env := assoc (binds 0 args1), al := noAl } X.H = some (e, fr1, Y.H) := k1
        rw [k1']
        rcases he with he | he <;> subst he <;> simp only [l1, z3]
      · cases h2
    split at h
    · rename_i w1 W1 h1
      exact fin _ w1 W1 h1 (.inl rfl) h
    · rename_i w1 W1 h1
      exact fin _ w1 W1 h1 (.inr rfl) h
    · cases h
theorem wF_sim {V : WEnv} {E : Env} (hE : EnvR V E) : ∀ n, CallSim (wF V n) (evF E n) := by
  intro n
  induction n with
  | zero => intro f args W r W' h; cases h
  | succ n ih =>
    have := wFn_sim hE ih (it2 := witF n) (it1 := itF n) (fun a b hab => witF_sim hab n)
    intro f args W r W' h
    exact this f args W r W' h
/-- What the state with slices as values gives from closed arguments and no memory, the evaluator gives. -/
theorem wv_ev {V : WEnv} {E : Env} (hE : EnvR V E) {f : Nat} {us : List CV} {u : CV} {W' : WHeap} (h : wv V f (us.map .c) [] = some (.c u, W')) : ∃ H', ev E f (us.map .c) [] = some (.c u, H') := by
  obtain ⟨n, hn⟩ := wv_some h
  obtain ⟨r1, Y, h1, h2, _⟩ := wF_sim hE n f _ _ _ _ hn _ _ (P_start us)
  have rr := h2.fr.env 0
  rw [wframe_one, hframe_one] at rr
  have : r1 = .c u := rr
  subst this
  exact ⟨Y.H, ev_of h1⟩
end Go.Proofs.Lz
