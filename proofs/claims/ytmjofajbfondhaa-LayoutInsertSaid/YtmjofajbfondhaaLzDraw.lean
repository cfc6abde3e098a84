/- Drawn regions: two operations that keep to classes which do not meet may change places. Nothing of the model is in sight here. -/
import Derived.Test.YtmjofajbfondhaaLzComp
set_option linter.unusedVariables false
set_option linter.unusedSimpArgs false
namespace Go.Proofs.Lz

def isB : HV → Bool
  | .lbox _ _ => true
  | _ => false
/-- A result's slot. -/
def Fr.setD (fr : Fr) (dst : Option Nat) (r : HV × Option (Nat × Nat)) : Fr :=
  match dst with
  | none => fr
  | some d => { env := upd fr.env d r.1, al := upd fr.al d r.2 }
def Fr.setB (fr : Fr) (bx : Option (Nat × HV)) : Fr :=
  match bx with
  | none => fr
  | some (b, y) => { fr with env := upd fr.env b y }

/-- Two frames that look alike at the slots R (and where boxes are). -/
def Agr (R : List Nat) (fr fr' : Fr) : Prop :=
  (∀ b, isB (fr.env b) = isB (fr'.env b)) ∧ ∀ t ∈ R, fr.al t = fr'.al t ∧ unbox (fr.env t) = unbox (fr'.env t)
def AgrB (fr fr' : Fr) : Prop := ∀ b, isB (fr.env b) = true → fr.env b = fr'.env b

theorem unbox_eq {v : HV} (h : isB v = false) : unbox v = v := by cases v <;> first | rfl | cases h
theorem isB_lbox {v : HV} (h : isB v = true) : ∃ ek y, v = .lbox ek y := by cases v <;> first | exact ⟨_, _, rfl⟩ | cases h

theorem nobox {v : HV} {o : Option (Nat × Nat)} (h : isB v = false) : (match v with
    | .lbox _ _ => o
    | _ => none) = none := by cases v <;> first | rfl | cases h

theorem agr_opd {xs : List Opd} {fr fr' : Fr} (h : Agr (oslot xs) fr fr') : ∀ x ∈ xs, fr.opd x = fr'.opd x ∧ fr.place x = fr'.place x := by
  induction xs with
  | nil => intro x hx; simp at hx
  | cons y ys ih =>
    intro x hx
    cases y with
    | k v =>
      rcases List.mem_cons.1 hx with rfl | hx
      · exact ⟨rfl, rfl⟩
      · exact ih h x hx
    | t i =>
      rcases List.mem_cons.1 hx with rfl | hx
      · obtain ⟨h1, h2⟩ := h.2 i (by simp [oslot])
        refine ⟨h2, ?_⟩
        simp only [Fr.place]
        rw [← h1]
        have key : ∀ b (o : Option (Nat × Nat)), (match fr.env b with
            | .lbox _ _ => o
            | _ => none) = (match fr'.env b with
            | .lbox _ _ => o
            | _ => none) := by
          intro b o
          have := h.1 b
          cases hb : isB (fr.env b) with
          | true =>
            obtain ⟨_, _, e1⟩ := isB_lbox hb
            rw [hb] at this
            obtain ⟨_, _, e2⟩ := isB_lbox this.symm
            rw [e1, e2]
          | false =>
            rw [hb] at this
            have k1 := nobox (o := o) hb
            have k2 := nobox (o := o) this.symm
            rw [k1, k2]
        cases fr.al i with
        | none => exact key i _
        | some p => obtain ⟨b, off⟩ := p; exact key b _
      · exact ih ⟨h.1, fun t ht => h.2 t (by simp [oslot, ht])⟩ x hx

theorem agr_opd' {xs : List Opd} {fr fr' : Fr} (h : Agr (oslot xs) fr fr') : ∀ x ∈ xs, fr'.opd x = fr.opd x ∧ fr'.place x = fr.place x :=
  fun x hx => ⟨(agr_opd h x hx).1.symm, (agr_opd h x hx).2.symm⟩

theorem put_setD (fr : Fr) (dst : Option Nat) (v : HV) : fr.put dst v = fr.setD dst (v, none) := by cases dst <;> rfl
theorem link_setD (fr : Fr) (dst : Option Nat) (b off : Nat) : fr.link dst b off = fr.setD dst (.undef, some (b, off)) := by cases dst <;> rfl

/-! ### what stays the same beside more memory -/
theorem ext_get {H : Heap} {x : HO} {id : Nat} (ext : Heap) (h : H[id]? = some x) : (H ++ ext)[id]? = some x := by
  rw [List.getElem?_append_left]
  · exact h
  · exact (List.getElem?_eq_some_iff.1 h).1

theorem thaw0_ext {H : Heap} (ext : Heap) {v : HV} {u : CV} (h : thaw0 H v = some u) : thaw0 (H ++ ext) v = some u := by
  cases v with
  | sl id ver off len =>
    unfold thaw0 at h ⊢
    dsimp only at h ⊢
    cases hg : H[id]? with
    | none => rw [hg] at h; cases h
    | some x => rw [hg] at h; rw [ext_get ext hg]; exact h
  | _ => exact h
theorem thaw0L_ext {H : Heap} (ext : Heap) : ∀ {vs : List HV} {us : List CV}, thaw0L H vs = some us → thaw0L (H ++ ext) vs = some us := by
  intro vs
  induction vs with
  | nil => intro us h; exact h
  | cons v vs ih =>
    intro us h
    unfold thaw0L at h ⊢
    cases h1 : thaw0 H v with
    | none => rw [h1] at h; cases h
    | some a =>
      cases h2 : thaw0L H vs with
      | none => rw [h1, h2] at h; cases h
      | some b => rw [h1, h2] at h; rw [thaw0_ext ext h1, ih h2]; exact h
theorem thaw1_ext {H : Heap} (ext : Heap) {v : HV} {u : CV} (h : thaw1 H v = some u) : thaw1 (H ++ ext) v = some u := by
  unfold thaw1 at h ⊢
  split at h
  · rename_i cs
    cases h1 : thaw0L H cs with
    | none => rw [h1] at h; cases h
    | some l => rw [h1] at h; rw [thaw0L_ext ext h1]; exact h
  · rename_i t cs
    cases h1 : thaw0L H cs with
    | none => rw [h1] at h; cases h
    | some l => rw [h1] at h; rw [thaw0L_ext ext h1]; exact h
  · rename_i t v hn
    cases h1 : thaw0 H v with
    | none => rw [h1] at h; cases h
    | some l => rw [h1] at h; rw [thaw0_ext ext h1]; exact h
  · exact thaw0_ext ext h
theorem thawP_ext {H : Heap} (ext : Heap) {v : HV} {u : CV} (h : thawP H v = some u) : thawP (H ++ ext) v = some u := by
  unfold thawP at h ⊢
  split at h
  · rename_i id off
    cases hg : H[id]? with
    | none => rw [hg] at h; cases h
    | some x =>
      rw [hg] at h
      rw [ext_get ext hg]
      cases x with
      | row fz e ek ver xs => exact h
      | var ek cs =>
        dsimp only at h ⊢
        cases h1 : thaw0L H cs with
        | none => rw [h1] at h; cases h
        | some l => rw [h1] at h; rw [thaw0L_ext ext h1]; exact h
  · exact thaw1_ext ext h
theorem thawPL_ext {H : Heap} (ext : Heap) : ∀ {vs : List HV} {us : List CV}, thawPL H vs = some us → thawPL (H ++ ext) vs = some us := by
  intro vs
  induction vs with
  | nil => intro us h; exact h
  | cons v vs ih =>
    intro us h
    unfold thawPL at h ⊢
    cases h1 : thawP H v with
    | none => rw [h1] at h; cases h
    | some a =>
      cases h2 : thawPL H vs with
      | none => rw [h1, h2] at h; cases h
      | some b => rw [h1, h2] at h; rw [thawP_ext ext h1, ih h2]; exact h
theorem thaw_ext {H : Heap} (ext : Heap) {v : HV} {u : CV} (h : thaw H v = some u) : thaw (H ++ ext) v = some u := by
  unfold thaw at h ⊢
  split at h
  · rename_i f first cap
    cases h1 : thawPL H first with
    | none => rw [h1] at h; cases h
    | some a =>
      cases h2 : thawPL H cap with
      | none => rw [h1, h2] at h; cases h
      | some b => rw [h1, h2] at h; rw [thawPL_ext ext h1, thawPL_ext ext h2]; exact h
  · exact thawP_ext ext h
theorem thawArgs_ext {H : Heap} (ext : Heap) : ∀ {vs us : List HV}, thawArgs H vs = some us → thawArgs (H ++ ext) vs = some us := by
  intro vs
  induction vs with
  | nil => intro us h; exact h
  | cons v vs ih =>
    intro us h
    unfold thawArgs at h ⊢
    cases h1 : thaw H v with
    | none => rw [h1] at h; cases h
    | some a =>
      cases h2 : thawArgs H vs with
      | none => rw [h1, h2] at h; cases h
      | some b => rw [h1, h2] at h; rw [thaw_ext ext h1, ih h2]; exact h

/-! ### classes -/
section
variable {E : Env} {call : CallF}

/-- What a call of a lent kind gives, and that it leaves memory alone. -/
theorem callP_ext {f : Nat} {args : List HV} {H H' : Heap} {v : HV} (hm : E.md f = .P) (h : callWith E call f args H = some (v, H')) (hn : noRef v = true ∨ args.all isC = true) :
    H' = H ∧ ∀ ext, callWith E call f args (H ++ ext) = some (v, H ++ ext) := by
  unfold callWith at h
  rw [hm] at h
  dsimp only at h
  cases ha : thawArgs H args with
  | none => rw [ha] at h; cases h
  | some as =>
    rw [ha] at h
    dsimp only at h
    cases hc : call f as [] with
    | none => rw [hc] at h; cases h
    | some p =>
      obtain ⟨r, H1⟩ := p
      rw [hc] at h
      dsimp only at h
      cases hr : thawRes H1 r with
      | none => rw [hr] at h; cases h
      | some r' =>
        rw [hr] at h
        dsimp only at h
        have hv : v = r' := by
          split at h
          · injection h with h; injection h with h1 h2; exact h1.symm
          · split at h
            · injection h with h; injection h with h1 h2; exact h1.symm
            · cases h
        subst hv
        have hcond : (args.all isC || noRef v) = true := by
          rcases hn with hn | hn
          · simp [hn]
          · simp [hn]
        rw [if_pos hcond] at h
        injection h with h
        injection h with h1 h2
        refine ⟨h2.symm, fun ext => ?_⟩
        unfold callWith
        rw [hm]
        dsimp only
        rw [thawArgs_ext ext ha]
        dsimp only
        rw [hc]
        dsimp only
        rw [hr]
        dsimp only
        rw [if_pos hcond]

theorem pure_eff {o : IOp} {dst : Option Nat} {fr fr1 : Fr} {H H1 : Heap} (hb : ∀ fz e ek z n ps, o ≠ .bsl fz e ek z n ps) (h : doD E call .pure o dst fr H = some (fr1, H1)) :
    H1 = H ∧ ∃ r, fr1 = fr.setD dst r ∧ ∀ fr', Agr (oslot o.opds) fr fr' → ∀ H', doD E call .pure o dst fr' H' = some (fr'.setD dst r, H') := by
  cases o
  case mv x =>
    simp only [doD, pureOp, doOp0, if_true, linkTo] at h
    (repeat' split at h) <;> first
      | (cases h; done)
      | (injection h with hh; injection hh with z1 z2; subst z1; subst z2; (first | refine ⟨rfl, _, put_setD _ _ _, fun fr' ha H' => ?_⟩ | refine ⟨rfl, _, link_setD _ _ _ _, fun fr' ha H' => ?_⟩); have hop := agr_opd' ha; simp_all [doD, doOp0, pureOp, IOp.opds, put_setD, linkTo, link_setD])
  case faddr off x =>
    simp only [doD, pureOp, doOp0, if_true, linkTo] at h
    (repeat' split at h) <;> first
      | (cases h; done)
      | (injection h with hh; injection hh with z1 z2; subst z1; subst z2; (first | refine ⟨rfl, _, put_setD _ _ _, fun fr' ha H' => ?_⟩ | refine ⟨rfl, _, link_setD _ _ _ _, fun fr' ha H' => ?_⟩); have hop := agr_opd' ha; simp_all [doD, doOp0, pureOp, IOp.opds, put_setD, linkTo, link_setD])
  case nck x =>
    simp only [doD, pureOp, doOp0, if_true, linkTo] at h
    (repeat' split at h) <;> first
      | (cases h; done)
      | (injection h with hh; injection hh with z1 z2; subst z1; subst z2; (first | refine ⟨rfl, _, put_setD _ _ _, fun fr' ha H' => ?_⟩ | refine ⟨rfl, _, link_setD _ _ _ _, fun fr' ha H' => ?_⟩); have hop := agr_opd' ha; simp_all [doD, doOp0, pureOp, IOp.opds, put_setD, linkTo, link_setD])
  case un op x =>
    simp only [doD, pureOp, doOp0, if_true] at h
    (repeat' split at h) <;> first
      | (cases h; done)
      | (injection h with hh; injection hh with z1 z2; subst z1; subst z2; (first | refine ⟨rfl, _, put_setD _ _ _, fun fr' ha H' => ?_⟩ | refine ⟨rfl, _, link_setD _ _ _ _, fun fr' ha H' => ?_⟩); have hop := agr_opd' ha; simp_all [doD, doOp0, pureOp, IOp.opds, put_setD, linkTo, link_setD])
  case bin op x y =>
    simp only [doD, pureOp, doOp0, if_true] at h
    (repeat' split at h) <;> first
      | (cases h; done)
      | (injection h with hh; injection hh with z1 z2; subst z1; subst z2; (first | refine ⟨rfl, _, put_setD _ _ _, fun fr' ha H' => ?_⟩ | refine ⟨rfl, _, link_setD _ _ _ _, fun fr' ha H' => ?_⟩); have hop := agr_opd' ha; simp_all [doD, doOp0, pureOp, IOp.opds, put_setD, linkTo, link_setD])
  case eqs neg ks x y =>
    simp only [doD, pureOp, doOp0, if_true] at h
    (repeat' split at h) <;> first
      | (cases h; done)
      | (injection h with hh; injection hh with z1 z2; subst z1; subst z2; (first | refine ⟨rfl, _, put_setD _ _ _, fun fr' ha H' => ?_⟩ | refine ⟨rfl, _, link_setD _ _ _ _, fun fr' ha H' => ?_⟩); have hop := agr_opd' ha; simp_all [doD, doOp0, pureOp, IOp.opds, put_setD, linkTo, link_setD])
  case eqb neg x y =>
    simp only [doD, pureOp, doOp0, if_true] at h
    (repeat' split at h) <;> first
      | (cases h; done)
      | (injection h with hh; injection hh with z1 z2; subst z1; subst z2; (first | refine ⟨rfl, _, put_setD _ _ _, fun fr' ha H' => ?_⟩ | refine ⟨rfl, _, link_setD _ _ _ _, fun fr' ha H' => ?_⟩); have hop := agr_opd' ha; simp_all [doD, doOp0, pureOp, IOp.opds, put_setD, linkTo, link_setD])
  case pick x y z =>
    simp only [doD, pureOp, doOp0, if_true] at h
    (repeat' split at h) <;> first
      | (cases h; done)
      | (injection h with hh; injection hh with z1 z2; subst z1; subst z2; (first | refine ⟨rfl, _, put_setD _ _ _, fun fr' ha H' => ?_⟩ | refine ⟨rfl, _, link_setD _ _ _ _, fun fr' ha H' => ?_⟩); have hop := agr_opd' ha; simp_all [doD, doOp0, pureOp, IOp.opds, put_setD, linkTo, link_setD])
  case fld ek off x =>
    simp only [doD, pureOp, doOp0, if_true] at h
    (repeat' split at h) <;> first
      | (cases h; done)
      | (injection h with hh; injection hh with z1 z2; subst z1; subst z2; (first | refine ⟨rfl, _, put_setD _ _ _, fun fr' ha H' => ?_⟩ | refine ⟨rfl, _, link_setD _ _ _ _, fun fr' ha H' => ?_⟩); have hop := agr_opd' ha; simp_all [doD, doOp0, pureOp, IOp.opds, put_setD, linkTo, link_setD])
  case cvs x =>
    simp only [doD, pureOp, doOp0, if_true] at h
    (repeat' split at h) <;> first
      | (cases h; done)
      | (injection h with hh; injection hh with z1 z2; subst z1; subst z2; (first | refine ⟨rfl, _, put_setD _ _ _, fun fr' ha H' => ?_⟩ | refine ⟨rfl, _, link_setD _ _ _ _, fun fr' ha H' => ?_⟩); have hop := agr_opd' ha; simp_all [doD, doOp0, pureOp, IOp.opds, put_setD, linkTo, link_setD])
  case six x i =>
    simp only [doD, pureOp, doOp0, if_true] at h
    (repeat' split at h) <;> first
      | (cases h; done)
      | (injection h with hh; injection hh with z1 z2; subst z1; subst z2; (first | refine ⟨rfl, _, put_setD _ _ _, fun fr' ha H' => ?_⟩ | refine ⟨rfl, _, link_setD _ _ _ _, fun fr' ha H' => ?_⟩); have hop := agr_opd' ha; simp_all [doD, doOp0, pureOp, IOp.opds, put_setD, linkTo, link_setD])
  case len st x =>
    simp only [doD, pureOp, doOp0, if_true] at h
    (repeat' split at h) <;> first
      | (cases h; done)
      | (injection h with hh; injection hh with z1 z2; subst z1; subst z2; (first | refine ⟨rfl, _, put_setD _ _ _, fun fr' ha H' => ?_⟩ | refine ⟨rfl, _, link_setD _ _ _ _, fun fr' ha H' => ?_⟩); have hop := agr_opd' ha; simp_all [doD, doOp0, pureOp, IOp.opds, put_setD, linkTo, link_setD])
  case ext x i =>
    simp only [doD, pureOp, doOp0, if_true] at h
    (repeat' split at h) <;> first
      | (cases h; done)
      | (injection h with hh; injection hh with z1 z2; subst z1; subst z2; (first | refine ⟨rfl, _, put_setD _ _ _, fun fr' ha H' => ?_⟩ | refine ⟨rfl, _, link_setD _ _ _ _, fun fr' ha H' => ?_⟩); have hop := agr_opd' ha; simp_all [doD, doOp0, pureOp, IOp.opds, put_setD, linkTo, link_setD])
  case cvt k x =>
    simp only [doD, pureOp, doOp0, if_true] at h
    (repeat' split at h) <;> first
      | (cases h; done)
      | (injection h with hh; injection hh with z1 z2; subst z1; subst z2; (first | refine ⟨rfl, _, put_setD _ _ _, fun fr' ha H' => ?_⟩ | refine ⟨rfl, _, link_setD _ _ _ _, fun fr' ha H' => ?_⟩); have hop := agr_opd' ha; simp_all [doD, doOp0, pureOp, IOp.opds, put_setD, linkTo, link_setD])
  case mx b x y =>
    simp only [doD, pureOp, doOp0, if_true] at h
    (repeat' split at h) <;> first
      | (cases h; done)
      | (injection h with hh; injection hh with z1 z2; subst z1; subst z2; (first | refine ⟨rfl, _, put_setD _ _ _, fun fr' ha H' => ?_⟩ | refine ⟨rfl, _, link_setD _ _ _ _, fun fr' ha H' => ?_⟩); have hop := agr_opd' ha; simp_all [doD, doOp0, pureOp, IOp.opds, put_setD, linkTo, link_setD])
  case build z ps =>
    simp only [doD, pureOp, doOp0, if_true] at h
    split at h
    · rename_i cs hf
      injection h with hh; injection hh with z1 z2; subst z1; subst z2
      refine ⟨rfl, _, put_setD _ _ _, fun fr' ha H' => ?_⟩
      have hop := agr_opd' ha
      have : (ps.map fun p => (p.1, p.2.1, fr'.opd p.2.2)) = (ps.map fun p => (p.1, p.2.1, fr.opd p.2.2)) :=
        List.map_congr_left fun p hp => by rw [(hop p.2.2 (by simp only [IOp.opds]; exact List.mem_map_of_mem hp)).1]
      simp only [doD, pureOp, doOp0, if_true, this, hf, put_setD]
    · cases h
  case mkf f as bs =>
    simp only [doD, pureOp, doOp0, if_true] at h
    injection h with hh; injection hh with z1 z2; subst z1; subst z2
    refine ⟨rfl, _, put_setD _ _ _, fun fr' ha H' => ?_⟩
    have hop := agr_opd' ha
    have h1 : as.map fr'.opd = as.map fr.opd := List.map_congr_left fun x hx => (hop x (by simp [IOp.opds, hx])).1
    have h2 : bs.map fr'.opd = bs.map fr.opd := List.map_congr_left fun x hx => (hop x (by simp [IOp.opds, hx])).1
    simp only [doD, pureOp, doOp0, if_true, h1, h2, put_setD]
  case bsl fz e ek z n ps => exact absurd rfl (hb fz e ek z n ps)
  all_goals simp [doD, pureOp] at h

/-- A literal row whose parts are closed already. -/
theorem frzIn_none : ∀ {vs : List HV} {us : List CV}, thaw0L [] vs = some us → ∀ H, frzIn vs H = H := by
  intro vs
  induction vs with
  | nil => intro us h H; rfl
  | cons v vs ih =>
    intro us h H
    unfold thaw0L at h
    cases h1 : thaw0 [] v with
    | none => rw [h1] at h; cases h
    | some a =>
      cases h2 : thaw0L [] vs with
      | none => rw [h1, h2] at h; cases h
      | some b =>
        cases v with
        | sl id ver off len => simp [thaw0] at h1
        | _ => unfold frzIn; exact ih h2 H
theorem closeV_none {v : HV} {u : CV} (h : thaw1 [] v = some u) (H : Heap) : closeV v H = some (u, H) := by
  have h2 : thaw1 H v = some u := by have := thaw1_ext H h; simpa using this
  have h3 : frzV v H = H := by
    cases v with
    | sl id ver off len => simp [thaw1, thaw0] at h
    | agg cs =>
      show frzIn cs H = H
      unfold thaw1 at h
      dsimp only at h
      cases h1 : thaw0L [] cs with
      | none => rw [h1] at h; cases h
      | some l => exact frzIn_none h1 H
    | iface t x =>
      cases x with
      | sl id ver off len => simp [thaw1, thaw0] at h
      | agg cs =>
        show frzIn cs H = H
        unfold thaw1 at h
        dsimp only at h
        cases h1 : thaw0L [] cs with
        | none => rw [h1] at h; cases h
        | some l => exact frzIn_none h1 H
      | _ => rfl
    | _ => rfl
  unfold closeV
  split
  · simp [thaw1, thaw0] at h; rw [h]
  · rw [h2]; dsimp only; rw [h3]
theorem fillRow_none {ek : Option Nat} : ∀ (ps : List (Nat × HV)) (xs : List CV) (H : Heap) (ys : List CV) (H1 : Heap), (∀ p ∈ ps, (thaw1 [] p.2).isSome = true) → fillRow ek xs H ps = some (ys, H1) → H1 = H ∧ ∀ H', fillRow ek xs H' ps = some (ys, H') := by
  intro ps
  induction ps with
  | nil =>
    intro xs H ys H1 _ h
    simp only [fillRow, Option.some.injEq, Prod.mk.injEq] at h
    obtain ⟨rfl, rfl⟩ := h
    exact ⟨rfl, fun _ => rfl⟩
  | cons p ps ih =>
    intro xs H ys H1 hp h
    obtain ⟨i, v⟩ := p
    obtain ⟨u, hu⟩ := Option.isSome_iff_exists.1 (hp (i, v) (by simp))
    unfold fillRow at h
    rw [closeV_none hu] at h
    dsimp only at h
    split at h
    · rename_i hc
      obtain ⟨k1, k2⟩ := ih _ _ _ _ (fun q hq => hp q (by simp [hq])) h
      refine ⟨k1, fun H' => ?_⟩
      unfold fillRow
      rw [closeV_none hu]
      dsimp only
      rw [if_pos hc]
      exact k2 H'
    · cases h
theorem bsl_eff {fz : Bool} {e : Nat} {ek : Option Nat} {z : List CV} {n : Nat} {ps : List (Nat × Opd)} {dst : Option Nat} {fr fr1 : Fr} {H H1 : Heap} (h : doD E call .pure (.bsl fz e ek z n ps) dst fr H = some (fr1, H1)) :
    H1 = H ∧ ∃ r, fr1 = fr.setD dst r ∧ ∀ fr', Agr (oslot (IOp.bsl fz e ek z n ps).opds) fr fr' → ∀ H', doD E call .pure (.bsl fz e ek z n ps) dst fr' H' = some (fr'.setD dst r, H') := by
  simp only [doD] at h
  split at h
  · rename_i hc
    obtain ⟨rfl, hps⟩ := hc
    simp only [doOp0] at h
    cases hz : unflat ek z with
    | none => rw [hz] at h; cases h
    | some zz =>
      rw [hz] at h
      dsimp only at h
      split at h
      · rename_i hfit
        cases hf : fillRow ek (List.replicate n zz) H (ps.map fun p => (p.1, fr.opd p.2)) with
        | none => rw [hf] at h; cases h
        | some q =>
          obtain ⟨ys, H2⟩ := q
          rw [hf] at h
          simp only [if_true] at h
          injection h with hh; injection hh with z1 z2; subst z1; subst z2
          obtain ⟨k1, k2⟩ := fillRow_none _ _ _ _ _ (by
            intro p hp
            obtain ⟨q, hq, rfl⟩ := List.mem_map.1 hp
            exact List.all_eq_true.1 hps q hq) hf
          refine ⟨k1, _, put_setD _ _ _, fun fr' ha H' => ?_⟩
          have hop := agr_opd' ha
          have e1 : (ps.map fun p => (p.1, fr'.opd p.2)) = (ps.map fun p => (p.1, fr.opd p.2)) :=
            List.map_congr_left fun p hp => by rw [(hop p.2 (by simp only [IOp.opds]; exact List.mem_map_of_mem hp)).1]
          have e2 : (ps.all fun p => (thaw1 [] (fr'.opd p.2)).isSome) = true := by
            rw [List.all_eq_true] at hps ⊢
            intro p hp
            rw [(hop p.2 (by simp only [IOp.opds]; exact List.mem_map_of_mem hp)).1]
            exact hps p hp
          simp only [doD, e2, doOp0, e1, hz, hfit, k2 H', put_setD, if_true, and_self]
      · cases h
  · cases h

/-- How an operation of a class goes on beside another frame and memory. -/
def HRel (c : Cls) (H H1 H' H1' : Heap) : Prop := match c with
  | .pure | .rdb | .wrb => H1' = H'
  | .rd => (∃ ext, H' = H ++ ext) ∧ H1' = H'
  | .wr | .hb => H' = H ∧ H1' = H1

def boxy : Cls → Bool
  | .rdb | .wrb => true
  | _ => false

/-- What stepping does, and does beside other frames and memories. -/
def EffD (c : Cls) (R : List Nat) (dst : Option Nat) (fr : Fr) (H : Heap) (fr1 : Fr) (H1 : Heap) (step : Fr → Heap → Option (Fr × Heap)) : Prop :=
  ((c ≠ .wr → c ≠ .hb → H1 = H) ∧ (c = .hb → ∃ ext, H1 = H ++ ext)) ∧
  ∃ (r : HV × Option (Nat × Nat)) (bx : Option (Nat × HV)), (∀ b y, bx = some (b, y) → isB (fr.env b) = true ∧ isB y = true) ∧ (c ≠ .wrb → bx = none) ∧ (bx ≠ none → dst = none) ∧ fr1 = (fr.setB bx).setD dst r ∧
    ∀ fr', Agr R fr fr' → (boxy c = true → AgrB fr fr') → ∀ H' H1', HRel c H H1 H' H1' → step fr' H' = some ((fr'.setB bx).setD dst r, H1')

theorem EffD.mono {c : Cls} {R R' : List Nat} {dst : Option Nat} {fr fr1 : Fr} {H H1 : Heap} {step : Fr → Heap → Option (Fr × Heap)} (h : EffD c R dst fr H fr1 H1 step) (hR : ∀ t ∈ R, t ∈ R') : EffD c R' dst fr H fr1 H1 step := by
  obtain ⟨h1, r, bx, h2, h3, h4, h5, h6⟩ := h
  exact ⟨h1, r, bx, h2, h3, h4, h5, fun fr' ha => h6 fr' ⟨ha.1, fun t ht => ha.2 t (hR t ht)⟩⟩

theorem place_box {fr : Fr} {x : Opd} {b off : Nat} (h : fr.place x = some (b, off)) : isB (fr.env b) = true := by
  cases x with
  | k v => simp [Fr.place] at h
  | t i =>
    simp only [Fr.place] at h
    split at h
    · rename_i b' off' _
      split at h
      · rename_i he
        injection h with h; injection h with h1 h2; subst h1
        rw [he]; rfl
      · cases h
    · split at h
      · rename_i he
        injection h with h; injection h with h1 h2; subst h1
        rw [he]; rfl
      · cases h

theorem rdb_eff {ek : Option Nat} {a : Opd} {dst : Option Nat} {fr fr1 : Fr} {H H1 : Heap} (h : doD E call .rdb (.load ek a) dst fr H = some (fr1, H1)) :
    EffD .rdb (oslot (IOp.load ek a).opds) dst fr H fr1 H1 (doD E call .rdb (.load ek a) dst) := by
  simp only [doD] at h
  split at h
  · rename_i hp
    simp only [doOp0] at h
    cases hpl : fr.place a with
    | none => rw [hpl] at hp; cases hp
    | some q =>
      obtain ⟨b, off⟩ := q
      rw [hpl] at h
      dsimp only at h
      obtain ⟨ek', y, hb⟩ := isB_lbox (place_box hpl)
      rw [hb] at h
      dsimp only at h
      split at h
      · rename_i v hv
        injection h with hh; injection hh with z1 z2; subst z1; subst z2
        refine ⟨⟨fun _ _ => rfl, fun h => by cases h⟩, (v, none), none, fun _ _ h => (by cases h), fun _ => rfl, fun h => absurd rfl h, put_setD _ _ _, ?_⟩
        intro fr' ha hab H' H1' hr
        cases hr
        have hop := agr_opd' ha a (by simp [IOp.opds])
        have he : fr'.env b = .lbox ek' y := by rw [← hab rfl b (by rw [hb]; rfl)]; exact hb
        simp only [doD, doOp0, hop.2, hpl, he, hv, put_setD, Option.isSome_some, if_true]
        rfl
      · cases h
  · cases h

theorem wrb_eff {ek : Option Nat} {a x : Opd} {dst : Option Nat} {fr fr1 : Fr} {H H1 : Heap} (h : doD E call .wrb (.store ek a x) dst fr H = some (fr1, H1)) :
    EffD .wrb (oslot (IOp.store ek a x).opds) dst fr H fr1 H1 (doD E call .wrb (.store ek a x) dst) := by
  simp only [doD] at h
  split at h
  · rename_i hp
    obtain ⟨hp, rfl⟩ := hp
    simp only [doOp0] at h
    cases hpl : fr.place a with
    | none => rw [hpl] at hp; cases hp
    | some q =>
      obtain ⟨b, off⟩ := q
      rw [hpl] at h
      dsimp only at h
      have hbb := place_box hpl
      obtain ⟨ek', y, hb⟩ := isB_lbox hbb
      rw [hb] at h
      dsimp only at h
      split at h
      · rename_i hf
        split at h
        · rename_i hc
          injection h with hh; injection hh with z1 z2; subst z1; subst z2
          refine ⟨⟨fun _ _ => rfl, fun h => by cases h⟩, (.undef, none), some (b, .lbox ek' (fr.opd x)), fun b' y' h => by injection h with h; injection h with e1 e2; subst e1; subst e2; exact ⟨hbb, rfl⟩, fun h => absurd rfl h, fun _ => rfl, rfl, ?_⟩
          intro fr' ha hab H' H1' hr
          cases hr
          have hop := agr_opd' ha
          have h1 := hop a (by simp [IOp.opds])
          have h2 := hop x (by simp [IOp.opds])
          have he : fr'.env b = .lbox ek' y := by rw [← hab rfl b hbb]; exact hb
          simp only [doD, doOp0, h1.2, hpl, he, h2.1, hf, Option.isSome_some, if_true, and_self]
          rw [if_pos hc]
          rfl
        · rename_i hc
          split at h
          · rename_i hl
            split at h
            · rename_i x' hu
              split at h
              · rename_i hf2
                injection h with hh; injection hh with z1 z2; subst z1; subst z2
                refine ⟨⟨fun _ _ => rfl, fun h => by cases h⟩, (.undef, none), some (b, .lbox ek' x'), fun b' y' h => by injection h with h; injection h with e1 e2; subst e1; subst e2; exact ⟨hbb, rfl⟩, fun h => absurd rfl h, fun _ => rfl, rfl, ?_⟩
                intro fr' ha hab H' H1' hr
                cases hr
                have hop := agr_opd' ha
                have h1 := hop a (by simp [IOp.opds])
                have h2 := hop x (by simp [IOp.opds])
                have he : fr'.env b = .lbox ek' y := by rw [← hab rfl b hbb]; exact hb
                simp only [doD, doOp0, h1.2, hpl, he, h2.1, hf, Option.isSome_some, if_true, and_self]
                rw [if_neg hc, if_pos hl, hu]
                dsimp only
                rw [if_pos hf2]
                rfl
              · cases h
            · cases h
          · cases h
      · cases h
  · cases h

/-! what reads memory -/
theorem loadH_ext {ek : Option Nat} {p v : HV} {H : Heap} (ext : Heap) (h : loadH ek p H = some v) : loadH ek p (H ++ ext) = some v := by
  unfold loadH at h ⊢
  split at h
  · exact h
  · rename_i id off
    cases hg : H[id]? with
    | none => rw [hg] at h; cases h
    | some x => rw [hg] at h; rw [ext_get ext hg]; exact h
  · rename_i id ver i off
    cases hg : H[id]? with
    | none => rw [hg] at h; cases h
    | some x => rw [hg] at h; rw [ext_get ext hg]; exact h
  · cases h
theorem ixH_ext {ek : Option Nat} {p v : HV} {n : Int} {H : Heap} (ext : Heap) (h : ixH ek p n H = some v) : ixH ek p n (H ++ ext) = some v := by
  unfold ixH at h ⊢
  split at h
  · exact h
  · rename_i id ver off len
    cases hg : H[id]? with
    | none => rw [hg] at h; cases h
    | some x => rw [hg] at h; rw [ext_get ext hg]; exact h
  · cases h
theorem slcH_ext {st : Bool} {ek : Option Nat} {p v : HV} {lo hi : Option Int} {H : Heap} (ext : Heap) (h : slcH st ek p lo hi H = some v) : slcH st ek p lo hi (H ++ ext) = some v := by
  unfold slcH at h ⊢
  split at h
  · exact h
  · exact h
  · exact h
  · rename_i id ver off len
    cases hg : H[id]? with
    | none => rw [hg] at h; cases h
    | some x => rw [hg] at h; rw [ext_get ext hg]; exact h
  · cases h

theorem optI_agr {fr fr' : Fr} {o : Option Opd} (h : ∀ x, o = some x → fr'.opd x = fr.opd x) : optI fr' o = optI fr o := by
  cases o with
  | none => rfl
  | some x => unfold optI; dsimp only; rw [h x rfl]

theorem eff_put {c : Cls} {R : List Nat} {dst : Option Nat} {fr : Fr} {H H1 : Heap} {v : HV} {step : Fr → Heap → Option (Fr × Heap)} (hm : (c ≠ .wr → c ≠ .hb → H1 = H) ∧ (c = .hb → ∃ ext, H1 = H ++ ext)) (h : ∀ fr', Agr R fr fr' → (boxy c = true → AgrB fr fr') → ∀ H' H1', HRel c H H1 H' H1' → step fr' H' = some (fr'.put dst v, H1')) : EffD c R dst fr H (fr.put dst v) H1 step := by
  refine ⟨hm, (v, none), none, fun _ _ h => (by cases h), fun _ => rfl, fun h => absurd rfl h, put_setD _ _ _, ?_⟩
  intro fr' ha hab H' H1' hr
  rw [h fr' ha hab H' H1' hr, put_setD]
  rfl

theorem rd_eff {o : IOp} {dst : Option Nat} {fr fr1 : Fr} {H H1 : Heap} (h : doD E call .rd o dst fr H = some (fr1, H1)) : EffD .rd (oslot o.opds) dst fr H fr1 H1 (doD E call .rd o dst) := by
  cases o with
  | load ek a =>
    simp only [doD] at h
    split at h
    · cases h
    · rename_i hp
      simp only [doOp0] at h
      cases hpl : fr.place a with
      | some q => rw [hpl] at hp; simp at hp
      | none =>
        rw [hpl] at h
        dsimp only at h
        cases hl : loadH ek (fr.opd a) H with
        | none => rw [hl] at h; cases h
        | some v =>
          rw [hl] at h
          injection h with hh; injection hh with z1 z2; subst z1; subst z2
          refine eff_put ⟨fun _ _ => rfl, fun h => by cases h⟩ fun fr' ha hab H' H1' hr => ?_
          obtain ⟨⟨ext, rfl⟩, rfl⟩ := hr
          have hop := agr_opd' ha a (by simp [IOp.opds])
          simp only [doD, doOp0, hop.2, hop.1, hpl, loadH_ext ext hl]
          rfl
  | ix ek x i =>
    simp only [doD, doOp0] at h
    cases hi : getInt (fr.opd i) with
    | none => rw [hi] at h; cases h
    | some n =>
      rw [hi] at h
      dsimp only at h
      cases hl : ixH ek (fr.opd x) n H with
      | none => rw [hl] at h; cases h
      | some v =>
        rw [hl] at h
        injection h with hh; injection hh with z1 z2; subst z1; subst z2
        refine eff_put ⟨fun _ _ => rfl, fun h => by cases h⟩ fun fr' ha hab H' H1' hr => ?_
        obtain ⟨⟨ext, rfl⟩, rfl⟩ := hr
        have hop := agr_opd' ha
        simp only [doD, doOp0, (hop x (by simp [IOp.opds])).1, (hop i (by simp [IOp.opds])).1, hi, ixH_ext ext hl]
  | slc st ek x lo hi =>
    simp only [doD, doOp0] at h
    cases h1 : optI fr lo with
    | none => rw [h1] at h; cases h
    | some l =>
      cases h2 : optI fr hi with
      | none => rw [h1, h2] at h; cases h
      | some u =>
        rw [h1, h2] at h
        dsimp only at h
        cases hl : slcH st ek (fr.opd x) l u H with
        | none => rw [hl] at h; cases h
        | some v =>
          rw [hl] at h
          injection h with hh; injection hh with z1 z2; subst z1; subst z2
          refine eff_put ⟨fun _ _ => rfl, fun h => by cases h⟩ fun fr' ha hab H' H1' hr => ?_
          obtain ⟨⟨ext, rfl⟩, rfl⟩ := hr
          have hop := agr_opd' ha
          have e1 : optI fr' lo = optI fr lo := optI_agr fun y hy => (hop y (by simp [IOp.opds, hy])).1
          have e2 : optI fr' hi = optI fr hi := optI_agr fun y hy => (hop y (by simp [IOp.opds, hy])).1
          simp only [doD, doOp0, (hop x (by simp [IOp.opds])).1, e1, e2, h1, h2, slcH_ext ext hl]
  | call f args =>
    simp only [doD] at h
    split at h
    · rename_i hm
      cases hc : callWith E call f (args.map fr.opd) H with
      | none => rw [hc] at h; cases h
      | some p =>
        obtain ⟨v, H2⟩ := p
        rw [hc] at h
        dsimp only at h
        split at h
        · rename_i hn
          injection h with hh; injection hh with z1 z2; subst z1; subst z2
          refine eff_put ⟨fun _ _ => rfl, fun h => by cases h⟩ fun fr' ha hab H' H1' hr => ?_
          obtain ⟨⟨ext, rfl⟩, rfl⟩ := hr
          have hop := agr_opd' ha
          have e1 : args.map fr'.opd = args.map fr.opd := List.map_congr_left fun x hx => (hop x (by simp [IOp.opds, hx])).1
          have := (callP_ext hm hc hn).2 ext
          simp only [doD, e1, this, hm, if_true]
          rw [if_pos hn]
        · cases h
    · cases h
  | _ => simp [doD] at h

theorem hb_eff {o : IOp} {dst : Option Nat} {fr fr1 : Fr} {H H1 : Heap} (h : doD E call .hb o dst fr H = some (fr1, H1)) : EffD .hb (oslot o.opds) dst fr H fr1 H1 (doD E call .hb o dst) := by
  cases o with
  | hbox ek x =>
    simp only [doD, doOp0] at h
    split at h
    · rename_i hf
      injection h with hh; injection hh with z1 z2; subst z1; subst z2
      refine eff_put ⟨fun _ h => absurd rfl h, fun _ => ⟨_, rfl⟩⟩ fun fr' ha hab H' H1' hr => ?_
      obtain ⟨rfl, rfl⟩ := hr
      have hop := agr_opd' ha x (by simp [IOp.opds])
      simp only [doD, doOp0, hop.1, hf, if_true]
    · cases h
  | _ => simp [doD] at h

theorem wr_eff {o : IOp} {dst : Option Nat} {fr fr1 : Fr} {H H1 : Heap} (h : doD E call .wr o dst fr H = some (fr1, H1)) : EffD .wr (oslot o.opds) dst fr H fr1 H1 (doD E call .wr o dst) := by
  have hm : (Cls.wr ≠ .wr → Cls.wr ≠ .hb → H1 = H) ∧ (Cls.wr = .hb → ∃ ext, H1 = H ++ ext) := ⟨fun h => absurd rfl h, fun h => by cases h⟩
  cases o with
  | store ek a x =>
    simp only [doD] at h
    split at h
    · cases h
    · rename_i hp
      have hdst : dst = none := by
        cases dst with
        | none => rfl
        | some d => exact absurd (.inr (by simp)) hp
      subst hdst
      simp only [doOp0] at h
      cases hpl : fr.place a with
      | some q => rw [hpl] at hp; simp at hp
      | none =>
        rw [hpl] at h
        dsimp only at h
        cases hl : storeH ek (fr.opd a) (fr.opd x) H with
        | none => rw [hl] at h; cases h
        | some H2 =>
          rw [hl] at h
          injection h with hh; injection hh with z1 z2; subst z1; subst z2
          refine ⟨hm, (.undef, none), none, fun _ _ h => (by cases h), fun _ => rfl, fun h => absurd rfl h, rfl, ?_⟩
          intro fr' ha hab H' H1' hr
          obtain ⟨rfl, rfl⟩ := hr
          have hop := agr_opd' ha
          have h1 := hop a (by simp [IOp.opds])
          have h2 := hop x (by simp [IOp.opds])
          simp only [doD, doOp0, h1.1, h1.2, h2.1, hpl, hl]
          simp [Fr.setB, Fr.setD]
  | app e ek n s x =>
    simp only [doD, doOp0] at h
    cases hl : appH e ek n (fr.opd s) (fr.opd x) H with
    | none => rw [hl] at h; cases h
    | some q =>
      rw [hl] at h
      injection h with hh; injection hh with z1 z2; subst z1; subst z2
      refine eff_put hm fun fr' ha hab H' H1' hr => ?_
      obtain ⟨rfl, rfl⟩ := hr
      have hop := agr_opd' ha
      simp only [doD, doOp0, (hop s (by simp [IOp.opds])).1, (hop x (by simp [IOp.opds])).1, hl]
  | bsl fz e ek z n ps =>
    simp only [doD, doOp0] at h
    cases hz : unflat ek z with
    | none => rw [hz] at h; cases h
    | some zz =>
      rw [hz] at h
      dsimp only at h
      split at h
      · rename_i hfit
        cases hf : fillRow ek (List.replicate n zz) H (ps.map fun p => (p.1, fr.opd p.2)) with
        | none => rw [hf] at h; cases h
        | some q =>
          obtain ⟨ys, H2⟩ := q
          rw [hf] at h
          dsimp only at h
          have e1 : ∀ fr', Agr (oslot (IOp.bsl fz e ek z n ps).opds) fr fr' → (ps.map fun p => (p.1, fr'.opd p.2)) = (ps.map fun p => (p.1, fr.opd p.2)) :=
            fun fr' ha => List.map_congr_left fun p hp => by rw [(agr_opd' ha p.2 (by simp only [IOp.opds]; exact List.mem_map_of_mem hp)).1]
          split at h
          · rename_i hfz
            injection h with hh; injection hh with z1 z2; subst z1; subst z2
            refine eff_put hm fun fr' ha hab H' H1' hr => ?_
            obtain ⟨rfl, rfl⟩ := hr
            simp only [doD, doOp0, hz, hfit, e1 fr' ha, hf, hfz, if_true]
          · rename_i hfz
            injection h with hh; injection hh with z1 z2; subst z1; subst z2
            refine eff_put hm fun fr' ha hab H' H1' hr => ?_
            obtain ⟨rfl, rfl⟩ := hr
            simp only [doD, doOp0, hz, hfit, e1 fr' ha, hf, if_true]
            rw [if_neg hfz]
      · cases h
  | call f args =>
    simp only [doD, doOp, putCall] at h
    cases hc : callWith E call f (args.map fr.opd) H with
    | none => rw [hc] at h; cases h
    | some p =>
      obtain ⟨v, H2⟩ := p
      rw [hc] at h
      injection h with hh; injection hh with z1 z2; subst z1; subst z2
      refine eff_put hm fun fr' ha hab H' H1' hr => ?_
      obtain ⟨rfl, rfl⟩ := hr
      have hop := agr_opd' ha
      have e1 : args.map fr'.opd = args.map fr.opd := List.map_congr_left fun x hx => (hop x (by simp [IOp.opds, hx])).1
      simp only [doD, doOp, putCall, e1, hc]
  | callv x args =>
    simp only [doD, doOp, putCall] at h
    cases ht : targetOf (fr.opd x) (args.map fr.opd) with
    | none => rw [ht] at h; cases h
    | some q =>
      rw [ht] at h
      dsimp only at h
      cases hc : callWith E call q.1 q.2 H with
      | none => rw [hc] at h; cases h
      | some p =>
        obtain ⟨v, H2⟩ := p
        rw [hc] at h
        injection h with hh; injection hh with z1 z2; subst z1; subst z2
        refine eff_put hm fun fr' ha hab H' H1' hr => ?_
        obtain ⟨rfl, rfl⟩ := hr
        have hop := agr_opd' ha
        have e1 : args.map fr'.opd = args.map fr.opd := List.map_congr_left fun x hx => (hop x (by simp [IOp.opds, hx])).1
        simp only [doD, doOp, putCall, e1, (hop x (by simp [IOp.opds])).1, ht, hc]
  | _ => simp [doD] at h

theorem doD_eff {c : Cls} {o : IOp} {dst : Option Nat} {fr fr1 : Fr} {H H1 : Heap} (h : doD E call c o dst fr H = some (fr1, H1)) : EffD c (oslot o.opds) dst fr H fr1 H1 (doD E call c o dst) := by
  cases c with
  | pure =>
    have key : H1 = H ∧ ∃ r, fr1 = fr.setD dst r ∧ ∀ fr', Agr (oslot o.opds) fr fr' → ∀ H', doD E call .pure o dst fr' H' = some (fr'.setD dst r, H') := by
      cases o with
      | bsl fz e ek z n ps => exact bsl_eff h
      | _ => exact pure_eff (by intros; simp) h
    obtain ⟨k1, r, k2, k3⟩ := key
    refine ⟨⟨fun _ _ => k1, fun h => by cases h⟩, r, none, fun _ _ h => (by cases h), fun _ => rfl, fun h => absurd rfl h, k2, ?_⟩
    intro fr' ha hab H' H1' hr
    cases hr
    exact k3 fr' ha H'
  | rdb => cases o <;> first | exact rdb_eff h | simp [doD] at h
  | wrb => cases o <;> first | exact wrb_eff h | simp [doD] at h
  | rd => exact rd_eff h
  | wr => exact wr_eff h
  | hb => exact hb_eff h
end
end Go.Proofs.Lz
