/- Two operations of a drawn region change places; one goes ahead of all before it. -/
import Derived.Test.YtmjofajbfondhaaLzDraw
set_option linter.unusedVariables false
set_option linter.unusedSimpArgs false
namespace Go.Proofs.Lz
section
variable {E : Env} {call : CallF}

theorem agr_env {R : List Nat} {fr fr' : Fr} (h : Agr R fr fr') {s : Nat} (hs : s ∈ R) (hb : isB (fr.env s) = false) : fr'.env s = fr.env s := by
  have h1 := h.1 s
  rw [hb] at h1
  have h2 := (h.2 s hs).2
  rw [unbox_eq hb, unbox_eq h1.symm] at h2
  exact h2.symm

theorem dstOk_iff {fr : Fr} {dst : Option Nat} : dstOk fr dst = true ↔ ∀ d, dst = some d → isB (fr.env d) = false := by
  cases dst with
  | none => simp [dstOk]
  | some d =>
    simp only [dstOk, Option.some.injEq, forall_eq']
    cases fr.env d <;> simp [isB]

theorem stpG_eff {c : Cls} {o : IOper} {fr fr1 : Fr} {H H1 : Heap} (h : stpG E call c o fr H = some (fr1, H1)) : EffD c o.reads o.dst fr H fr1 H1 (stpG E call c o) := by
  unfold stpG at h
  cases hg : o.guard with
  | none =>
    rw [hg] at h
    have he : stpG E call c o = doD E call c o.op o.dst := by funext fr H; unfold stpG; rw [hg]
    rw [he]
    exact (doD_eff h).mono (by unfold IOper.reads; rw [hg]; exact fun t ht => ht)
  | some g =>
    obtain ⟨s, want⟩ := g
    rw [hg] at h
    dsimp only at h
    have hsr : s ∈ o.reads := by unfold IOper.reads; rw [hg]; simp
    have skip : ∀ (K : ∀ fr', Agr o.reads fr fr' → ∀ H', stpG E call c o fr' H' = some (fr'.put o.dst .skipv, H')), EffD c o.reads o.dst fr H (fr.put o.dst .skipv) H (stpG E call c o) := by
      intro K
      refine eff_put ⟨fun _ _ => rfl, fun _ => ⟨[], by simp⟩⟩ fun fr' ha hab H' H1' hr => ?_
      rw [K fr' ha H']
      have : H1' = H' := by
        cases c <;> simp only [HRel] at hr
        · exact hr
        · exact hr
        · exact hr
        · exact hr.2
        · rw [hr.1]; exact hr.2
        · rw [hr.1]; exact hr.2
      rw [this]
    cases he : fr.env s with
    | c v =>
      cases v with
      | bool b =>
        rw [he] at h
        dsimp only at h
        have hb : isB (fr.env s) = false := by rw [he]; rfl
        by_cases hw : b = want
        · rw [if_pos hw] at h
          obtain ⟨k1, r, bx, k2, k3, k4, k5, k6⟩ := (doD_eff h).mono (R' := o.reads) (by unfold IOper.reads; rw [hg]; exact fun t ht => List.mem_cons_of_mem _ ht)
          refine ⟨k1, r, bx, k2, k3, k4, k5, fun fr' ha hab H' H1' hr => ?_⟩
          rw [← k6 fr' ha hab H' H1' hr]
          unfold stpG
          rw [hg]
          dsimp only
          rw [agr_env ha hsr hb, he]
          dsimp only
          rw [if_pos hw]
        · rw [if_neg hw] at h
          injection h with hh; injection hh with z1 z2; subst z1; subst z2
          refine skip fun fr' ha H' => ?_
          unfold stpG
          rw [hg]
          dsimp only
          rw [agr_env ha hsr hb, he]
          dsimp only
          rw [if_neg hw]
      | _ => rw [he] at h; cases h
    | skipv =>
      rw [he] at h
      have hb : isB (fr.env s) = false := by rw [he]; rfl
      injection h with hh; injection hh with z1 z2; subst z1; subst z2
      refine skip fun fr' ha H' => ?_
      unfold stpG
      rw [hg]
      dsimp only
      rw [agr_env ha hsr hb, he]
    | _ => rw [he] at h; cases h

/-- What a step has done to the frame. -/
structure Done (dst : Option Nat) (r : HV × Option (Nat × Nat)) (bx : Option (Nat × HV)) (fr : Fr) : Prop where
  box : ∀ b y, bx = some (b, y) → isB (fr.env b) = true ∧ isB y = true
  one : bx ≠ none → dst = none
  res : ∀ d, dst = some d → isB r.1 = false ∧ isB (fr.env d) = false

theorem Done.isB {dst : Option Nat} {r : HV × Option (Nat × Nat)} {bx : Option (Nat × HV)} {fr : Fr} (h : Done dst r bx fr) (b : Nat) : isB (((fr.setB bx).setD dst r).env b) = isB (fr.env b) := by
  cases dst with
  | some d =>
    have hbx : bx = none := by
      cases bx with
      | none => rfl
      | some p => have := h.one (by simp); cases this
    subst hbx
    simp only [Fr.setB, Fr.setD, upd]
    obtain ⟨h1, h2⟩ := h.res d rfl
    split
    · rename_i e; rw [e, h1, h2]
    · rfl
  | none =>
    cases bx with
    | none => rfl
    | some p =>
      obtain ⟨c, y⟩ := p
      obtain ⟨h1, h2⟩ := h.box c y rfl
      simp only [Fr.setB, Fr.setD, upd]
      split
      · rename_i e; rw [e, h1, h2]
      · rfl
theorem Done.slot {dst : Option Nat} {r : HV × Option (Nat × Nat)} {bx : Option (Nat × HV)} {fr : Fr} (h : Done dst r bx fr) {t : Nat} (ht : dst ≠ some t) :
    ((fr.setB bx).setD dst r).al t = fr.al t ∧ unbox (((fr.setB bx).setD dst r).env t) = unbox (fr.env t) := by
  cases dst with
  | some d =>
    have hbx : bx = none := by
      cases bx with
      | none => rfl
      | some p => have := h.one (by simp); cases this
    subst hbx
    have hne : t ≠ d := fun e => ht (by rw [e])
    simp only [Fr.setB, Fr.setD, upd, if_neg hne, and_self]
  | none =>
    cases bx with
    | none => exact ⟨rfl, rfl⟩
    | some p =>
      obtain ⟨c, y⟩ := p
      obtain ⟨h1, h2⟩ := h.box c y rfl
      simp only [Fr.setB, Fr.setD, upd, true_and]
      split
      · rename_i e
        obtain ⟨_, _, e1⟩ := isB_lbox h2
        obtain ⟨_, _, e2⟩ := isB_lbox h1
        rw [e, e1, e2]; rfl
      · rfl
theorem Done.agr {dst : Option Nat} {r : HV × Option (Nat × Nat)} {bx : Option (Nat × HV)} {fr : Fr} (h : Done dst r bx fr) {R : List Nat} (hR : ∀ d, dst = some d → d ∉ R) : Agr R fr ((fr.setB bx).setD dst r) :=
  ⟨fun b => (h.isB b).symm, fun t ht => ⟨(h.slot (fun e => hR t e ht)).1.symm, (h.slot (fun e => hR t e ht)).2.symm⟩⟩
theorem Agr.symm {R : List Nat} {fr fr' : Fr} (h : Agr R fr fr') : Agr R fr' fr := ⟨fun b => (h.1 b).symm, fun t ht => ⟨(h.2 t ht).1.symm, (h.2 t ht).2.symm⟩⟩
theorem Done.agrB {dst : Option Nat} {r : HV × Option (Nat × Nat)} {fr : Fr} (h : Done dst r none fr) : AgrB fr ((fr.setB none).setD dst r) := by
  intro b hb
  cases dst with
  | none => rfl
  | some d =>
    simp only [Fr.setB, Fr.setD, upd]
    split
    · rename_i e; rw [e, (h.res d rfl).2] at hb; cases hb
    · rfl
theorem AgrB.symm {fr fr' : Fr} (h : AgrB fr fr') (hi : ∀ b, isB (fr.env b) = isB (fr'.env b)) : AgrB fr' fr := fun b hb => (h b (by rw [hi b]; exact hb)).symm

theorem stpD_eff {c : Cls} {o : IOper} {fr fr1 : Fr} {H H1 : Heap} (h : stpD E call c o fr H = some (fr1, H1)) :
    ((c ≠ .wr → c ≠ .hb → H1 = H) ∧ (c = .hb → ∃ ext, H1 = H ++ ext)) ∧ ∃ (r : HV × Option (Nat × Nat)) (bx : Option (Nat × HV)), Done o.dst r bx fr ∧ (c ≠ .wrb → bx = none) ∧ fr1 = (fr.setB bx).setD o.dst r ∧
      ∀ fr', Agr o.reads fr fr' → (boxy c = true → AgrB fr fr') → ∀ H' H1', HRel c H H1 H' H1' → stpD E call c o fr' H' = some ((fr'.setB bx).setD o.dst r, H1') := by
  unfold stpD at h
  split at h
  · rename_i hd
    cases hs : stpG E call c o fr H with
    | none => rw [hs] at h; cases h
    | some p =>
      obtain ⟨fr2, H2⟩ := p
      rw [hs] at h
      dsimp only at h
      split at h
      · rename_i hd2
        injection h with hh; injection hh with z1 z2; subst z1; subst z2
        obtain ⟨k1, r, bx, k2, k3, k4, k5, k6⟩ := stpG_eff hs
        have hdone : Done o.dst r bx fr := by
          refine ⟨k2, k4, fun d he => ⟨?_, dstOk_iff.1 hd d he⟩⟩
          have := dstOk_iff.1 hd2 d he
          rw [k5, he] at this
          simpa [Fr.setD, upd] using this
        refine ⟨k1, r, bx, hdone, k3, k5, fun fr' ha hab H' H1' hr => ?_⟩
        have h1 : dstOk fr' o.dst = true := dstOk_iff.2 fun d he => by rw [← ha.1 d]; exact dstOk_iff.1 hd d he
        have h2 : dstOk ((fr'.setB bx).setD o.dst r) o.dst = true := dstOk_iff.2 fun d he => by
          rw [he]
          simp only [Fr.setD, upd, if_true]
          exact (hdone.res d he).1
        unfold stpD
        rw [if_pos h1, k6 fr' ha hab H' H1' hr]
        dsimp only
        rw [if_pos h2]
      · cases h
  · cases h

theorem apartS_spec {a b : IOper} (h : apartS a b = true) : (∀ d, a.dst = some d → d ∉ b.reads) ∧ (∀ d, a.dst = some d → b.dst ≠ some d) ∧ (∀ d, b.dst = some d → d ∉ a.reads) := by
  refine ⟨fun d hd => ?_, fun d hd => ?_, fun d hd => ?_⟩ <;> simp [apartS, hd] at h
  · exact h.1.1
  · exact h.1.2
  · exact h.2

theorem swap {ca ci : Cls} {a i : IOper} (hm : memOk ca ci = true) (hs : apartS a i = true) {fr fr1 fr2 : Fr} {H H1 H2 : Heap} (h1 : stpD E call ca a fr H = some (fr1, H1)) (h2 : stpD E call ci i fr1 H1 = some (fr2, H2)) :
    ∃ fr1' H1', stpD E call ci i fr H = some (fr1', H1') ∧ stpD E call ca a fr1' H1' = some (fr2, H2) := by
  obtain ⟨s1, s2, s3⟩ := apartS_spec hs
  obtain ⟨⟨ma, mha⟩, ra, ba, da, na, ea, ka⟩ := stpD_eff h1
  obtain ⟨⟨mi, mhi⟩, ri, bi, di, ni, ei, ki⟩ := stpD_eff h2
  have agr1 : Agr i.reads fr1 fr := by rw [ea]; exact (da.agr s1).symm
  have bx1 : boxy ci = true → AgrB fr1 fr := by
    intro hb
    have : ba = none := na (by intro e; subst e; cases ci <;> simp [boxy] at hb <;> simp [memOk] at hm)
    subst this
    rw [ea]
    exact da.agrB.symm fun b => (da.isB b).symm
  -- the later one first
  have hi : ∃ H1', HRel ci H1 H2 H H1' ∧ HRel ca H H1 H1' H2 := by
    cases ca <;> cases ci <;> simp [memOk] at hm <;> simp only [HRel, ne_eq, reduceCtorEq, not_false_eq_true, not_true_eq_false, true_implies, false_implies, forall_const] at * <;>
      first
      | (subst ma; subst mi; exact ⟨_, rfl, rfl⟩)
      | (subst ma; subst mi; exact ⟨_, ⟨⟨[], by simp⟩, rfl⟩, rfl⟩)
      | (subst ma; subst mi; exact ⟨_, rfl, ⟨[], by simp⟩, rfl⟩)
      | (subst ma; subst mi; exact ⟨_, ⟨⟨[], by simp⟩, rfl⟩, ⟨[], by simp⟩, rfl⟩)
      | (subst ma; exact ⟨_, ⟨rfl, rfl⟩, rfl⟩)
      | (subst ma; exact ⟨_, ⟨rfl, rfl⟩, mhi, rfl⟩)
      | (subst mi; exact ⟨_, rfl, rfl, rfl⟩)
  obtain ⟨H1', hr1, hr2⟩ := hi
  have g1 := ki fr agr1 bx1 H H1' hr1
  -- what it has done there
  have di' : Done i.dst ri bi fr := by
    refine ⟨fun b y e => ⟨?_, (di.box b y e).2⟩, di.one, fun d e => ⟨(di.res d e).1, ?_⟩⟩
    · rw [← agr1.1 b]; exact (di.box b y e).1
    · rw [← agr1.1 d]; exact (di.res d e).2
  refine ⟨_, H1', g1, ?_⟩
  have agr2 : Agr a.reads fr ((fr.setB bi).setD i.dst ri) := di'.agr s3
  have bx2 : boxy ca = true → AgrB fr ((fr.setB bi).setD i.dst ri) := by
    intro hb
    have : bi = none := ni (by intro e; subst e; cases ca <;> simp [boxy] at hb <;> simp [memOk] at hm)
    subst this
    exact di'.agrB
  rw [ka _ agr2 bx2 H1' H2 hr2, ei, ea]
  congr 1
  congr 1
  -- the frames
  cases hba : ba with
  | none =>
    cases hbi : bi with
    | none =>
      cases hda : a.dst with
      | none => rfl
      | some d =>
        cases hdi : i.dst with
        | none => rfl
        | some d' =>
          have hne : d ≠ d' := fun e => s2 d hda (by rw [hdi, e])
          simp only [Fr.setB, Fr.setD]
          congr 1
          · funext t
            simp only [upd]
            by_cases e1 : t = d
            · subst e1; rw [if_pos rfl, if_neg hne, if_pos rfl]
            · rw [if_neg e1, if_neg e1]
          · funext t
            simp only [upd]
            by_cases e1 : t = d
            · subst e1; rw [if_pos rfl, if_neg hne, if_pos rfl]
            · rw [if_neg e1, if_neg e1]
    | some p =>
      obtain ⟨b, y⟩ := p
      have hdi : i.dst = none := di'.one (by rw [hbi]; simp)
      rw [hdi]
      cases hda : a.dst with
      | none => rfl
      | some d =>
        have hne : b ≠ d := by
          intro e
          have q1 := (di'.box b y hbi).1
          rw [e, (da.res d hda).2] at q1
          cases q1
        simp only [Fr.setB, Fr.setD]
        congr 1
        funext t
        simp only [upd]
        by_cases e1 : t = d
        · subst e1; rw [if_pos rfl, if_neg (Ne.symm hne), if_pos rfl]
        · rw [if_neg e1, if_neg e1]
  | some q =>
    obtain ⟨b, y⟩ := q
    have hda : a.dst = none := da.one (by rw [hba]; simp)
    rw [hda]
    have hbi : bi = none := ni (by
      intro e; subst e
      have : ca = .wrb := by
        cases ca <;> first | rfl | (have := na (by simp); rw [hba] at this; cases this)
      subst this
      simp [memOk] at hm)
    rw [hbi]
    cases hdi : i.dst with
    | none => rfl
    | some d =>
      have hne : b ≠ d := by
        intro e
        have q1 := (da.box b y hba).1
        rw [e, (di'.res d hdi).2] at q1
        cases q1
      simp only [Fr.setB, Fr.setD]
      congr 1
      funext t
      simp only [upd]
      by_cases e1 : t = b
      · subst e1; rw [if_pos rfl, if_neg hne, if_pos rfl]
      · rw [if_neg e1, if_neg e1]
end
end Go.Proofs.Lz
