/- The evaluator of LzW without a number of rounds: its equations. -/
import Derived.Test.YtmjofajbfondhaaLzW
import Derived.Test.YtmjofajbfondhaaLzOm
namespace Go.Proofs.Lz

/-! ### more gives more -/
def WLeCall (c c' : WCallF) : Prop := ∀ f a H, Le (c f a H) (c' f a H)
def WLeRun (s s' : WRun) : Prop := ∀ fr H, Le (s fr H) (s' fr H)

theorem wcallTo_mono {E : WEnv} {c c' : WCallF} (h : WLeCall c c') (f : Nat) (args : List WV) (dst : Option Nat) (fr : WFr) (H : WHeap) :
    Le (wcallTo E c f args dst fr H) (wcallTo E c' f args dst fr H) := by
  intro r hr
  unfold wcallTo at hr ⊢
  cases hm : E.md f with
  | S =>
    rw [hm] at hr
    dsimp only at hr ⊢
    split at hr
    · rename_i hc
      rw [if_pos hc]
      cases ha : hitAll (takenS (E.tk f) 0 args) false fr H with
      | mk fr1 H1 =>
        rw [ha] at hr
        dsimp only at hr ⊢
        cases hc : c f (passW (E.tk f) 0 args) H1 with
        | none => rw [hc] at hr; cases hr
        | some q => rw [hc] at hr; rw [h _ _ _ _ hc]; exact hr
    · cases hr
  | P =>
    rw [hm] at hr
    dsimp only at hr ⊢
    cases ha : thawWs H args with
    | none => rw [ha] at hr; cases hr
    | some as =>
      rw [ha] at hr
      dsimp only at hr ⊢
      cases hc : c f as [] with
      | none => rw [hc] at hr; cases hr
      | some p => rw [hc] at hr; rw [h _ _ _ _ hc]; exact hr

theorem wOp_mono {E : WEnv} {c c' : WCallF} (h : WLeCall c c') (o : IOp) (dst : Option Nat) (fr : WFr) (H : WHeap) : Le (wOp E c o dst fr H) (wOp E c' o dst fr H) := by
  intro r hr
  unfold wOp at hr ⊢
  split at hr
  · exact wcallTo_mono h _ _ _ _ _ _ hr
  · rename_i x args
    cases ht : wtarget (fr.rd x) (args.map fr.rd) with
    | none => rw [ht] at hr; cases hr
    | some p =>
      rw [ht] at hr
      exact wcallTo_mono h _ _ _ _ _ _ hr
  · exact hr

theorem wStp_mono {E : WEnv} {c c' : WCallF} (h : WLeCall c c') (o : IOper) (fr : WFr) (H : WHeap) : Le (wStp E c o fr H) (wStp E c' o fr H) := by
  intro r hr
  unfold wStp at hr ⊢
  cases hg : o.guard with
  | none => rw [hg] at hr; exact wOp_mono h _ _ _ _ _ hr
  | some g =>
    rw [hg] at hr
    obtain ⟨s, want⟩ := g
    dsimp only at hr ⊢
    split at hr
    · split at hr
      · rename_i hb; rw [if_pos hb]; exact wOp_mono h _ _ _ _ _ hr
      · rename_i hb; rw [if_neg hb]; exact hr
    · exact hr
    · cases hr

theorem wOps_mono {E : WEnv} {c c' : WCallF} (h : WLeCall c c') (ops : List IOper) : ∀ (fr : WFr) (H : WHeap), Le (wOps E c ops fr H) (wOps E c' ops fr H) := by
  induction ops with
  | nil => intro fr H; exact Le.refl _
  | cons o ops ih =>
    intro fr H r hr
    unfold wOps at hr ⊢
    cases hs : wStp E c o fr H with
    | none => rw [hs] at hr; cases hr
    | some p => rw [hs] at hr; rw [wStp_mono h _ _ _ _ hs]; exact ih _ _ _ hr

theorem wD_mono {E : WEnv} {c c' : WCallF} (h : WLeCall c c') (cl : Cls) (o : IOp) (dst : Option Nat) (fr : WFr) (H : WHeap) : Le (wD E c cl o dst fr H) (wD E c' cl o dst fr H) := by
  intro r hr
  unfold wD at hr ⊢
  split at hr
  · exact hr
  · exact hr
  · exact hr
  · split at hr
    · exact hr
    · exact hr
    · exact hr
    · rename_i f args
      cases hm : E.md f with
      | S => rw [hm] at hr; cases hr
      | P =>
        rw [hm] at hr
        dsimp only at hr ⊢
        cases ha : thawWs H (args.map fr.rd) with
        | none => rw [ha] at hr; cases hr
        | some as =>
          rw [ha] at hr
          dsimp only at hr ⊢
          cases hc : c f as [] with
          | none => rw [hc] at hr; cases hr
          | some p => rw [hc] at hr; rw [h _ _ _ _ hc]; exact hr
    · exact hr
  · split at hr
    · exact hr
    · exact hr
    · exact hr
    · exact wOp_mono h _ _ _ _ _ hr
    · exact wOp_mono h _ _ _ _ _ hr
    · exact hr
  · exact hr
theorem wStpG_mono {E : WEnv} {c c' : WCallF} (h : WLeCall c c') (cl : Cls) (o : IOper) (fr : WFr) (H : WHeap) : Le (wStpG E c cl o fr H) (wStpG E c' cl o fr H) := by
  intro r hr
  unfold wStpG at hr ⊢
  cases hg : o.guard with
  | none => rw [hg] at hr; exact wD_mono h _ _ _ _ _ _ hr
  | some g =>
    rw [hg] at hr
    obtain ⟨s, want⟩ := g
    dsimp only at hr ⊢
    split at hr
    · split at hr
      · rename_i hb; rw [if_pos hb]; exact wD_mono h _ _ _ _ _ _ hr
      · rename_i hb; rw [if_neg hb]; exact hr
    · exact hr
    · cases hr
theorem wStpD_mono {E : WEnv} {c c' : WCallF} (h : WLeCall c c') (cl : Cls) (o : IOper) (fr : WFr) (H : WHeap) : Le (wStpD E c cl o fr H) (wStpD E c' cl o fr H) := by
  intro r hr
  unfold wStpD at hr ⊢
  split at hr
  · rename_i hd
    rw [if_pos hd]
    cases hs : wStpG E c cl o fr H with
    | none => rw [hs] at hr; cases hr
    | some p => rw [hs] at hr; rw [wStpG_mono h _ _ _ _ _ hs]; exact hr
  · cases hr
theorem wOpsD_mono {E : WEnv} {c c' : WCallF} (h : WLeCall c c') (ops : List (Cls × IOper)) : ∀ (fr : WFr) (H : WHeap), Le (wOpsD E c ops fr H) (wOpsD E c' ops fr H) := by
  induction ops with
  | nil => intro fr H; exact Le.refl _
  | cons o ops ih =>
    intro fr H r hr
    obtain ⟨cl, o⟩ := o
    unfold wOpsD at hr ⊢
    cases hs : wStpD E c cl o fr H with
    | none => rw [hs] at hr; cases hr
    | some p => rw [hs] at hr; rw [wStpD_mono h _ _ _ _ _ hs]; exact ih _ _ _ hr

theorem wturnEx_mono (l : Nat) {a b : Option (Ex × WFr × WHeap)} (h : Le a b) : Le (wturnEx l a) (wturnEx l b) := by
  intro r hr
  cases a with
  | none => cases hr
  | some q => rw [h _ rfl]; exact hr
theorem wbackEx_mono (l : Nat) {a b : Option (Ex × WFr × WHeap)} (h : Le a b) : Le (wbackEx l a) (wbackEx l b) := by
  intro r hr
  cases a with
  | none => cases hr
  | some q => rw [h _ rfl]; exact hr

def WLeIt (i i' : WRun → WRun) : Prop := ∀ s s', WLeRun s s' → WLeRun (i s) (i' s')

theorem wC_mono {E : WEnv} {c c' : WCallF} {i i' : WRun → WRun} (h : WLeCall c c') (hi : WLeIt i i') (code : ICode) : WLeRun (wC E c i code) (wC E c' i' code) := by
  induction code with
  | skip => intro fr H; exact Le.refl _
  | region ops =>
    intro fr H r hr
    unfold wC at hr ⊢
    cases hs : wOps E c ops { fr with al := noAl } H with
    | none => rw [hs] at hr; cases hr
    | some p => rw [hs] at hr; rw [wOps_mono h _ _ _ _ hs]; exact hr
  | regionD ops =>
    intro fr H r hr
    unfold wC at hr ⊢
    cases hs : wOpsD E c ops { fr with al := noAl } H with
    | none => rw [hs] at hr; cases hr
    | some p => rw [hs] at hr; rw [wOpsD_mono h _ _ _ _ hs]; exact hr
  | seq a b iha ihb =>
    intro fr H r hr
    unfold wC at hr ⊢
    cases hs : wC E c i a fr H with
    | none => rw [hs] at hr; cases hr
    | some p =>
      rw [hs] at hr; rw [iha _ _ _ hs]
      obtain ⟨e, fr', H'⟩ := p
      cases e with
      | nrm => exact ihb _ _ _ hr
      | _ => exact hr
  | cond x a b iha ihb =>
    intro fr H r hr
    unfold wC at hr ⊢
    split at hr
    · split at hr
      · rename_i hb; rw [if_pos hb]; exact iha _ _ _ hr
      · rename_i hb; rw [if_neg hb]; exact ihb _ _ _ hr
    · cases hr
  | block id b ih =>
    intro fr H r hr
    unfold wC at hr ⊢
    cases hs : wC E c i b fr H with
    | none => rw [hs] at hr; cases hr
    | some p => rw [hs] at hr; rw [ih _ _ _ hs]; exact hr
  | loop live b ih =>
    intro fr H r hr
    unfold wC at hr ⊢
    exact hi _ _ (fun fr H => ih _ _) _ _ _ hr
  | exit id => intro fr H; exact Le.refl _
  | scope l live b rest ihb ihr =>
    intro fr H r hr
    unfold wC at hr ⊢
    cases hs : wC E c i b fr H with
    | none => rw [hs] at hr; cases hr
    | some p =>
      rw [hs] at hr; rw [ihb _ _ _ hs]
      obtain ⟨e, fr', H'⟩ := p
      cases e with
      | goto l' =>
        dsimp only at hr ⊢
        split at hr
        · rename_i hl
          rw [if_pos hl]
          have key : WLeRun (i fun fr H => wturnEx l (wC E c i rest (wkeep live fr) H)) (i' fun fr H => wturnEx l (wC E c' i' rest (wkeep live fr) H)) :=
            hi _ _ fun fr H => wturnEx_mono l (ihr _ _)
          exact wbackEx_mono l (key _ _) _ hr
        · rename_i hl; rw [if_neg hl]; exact hr
      | _ => exact hr
  | label l => intro fr H; exact Le.refl _
  | goto l => intro fr H; exact Le.refl _
  | ret => intro fr H; exact Le.refl _

theorem witF_step (n : Nat) : ∀ s s' : WRun, WLeRun s s' → WLeRun (witF n s) (witF (n + 1) s') := by
  induction n with
  | zero => intro s s' _ fr H r hr; cases hr
  | succ n ih =>
    intro s s' h fr H r hr
    rw [witF] at hr ⊢
    cases hs : s fr H with
    | none => rw [hs] at hr; cases hr
    | some p =>
      rw [hs] at hr; rw [h _ _ _ hs]
      obtain ⟨e, fr', H'⟩ := p
      cases e with
      | nrm => exact ih _ _ h _ _ _ hr
      | _ => exact hr
theorem witF_le (n k : Nat) : WLeIt (witF n) (witF (n + k)) := by
  induction k with
  | zero =>
    intro s s' h
    induction n with
    | zero => intro fr H r hr; cases hr
    | succ n ih =>
      intro fr H r hr
      simp only [Nat.add_zero] at ih ⊢
      rw [witF] at hr ⊢
      cases hs : s fr H with
      | none => rw [hs] at hr; cases hr
      | some p =>
        rw [hs] at hr; rw [h _ _ _ hs]
        obtain ⟨e, fr', H'⟩ := p
        cases e with
        | nrm => exact ih _ _ _ hr
        | _ => exact hr
  | succ k ih =>
    intro s s' h fr H
    exact (ih s s' h fr H).trans (witF_step (n + k) s' s' (fun _ _ => Le.refl _) fr H)

theorem wFn_mono {E : WEnv} {c c' : WCallF} {i i' : WRun → WRun} (h : WLeCall c c') (hi : WLeIt i i') : WLeCall (wFn E c i) (wFn E c' i') := by
  intro f a H r hr
  unfold wFn at hr ⊢
  cases hf : E.fn f with
  | none => rw [hf] at hr; cases hr
  | some g =>
    rw [hf] at hr
    dsimp only at hr ⊢
    cases hs : wC E c i g.body { env := wassoc (wbinds 0 a), al := noAl } H with
    | none => rw [hs] at hr; cases hr
    | some p => rw [hs] at hr; rw [wC_mono h hi _ _ _ _ hs]; exact hr

theorem wF_mono (E : WEnv) (n : Nat) : WLeCall (wF E n) (wF E (n + 1)) := by
  induction n with
  | zero => intro f a H r hr; cases hr
  | succ n ih => exact wFn_mono ih (witF_le n 1)
theorem wF_le (E : WEnv) (n k : Nat) : WLeCall (wF E n) (wF E (n + k)) := by
  induction k with
  | zero => intro f a H; exact Le.refl _
  | succ k ih => intro f a H; exact (ih f a H).trans (wF_mono E (n + k) f a H)

noncomputable def wv (E : WEnv) : WCallF := fun f a H => lub fun n => wF E n f a H
noncomputable def witW : WRun → WRun := fun s fr H => lub fun n => witF n s fr H

theorem wv_some {E : WEnv} {f : Nat} {a : List WV} {H : WHeap} {r : WV × WHeap} (h : wv E f a H = some r) : ∃ n, wF E n f a H = some r := lub_some h
theorem wv_of {E : WEnv} {f : Nat} {a : List WV} {H : WHeap} {r : WV × WHeap} {n : Nat} (h : wF E n f a H = some r) : wv E f a H = some r :=
  lub_of (g := fun n => wF E n f a H) (fun n => wF_mono E n f a H) h
theorem witW_of {s : WRun} {fr : WFr} {H : WHeap} {r : Ex × WFr × WHeap} {n : Nat} (h : witF n s fr H = some r) : witW s fr H = some r :=
  lub_of (g := fun n => witF n s fr H) (fun n => witF_step n s s (fun _ _ => Le.refl _) fr H) h
theorem witW_some {s : WRun} {fr : WFr} {H : WHeap} {r : Ex × WFr × WHeap} (h : witW s fr H = some r) : ∃ n, witF n s fr H = some r := lub_some h

/-- The loop's equation. -/
theorem witW_eq (s : WRun) (fr : WFr) (H : WHeap) : witW s fr H = match s fr H with
    | some (.nrm, fr', H') => witW s fr' H'
    | r => r := by
  apply Option.ext
  intro r
  constructor
  · intro h
    obtain ⟨n, hn⟩ := witW_some h
    cases n with
    | zero => cases hn
    | succ n =>
      rw [witF] at hn
      cases hs : s fr H with
      | none => rw [hs] at hn; cases hn
      | some p =>
        rw [hs] at hn
        obtain ⟨e, fr', H'⟩ := p
        cases e with
        | nrm => exact witW_of hn
        | _ => exact hn
  · intro h
    cases hs : s fr H with
    | none => rw [hs] at h; cases h
    | some p =>
      rw [hs] at h
      obtain ⟨e, fr', H'⟩ := p
      cases e with
      | nrm =>
        obtain ⟨n, hn⟩ := witW_some h
        exact witW_of (n := n + 1) (by rw [witF, hs]; exact hn)
      | _ => exact witW_of (n := 1) (by rw [witF, hs]; exact h)

theorem WLeIt_W (n : Nat) : WLeIt (witF n) witW := fun s s' h fr H r hr => witW_of (witF_le n 0 s s' h fr H r hr)
theorem WLeCall_W (E : WEnv) (n : Nat) : WLeCall (wF E n) (wv E) := fun _ _ _ _ h => wv_of h

/-! ### what comes of the whole comes with enough rounds -/
theorem wcallTo_lim {E : WEnv} {f : Nat} {args : List WV} {dst : Option Nat} {fr : WFr} {H : WHeap} {r : WFr × WHeap} (hr : wcallTo E (wv E) f args dst fr H = some r) : ∃ n, wcallTo E (wF E n) f args dst fr H = some r := by
  unfold wcallTo at hr
  cases hm : E.md f with
  | S =>
    rw [hm] at hr
    dsimp only at hr
    split at hr
    · rename_i hc0
      cases ha : hitAll (takenS (E.tk f) 0 args) false fr H with
      | mk fr1 H1 =>
        rw [ha] at hr
        dsimp only at hr
        cases hc : wv E f (passW (E.tk f) 0 args) H1 with
        | none => rw [hc] at hr; cases hr
        | some q =>
          obtain ⟨n, hn⟩ := wv_some hc
          refine ⟨n, ?_⟩
          unfold wcallTo
          rw [hm]
          dsimp only
          rw [if_pos hc0, ha]
          dsimp only
          rw [hn]
          rw [hc] at hr
          exact hr
    · cases hr
  | P =>
    rw [hm] at hr
    dsimp only at hr
    cases ha : thawWs H args with
    | none => rw [ha] at hr; cases hr
    | some as =>
      rw [ha] at hr
      dsimp only at hr
      cases hc : wv E f as [] with
      | none => rw [hc] at hr; cases hr
      | some q =>
        obtain ⟨n, hn⟩ := wv_some hc
        refine ⟨n, ?_⟩
        unfold wcallTo
        rw [hm]
        dsimp only
        rw [ha]
        dsimp only
        rw [hn]
        rw [hc] at hr
        exact hr

theorem wOp_lim {E : WEnv} {o : IOp} {dst : Option Nat} {fr : WFr} {H : WHeap} {r : WFr × WHeap} (h : wOp E (wv E) o dst fr H = some r) : ∃ n, wOp E (wF E n) o dst fr H = some r := by
  unfold wOp at h
  split at h
  · obtain ⟨n, hn⟩ := wcallTo_lim h
    exact ⟨n, by unfold wOp; exact hn⟩
  · rename_i x args
    cases ht : wtarget (fr.rd x) (args.map fr.rd) with
    | none => rw [ht] at h; cases h
    | some p =>
      rw [ht] at h
      obtain ⟨n, hn⟩ := wcallTo_lim h
      exact ⟨n, by unfold wOp; dsimp only; rw [ht]; exact hn⟩
  · rename_i h1 h2
    refine ⟨0, ?_⟩
    unfold wOp
    split
    · exact absurd rfl (h1 _ _)
    · exact absurd rfl (h2 _ _)
    · exact h

theorem wStp_lim {E : WEnv} {o : IOper} {fr : WFr} {H : WHeap} {r : WFr × WHeap} (h : wStp E (wv E) o fr H = some r) : ∃ n, wStp E (wF E n) o fr H = some r := by
  unfold wStp at h
  cases hg : o.guard with
  | none =>
    rw [hg] at h
    obtain ⟨n, hn⟩ := wOp_lim h
    exact ⟨n, by unfold wStp; rw [hg]; exact hn⟩
  | some g =>
    rw [hg] at h
    obtain ⟨s, want⟩ := g
    dsimp only at h
    cases he : fr.env s with
    | c v =>
      cases v with
      | bool b =>
        rw [he] at h
        dsimp only at h
        by_cases hb : b = want
        · rw [if_pos hb] at h
          obtain ⟨n, hn⟩ := wOp_lim h
          exact ⟨n, by unfold wStp; rw [hg]; dsimp only; rw [he]; dsimp only; rw [if_pos hb]; exact hn⟩
        · rw [if_neg hb] at h
          exact ⟨0, by unfold wStp; rw [hg]; dsimp only; rw [he]; dsimp only; rw [if_neg hb]; exact h⟩
      | _ => rw [he] at h; cases h
    | skipv => rw [he] at h; exact ⟨0, by unfold wStp; rw [hg]; dsimp only; rw [he]; exact h⟩
    | _ => rw [he] at h; cases h

theorem wOps_lim {E : WEnv} (ops : List IOper) : ∀ {fr : WFr} {H : WHeap} {r : WFr × WHeap}, wOps E (wv E) ops fr H = some r → ∃ n, wOps E (wF E n) ops fr H = some r := by
  induction ops with
  | nil => intro fr H r h; exact ⟨0, h⟩
  | cons o ops ih =>
    intro fr H r h
    unfold wOps at h
    cases hs : wStp E (wv E) o fr H with
    | none => rw [hs] at h; cases h
    | some p =>
      rw [hs] at h
      obtain ⟨n, hn⟩ := wStp_lim hs
      obtain ⟨m, hm⟩ := ih h
      refine ⟨n + m, ?_⟩
      unfold wOps
      rw [wStp_mono (wF_le E n m) _ _ _ _ hn]
      rw [Nat.add_comm]
      exact wOps_mono (wF_le E m n) _ _ _ _ hm

theorem wD_lim {E : WEnv} {cl : Cls} {o : IOp} {dst : Option Nat} {fr : WFr} {H : WHeap} {r : WFr × WHeap} (h : wD E (wv E) cl o dst fr H = some r) : ∃ n, wD E (wF E n) cl o dst fr H = some r := by
  unfold wD at h
  split at h
  · exact ⟨0, by unfold wD; exact h⟩
  · exact ⟨0, by unfold wD; exact h⟩
  · exact ⟨0, by unfold wD; exact h⟩
  · split at h
    · exact ⟨0, by unfold wD; exact h⟩
    · exact ⟨0, by unfold wD; exact h⟩
    · exact ⟨0, by unfold wD; exact h⟩
    · rename_i f args
      cases hm : E.md f with
      | S => rw [hm] at h; cases h
      | P =>
        rw [hm] at h
        dsimp only at h
        cases ha : thawWs H (args.map fr.rd) with
        | none => rw [ha] at h; cases h
        | some as =>
          rw [ha] at h
          dsimp only at h
          cases hc : wv E f as [] with
          | none => rw [hc] at h; cases h
          | some p =>
            obtain ⟨n, hn⟩ := wv_some hc
            refine ⟨n, ?_⟩
            unfold wD
            dsimp only
            rw [hm]
            dsimp only
            rw [ha]
            dsimp only
            rw [hn]
            rw [hc] at h
            exact h
    · cases h
  · split at h
    · exact ⟨0, by unfold wD; exact h⟩
    · exact ⟨0, by unfold wD; exact h⟩
    · exact ⟨0, by unfold wD; exact h⟩
    · obtain ⟨n, hn⟩ := wOp_lim h
      exact ⟨n, by unfold wD; exact hn⟩
    · obtain ⟨n, hn⟩ := wOp_lim h
      exact ⟨n, by unfold wD; exact hn⟩
    · cases h
  · exact ⟨0, by unfold wD; exact h⟩
theorem wStpG_lim {E : WEnv} {cl : Cls} {o : IOper} {fr : WFr} {H : WHeap} {r : WFr × WHeap} (h : wStpG E (wv E) cl o fr H = some r) : ∃ n, wStpG E (wF E n) cl o fr H = some r := by
  unfold wStpG at h
  cases hg : o.guard with
  | none =>
    rw [hg] at h
    obtain ⟨n, hn⟩ := wD_lim h
    exact ⟨n, by unfold wStpG; rw [hg]; exact hn⟩
  | some g =>
    rw [hg] at h
    obtain ⟨s, want⟩ := g
    dsimp only at h
    cases he : fr.env s with
    | c v =>
      cases v with
      | bool b =>
        rw [he] at h
        dsimp only at h
        by_cases hb : b = want
        · rw [if_pos hb] at h
          obtain ⟨n, hn⟩ := wD_lim h
          exact ⟨n, by unfold wStpG; rw [hg]; dsimp only; rw [he]; dsimp only; rw [if_pos hb]; exact hn⟩
        · rw [if_neg hb] at h
          exact ⟨0, by unfold wStpG; rw [hg]; dsimp only; rw [he]; dsimp only; rw [if_neg hb]; exact h⟩
      | _ => rw [he] at h; cases h
    | skipv => rw [he] at h; exact ⟨0, by unfold wStpG; rw [hg]; dsimp only; rw [he]; exact h⟩
    | _ => rw [he] at h; cases h
theorem wStpD_lim {E : WEnv} {cl : Cls} {o : IOper} {fr : WFr} {H : WHeap} {r : WFr × WHeap} (h : wStpD E (wv E) cl o fr H = some r) : ∃ n, wStpD E (wF E n) cl o fr H = some r := by
  unfold wStpD at h
  split at h
  · rename_i hd
    cases hs : wStpG E (wv E) cl o fr H with
    | none => rw [hs] at h; cases h
    | some p =>
      obtain ⟨n, hn⟩ := wStpG_lim hs
      exact ⟨n, by unfold wStpD; rw [if_pos hd, hn]; rw [hs] at h; exact h⟩
  · cases h
theorem wOpsD_lim {E : WEnv} (ops : List (Cls × IOper)) : ∀ {fr : WFr} {H : WHeap} {r : WFr × WHeap}, wOpsD E (wv E) ops fr H = some r → ∃ n, wOpsD E (wF E n) ops fr H = some r := by
  induction ops with
  | nil => intro fr H r h; exact ⟨0, h⟩
  | cons o ops ih =>
    intro fr H r h
    obtain ⟨cl, o⟩ := o
    unfold wOpsD at h
    cases hs : wStpD E (wv E) cl o fr H with
    | none => rw [hs] at h; cases h
    | some p =>
      rw [hs] at h
      obtain ⟨n, hn⟩ := wStpD_lim hs
      obtain ⟨m, hm⟩ := ih h
      refine ⟨n + m, ?_⟩
      unfold wOpsD
      rw [wStpD_mono (wF_le E n m) _ _ _ _ _ hn]
      rw [Nat.add_comm]
      exact wOpsD_mono (wF_le E m n) _ _ _ _ hm

theorem wrunAt_le (E : WEnv) (n k : Nat) (c : ICode) : WLeRun (wC E (wF E n) (witF n) c) (wC E (wF E (n + k)) (witF (n + k)) c) := wC_mono (wF_le E n k) (witF_le n k) c

/-- A loop over steps that come with enough rounds. -/
theorem wit_lim {s : WRun} {sn : Nat → WRun} (hm : ∀ n k, WLeRun (sn n) (sn (n + k))) (hl : ∀ fr H r, s fr H = some r → ∃ n, sn n fr H = some r) {fr : WFr} {H : WHeap} {r : Ex × WFr × WHeap} (h : witW s fr H = some r) : ∃ n, witF n (sn n) fr H = some r := by
  obtain ⟨m, hm'⟩ := witW_some h
  have key : ∀ m fr H, witF m s fr H = some r → ∃ n, witF m (sn n) fr H = some r := by
    intro m
    induction m with
    | zero => intro fr H h; cases h
    | succ m ih =>
      intro fr H h
      rw [witF] at h
      cases hs : s fr H with
      | none => rw [hs] at h; cases h
      | some p =>
        rw [hs] at h
        obtain ⟨n, hn⟩ := hl _ _ _ hs
        obtain ⟨e, fr', H'⟩ := p
        cases e with
        | nrm =>
          obtain ⟨k, hk⟩ := ih _ _ h
          refine ⟨n + k, ?_⟩
          rw [witF, hm n k _ _ _ hn]
          have := witF_le m 0 _ _ (hm k n) fr' H' r hk
          rw [Nat.add_comm n k]
          exact this
        | _ => exact ⟨n, by rw [witF, hn]; exact h⟩
  obtain ⟨n, hn⟩ := key m fr H hm'
  refine ⟨m + n, ?_⟩
  have := witF_le m n _ _ (hm n m) fr H r hn
  rw [Nat.add_comm n m] at this
  exact this

theorem wC_lim {E : WEnv} (code : ICode) : ∀ {fr : WFr} {H : WHeap} {r : Ex × WFr × WHeap}, wC E (wv E) witW code fr H = some r → ∃ n, wC E (wF E n) (witF n) code fr H = some r := by
  induction code with
  | skip => intro fr H r h; exact ⟨0, h⟩
  | region ops =>
    intro fr H r h
    unfold wC at h
    cases hs : wOps E (wv E) ops { fr with al := noAl } H with
    | none => rw [hs] at h; cases h
    | some p =>
      rw [hs] at h
      obtain ⟨n, hn⟩ := wOps_lim ops hs
      exact ⟨n, by unfold wC; rw [hn]; exact h⟩
  | regionD ops =>
    intro fr H r h
    unfold wC at h
    cases hs : wOpsD E (wv E) ops { fr with al := noAl } H with
    | none => rw [hs] at h; cases h
    | some p =>
      rw [hs] at h
      obtain ⟨n, hn⟩ := wOpsD_lim ops hs
      exact ⟨n, by unfold wC; rw [hn]; exact h⟩
  | seq a b iha ihb =>
    intro fr H r h
    unfold wC at h
    cases hs : wC E (wv E) witW a fr H with
    | none => rw [hs] at h; cases h
    | some p =>
      rw [hs] at h
      obtain ⟨n, hn⟩ := iha hs
      obtain ⟨e, fr', H'⟩ := p
      cases e with
      | nrm =>
        obtain ⟨m, hm⟩ := ihb h
        refine ⟨n + m, ?_⟩
        unfold wC
        rw [wrunAt_le E n m _ _ _ _ hn, Nat.add_comm]
        exact wrunAt_le E m n _ _ _ _ hm
      | _ => exact ⟨n, by unfold wC; rw [hn]; exact h⟩
  | cond x a b iha ihb =>
    intro fr H r h
    unfold wC at h
    split at h
    · rename_i t ht
      split at h
      · rename_i hb
        obtain ⟨n, hn⟩ := iha h
        exact ⟨n, by unfold wC; rw [ht]; dsimp only; rw [if_pos hb]; exact hn⟩
      · rename_i hb
        obtain ⟨n, hn⟩ := ihb h
        exact ⟨n, by unfold wC; rw [ht]; dsimp only; rw [if_neg hb]; exact hn⟩
    · cases h
  | block id b ih =>
    intro fr H r h
    unfold wC at h
    cases hs : wC E (wv E) witW b fr H with
    | none => rw [hs] at h; cases h
    | some p =>
      rw [hs] at h
      obtain ⟨n, hn⟩ := ih hs
      exact ⟨n, by unfold wC; rw [hn]; exact h⟩
  | loop live b ih =>
    intro fr H r h
    unfold wC at h
    obtain ⟨n, hn⟩ := wit_lim (sn := fun n fr H => wC E (wF E n) (witF n) b (wkeep live fr) H) (fun n k fr H => wrunAt_le E n k b _ _) (fun fr H r h => ih h) h
    exact ⟨n, by unfold wC; exact hn⟩
  | exit id => intro fr H r h; exact ⟨0, h⟩
  | scope l live b rest ihb ihr =>
    intro fr H r h
    unfold wC at h
    cases hs : wC E (wv E) witW b fr H with
    | none => rw [hs] at h; cases h
    | some p =>
      rw [hs] at h
      obtain ⟨n, hn⟩ := ihb hs
      obtain ⟨e, fr', H'⟩ := p
      cases e with
      | goto l' =>
        dsimp only at h
        by_cases hl : l' = l
        · rw [if_pos hl] at h
          generalize hz : witW (fun fr H => wturnEx l (wC E (wv E) witW rest (wkeep live fr) H)) fr' H' = z at h
          cases z with
          | none => cases h
          | some q =>
            obtain ⟨m, hm⟩ := wit_lim (sn := fun n fr H => wturnEx l (wC E (wF E n) (witF n) rest (wkeep live fr) H)) (fun n k fr H => wturnEx_mono l (wrunAt_le E n k _ _ _)) (by
                  intro fr H r hr
                  cases hq : wC E (wv E) witW rest (wkeep live fr) H with
                  | none => rw [hq] at hr; cases hr
                  | some q => rw [hq] at hr; obtain ⟨n, hn⟩ := ihr hq; exact ⟨n, by rw [hn]; exact hr⟩) hz
            refine ⟨n + m, ?_⟩
            have hr' := wrunAt_le E n m _ _ _ _ hn
            have hi' := witF_le m n _ (fun fr H => wturnEx l (wC E (wF E (n + m)) (witF (n + m)) rest (wkeep live fr) H)) (by
                  intro fr H
                  rw [Nat.add_comm n m]
                  exact wturnEx_mono l (wrunAt_le E m n _ _ _)) _ _ _ hm
            rw [Nat.add_comm m n] at hi'
            unfold wC
            rw [hr']
            dsimp only
            rw [if_pos hl, hi']
            exact h
        · rw [if_neg hl] at h
          exact ⟨n, by unfold wC; rw [hn]; dsimp only; rw [if_neg hl]; exact h⟩
      | _ => exact ⟨n, by unfold wC; rw [hn]; exact h⟩
  | label l => intro fr H r h; exact ⟨0, h⟩
  | goto l => intro fr H r h; exact ⟨0, h⟩
  | ret => intro fr H r h; exact ⟨0, h⟩

/-- The call's equation. -/
theorem wv_eq (E : WEnv) (f : Nat) (a : List WV) (H : WHeap) : wv E f a H = wFn E (wv E) witW f a H := by
  apply Option.ext
  intro r
  constructor
  · intro h
    obtain ⟨n, hn⟩ := wv_some h
    cases n with
    | zero => cases hn
    | succ n => exact wFn_mono (WLeCall_W E n) (WLeIt_W n) f a H r hn
  · intro h
    unfold wFn at h
    cases hf : E.fn f with
    | none => rw [hf] at h; cases h
    | some g =>
      rw [hf] at h
      dsimp only at h
      cases hs : wC E (wv E) witW g.body { env := wassoc (wbinds 0 a), al := noAl } H with
      | none => rw [hs] at h; cases h
      | some p =>
        obtain ⟨n, hn⟩ := wC_lim g.body hs
        refine wv_of (n := n + 1) ?_
        unfold wF wFn
        rw [hf]
        dsimp only
        rw [hn]
        rw [hs] at h
        exact h

end Go.Proofs.Lz
