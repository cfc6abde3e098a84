/- The evaluator without a number of rounds: its equations. -/
import Derived.Test.YtmjofajbfondhaaLzEv
namespace Go.Proofs.Lz

def Le {α : Type} (a b : Option α) : Prop := ∀ r, a = some r → b = some r
theorem Le.refl {α : Type} (a : Option α) : Le a a := fun _ h => h
theorem Le.trans {α : Type} {a b c : Option α} (h : Le a b) (k : Le b c) : Le a c := fun r hr => k r (h r hr)

open Classical in
noncomputable def lub {α : Type} (g : Nat → Option α) : Option α :=
  if h : ∃ n r, g n = some r then g (Classical.choose h) else none

theorem lub_some {α : Type} {g : Nat → Option α} {r : α} (h : lub g = some r) : ∃ n, g n = some r := by
  unfold lub at h
  split at h
  · exact ⟨_, h⟩
  · cases h
theorem lub_of {α : Type} {g : Nat → Option α} (hm : ∀ n, Le (g n) (g (n + 1))) {n : Nat} {r : α} (h : g n = some r) : lub g = some r := by
  have hle : ∀ k m, Le (g m) (g (m + k)) := by
    intro k
    induction k with
    | zero => intro m; exact Le.refl _
    | succ k ih => intro m; exact (ih m).trans (hm (m + k))
  have hex : ∃ n r, g n = some r := ⟨n, r, h⟩
  unfold lub
  rw [dif_pos hex]
  obtain ⟨r', hr'⟩ := Classical.choose_spec hex
  generalize Classical.choose hex = m at hr' ⊢
  have h1 : g (m + n) = some r' := hle n m _ hr'
  have h2 : g (n + m) = some r := hle m n _ h
  rw [Nat.add_comm] at h2
  rw [hr', ← h1, h2]

/-! ### more gives more -/
def LeCall (c c' : CallF) : Prop := ∀ f a H, Le (c f a H) (c' f a H)
def LeRun (s s' : Run) : Prop := ∀ fr H, Le (s fr H) (s' fr H)

theorem callWith_mono {E : Env} {c c' : CallF} (h : LeCall c c') : LeCall (callWith E c) (callWith E c') := by
  intro f a H r hr
  unfold callWith at hr ⊢
  cases hm : E.md f with
  | S => rw [hm] at hr; exact h _ _ _ _ hr
  | P =>
    rw [hm] at hr
    dsimp only at hr ⊢
    cases ha : thawArgs H a with
    | none => rw [ha] at hr; cases hr
    | some as =>
      rw [ha] at hr
      dsimp only at hr ⊢
      cases hc : c f as [] with
      | none => rw [hc] at hr; cases hr
      | some p => rw [hc] at hr; rw [h _ _ _ _ hc]; exact hr

theorem doOp_mono {E : Env} {c c' : CallF} (h : LeCall c c') (o : IOp) (dst : Option Nat) (fr : Fr) (H : Heap) : Le (doOp E c o dst fr H) (doOp E c' o dst fr H) := by
  intro r hr
  unfold doOp at hr ⊢
  split at hr
  · rename_i f args
    unfold putCall at hr ⊢
    cases hc : callWith E c f (args.map fr.opd) H with
    | none => rw [hc] at hr; cases hr
    | some p => rw [hc] at hr; rw [callWith_mono h _ _ _ _ hc]; exact hr
  · rename_i x args
    cases ht : targetOf (fr.opd x) (args.map fr.opd) with
    | none => rw [ht] at hr; cases hr
    | some p =>
      rw [ht] at hr
      unfold putCall at hr ⊢
      dsimp only at hr ⊢
      cases hc : callWith E c p.1 p.2 H with
      | none => rw [hc] at hr; cases hr
      | some q => rw [hc] at hr; rw [callWith_mono h _ _ _ _ hc]; exact hr
  · exact hr

theorem stp_mono {E : Env} {c c' : CallF} (h : LeCall c c') (o : IOper) (fr : Fr) (H : Heap) : Le (stp E c o fr H) (stp E c' o fr H) := by
  intro r hr
  unfold stp at hr ⊢
  cases hg : o.guard with
  | none => rw [hg] at hr; exact doOp_mono h _ _ _ _ _ hr
  | some g =>
    rw [hg] at hr
    obtain ⟨s, want⟩ := g
    dsimp only at hr ⊢
    split at hr
    · split at hr
      · rename_i hb; rw [if_pos hb]; exact doOp_mono h _ _ _ _ _ hr
      · rename_i hb; rw [if_neg hb]; exact hr
    · exact hr
    · cases hr

theorem evOps_mono {E : Env} {c c' : CallF} (h : LeCall c c') (ops : List IOper) : ∀ (fr : Fr) (H : Heap), Le (evOps E c ops fr H) (evOps E c' ops fr H) := by
  induction ops with
  | nil => intro fr H; exact Le.refl _
  | cons o ops ih =>
    intro fr H r hr
    unfold evOps at hr ⊢
    cases hs : stp E c o fr H with
    | none => rw [hs] at hr; cases hr
    | some p => rw [hs] at hr; rw [stp_mono h _ _ _ _ hs]; exact ih _ _ _ hr

theorem doD_mono {E : Env} {c c' : CallF} (h : LeCall c c') (cl : Cls) (o : IOp) (dst : Option Nat) (fr : Fr) (H : Heap) : Le (doD E c cl o dst fr H) (doD E c' cl o dst fr H) := by
  intro r hr
  unfold doD at hr ⊢
  split at hr
  · exact hr
  · exact hr
  · exact hr
  · split at hr
    · exact hr
    · exact hr
    · exact hr
    · rename_i f args
      split at hr
      · rename_i hm
        rw [if_pos hm]
        cases hc : callWith E c f (args.map fr.opd) H with
        | none => rw [hc] at hr; cases hr
        | some p => rw [hc] at hr; rw [callWith_mono h _ _ _ _ hc]; exact hr
      · cases hr
    · exact hr
  · split at hr
    · exact hr
    · exact hr
    · exact hr
    · exact doOp_mono h _ _ _ _ _ hr
    · exact doOp_mono h _ _ _ _ _ hr
    · exact hr
  · exact hr
theorem stpG_mono {E : Env} {c c' : CallF} (h : LeCall c c') (cl : Cls) (o : IOper) (fr : Fr) (H : Heap) : Le (stpG E c cl o fr H) (stpG E c' cl o fr H) := by
  intro r hr
  unfold stpG at hr ⊢
  cases hg : o.guard with
  | none => rw [hg] at hr; exact doD_mono h _ _ _ _ _ _ hr
  | some g =>
    rw [hg] at hr
    obtain ⟨s, want⟩ := g
    dsimp only at hr ⊢
    split at hr
    · split at hr
      · rename_i hb; rw [if_pos hb]; exact doD_mono h _ _ _ _ _ _ hr
      · rename_i hb; rw [if_neg hb]; exact hr
    · exact hr
    · cases hr
theorem stpD_mono {E : Env} {c c' : CallF} (h : LeCall c c') (cl : Cls) (o : IOper) (fr : Fr) (H : Heap) : Le (stpD E c cl o fr H) (stpD E c' cl o fr H) := by
  intro r hr
  unfold stpD at hr ⊢
  split at hr
  · rename_i hd
    rw [if_pos hd]
    cases hs : stpG E c cl o fr H with
    | none => rw [hs] at hr; cases hr
    | some p => rw [hs] at hr; rw [stpG_mono h _ _ _ _ _ hs]; exact hr
  · cases hr
theorem evOpsD_mono {E : Env} {c c' : CallF} (h : LeCall c c') (ops : List (Cls × IOper)) : ∀ (fr : Fr) (H : Heap), Le (evOpsD E c ops fr H) (evOpsD E c' ops fr H) := by
  induction ops with
  | nil => intro fr H; exact Le.refl _
  | cons o ops ih =>
    intro fr H r hr
    obtain ⟨cl, o⟩ := o
    unfold evOpsD at hr ⊢
    cases hs : stpD E c cl o fr H with
    | none => rw [hs] at hr; cases hr
    | some p => rw [hs] at hr; rw [stpD_mono h _ _ _ _ _ hs]; exact ih _ _ _ hr

theorem turnEx_mono (l : Nat) {a b : Option (Ex × Fr × Heap)} (h : Le a b) : Le (turnEx l a) (turnEx l b) := by
  intro r hr
  cases a with
  | none => cases hr
  | some q => rw [h _ rfl]; exact hr
theorem backEx_mono (l : Nat) {a b : Option (Ex × Fr × Heap)} (h : Le a b) : Le (backEx l a) (backEx l b) := by
  intro r hr
  cases a with
  | none => cases hr
  | some q => rw [h _ rfl]; exact hr

def LeIt (i i' : Run → Run) : Prop := ∀ s s', LeRun s s' → LeRun (i s) (i' s')

theorem evC_mono {E : Env} {c c' : CallF} {i i' : Run → Run} (h : LeCall c c') (hi : LeIt i i') (code : ICode) : LeRun (evC E c i code) (evC E c' i' code) := by
  induction code with
  | skip => intro fr H; exact Le.refl _
  | region ops =>
    intro fr H r hr
    unfold evC at hr ⊢
    cases hs : evOps E c ops { fr with al := noAl } H with
    | none => rw [hs] at hr; cases hr
    | some p => rw [hs] at hr; rw [evOps_mono h _ _ _ _ hs]; exact hr
  | regionD ops =>
    intro fr H r hr
    unfold evC at hr ⊢
    cases hs : evOpsD E c ops { fr with al := noAl } H with
    | none => rw [hs] at hr; cases hr
    | some p => rw [hs] at hr; rw [evOpsD_mono h _ _ _ _ hs]; exact hr
  | seq a b iha ihb =>
    intro fr H r hr
    unfold evC at hr ⊢
    cases hs : evC E c i a fr H with
    | none => rw [hs] at hr; cases hr
    | some p =>
      rw [hs] at hr; rw [iha _ _ _ hs]
      obtain ⟨e, fr', H'⟩ := p
      cases e with
      | nrm => exact ihb _ _ _ hr
      | _ => exact hr
  | cond x a b iha ihb =>
    intro fr H r hr
    unfold evC at hr ⊢
    split at hr
    · split at hr
      · rename_i hb; rw [if_pos hb]; exact iha _ _ _ hr
      · rename_i hb; rw [if_neg hb]; exact ihb _ _ _ hr
    · cases hr
  | block id b ih =>
    intro fr H r hr
    unfold evC at hr ⊢
    cases hs : evC E c i b fr H with
    | none => rw [hs] at hr; cases hr
    | some p => rw [hs] at hr; rw [ih _ _ _ hs]; exact hr
  | loop live b ih =>
    intro fr H r hr
    unfold evC at hr ⊢
    exact hi _ _ (fun fr H => ih _ _) _ _ _ hr
  | exit id => intro fr H; exact Le.refl _
  | scope l live b rest ihb ihr =>
    intro fr H r hr
    unfold evC at hr ⊢
    cases hs : evC E c i b fr H with
    | none => rw [hs] at hr; cases hr
    | some p =>
      rw [hs] at hr; rw [ihb _ _ _ hs]
      obtain ⟨e, fr', H'⟩ := p
      cases e with
      | goto l' =>
        dsimp only at hr ⊢
        split at hr
        · rename_i hl
          rw [if_pos hl]
          have key : LeRun (i fun fr H => turnEx l (evC E c i rest (keep live fr) H)) (i' fun fr H => turnEx l (evC E c' i' rest (keep live fr) H)) :=
            hi _ _ fun fr H => turnEx_mono l (ihr _ _)
          exact backEx_mono l (key _ _) _ hr
        · rename_i hl; rw [if_neg hl]; exact hr
      | _ => exact hr
  | label l => intro fr H; exact Le.refl _
  | goto l => intro fr H; exact Le.refl _
  | ret => intro fr H; exact Le.refl _

theorem itF_step (n : Nat) : ∀ s s' : Run, LeRun s s' → LeRun (itF n s) (itF (n + 1) s') := by
  induction n with
  | zero => intro s s' _ fr H r hr; cases hr
  | succ n ih =>
    intro s s' h fr H r hr
    rw [itF] at hr ⊢
    cases hs : s fr H with
    | none => rw [hs] at hr; cases hr
    | some p =>
      rw [hs] at hr; rw [h _ _ _ hs]
      obtain ⟨e, fr', H'⟩ := p
      cases e with
      | nrm => exact ih _ _ h _ _ _ hr
      | _ => exact hr
theorem itF_le (n k : Nat) : LeIt (itF n) (itF (n + k)) := by
  induction k with
  | zero =>
    intro s s' h
    induction n with
    | zero => intro fr H r hr; cases hr
    | succ n ih =>
      intro fr H r hr
      simp only [Nat.add_zero] at ih ⊢
      rw [itF] at hr ⊢
      cases hs : s fr H with
      | none => rw [hs] at hr; cases hr
      | some p =>
        rw [hs] at hr; rw [h _ _ _ hs]
        obtain ⟨e, fr', H'⟩ := p
        cases e with
        | nrm => exact ih _ _ _ hr
        | _ => exact hr
  | succ k ih =>
    intro s s' h fr H
    exact (ih s s' h fr H).trans (itF_step (n + k) s' s' (fun _ _ => Le.refl _) fr H)

theorem runFn_mono {E : Env} {c c' : CallF} {i i' : Run → Run} (h : LeCall c c') (hi : LeIt i i') : LeCall (runFn E c i) (runFn E c' i') := by
  intro f a H r hr
  unfold runFn at hr ⊢
  cases hf : E.fn f with
  | none => rw [hf] at hr; cases hr
  | some g =>
    rw [hf] at hr
    dsimp only at hr ⊢
    cases hs : evC E c i g.body { env := assoc (binds 0 a), al := noAl } H with
    | none => rw [hs] at hr; cases hr
    | some p => rw [hs] at hr; rw [evC_mono h hi _ _ _ _ hs]; exact hr

theorem evF_mono (E : Env) (n : Nat) : LeCall (evF E n) (evF E (n + 1)) := by
  induction n with
  | zero => intro f a H r hr; cases hr
  | succ n ih => exact runFn_mono ih (itF_le n 1)
theorem evF_le (E : Env) (n k : Nat) : LeCall (evF E n) (evF E (n + k)) := by
  induction k with
  | zero => intro f a H; exact Le.refl _
  | succ k ih => intro f a H; exact (ih f a H).trans (evF_mono E (n + k) f a H)

noncomputable def ev (E : Env) : CallF := fun f a H => lub fun n => evF E n f a H
noncomputable def itW : Run → Run := fun s fr H => lub fun n => itF n s fr H

theorem ev_some {E : Env} {f : Nat} {a : List HV} {H : Heap} {r : HV × Heap} (h : ev E f a H = some r) : ∃ n, evF E n f a H = some r := lub_some h
theorem ev_of {E : Env} {f : Nat} {a : List HV} {H : Heap} {r : HV × Heap} {n : Nat} (h : evF E n f a H = some r) : ev E f a H = some r :=
  lub_of (g := fun n => evF E n f a H) (fun n => evF_mono E n f a H) h
theorem itW_of {s : Run} {fr : Fr} {H : Heap} {r : Ex × Fr × Heap} {n : Nat} (h : itF n s fr H = some r) : itW s fr H = some r :=
  lub_of (g := fun n => itF n s fr H) (fun n => itF_step n s s (fun _ _ => Le.refl _) fr H) h
theorem itW_some {s : Run} {fr : Fr} {H : Heap} {r : Ex × Fr × Heap} (h : itW s fr H = some r) : ∃ n, itF n s fr H = some r := lub_some h

/-- The loop's equation. -/
theorem itW_eq (s : Run) (fr : Fr) (H : Heap) : itW s fr H = match s fr H with
    | some (.nrm, fr', H') => itW s fr' H'
    | r => r := by
  apply Option.ext
  intro r
  constructor
  · intro h
    obtain ⟨n, hn⟩ := itW_some h
    cases n with
    | zero => cases hn
    | succ n =>
      rw [itF] at hn
      cases hs : s fr H with
      | none => rw [hs] at hn; cases hn
      | some p =>
        rw [hs] at hn
        obtain ⟨e, fr', H'⟩ := p
        cases e with
        | nrm => exact itW_of hn
        | _ => exact hn
  · intro h
    cases hs : s fr H with
    | none => rw [hs] at h; cases h
    | some p =>
      rw [hs] at h
      obtain ⟨e, fr', H'⟩ := p
      cases e with
      | nrm =>
        obtain ⟨n, hn⟩ := itW_some h
        exact itW_of (n := n + 1) (by rw [itF, hs]; exact hn)
      | _ => exact itW_of (n := 1) (by rw [itF, hs]; exact h)

theorem LeIt_W (n : Nat) : LeIt (itF n) itW := fun s s' h fr H r hr => itW_of (itF_le n 0 s s' h fr H r hr)
theorem LeCall_W (E : Env) (n : Nat) : LeCall (evF E n) (ev E) := fun _ _ _ _ h => ev_of h

/-! ### what comes of the whole comes with enough rounds -/
theorem callWith_lim {E : Env} {f : Nat} {a : List HV} {H : Heap} {r : HV × Heap} (h : callWith E (ev E) f a H = some r) : ∃ n, callWith E (evF E n) f a H = some r := by
  unfold callWith at h
  cases hm : E.md f with
  | S =>
    rw [hm] at h
    obtain ⟨n, hn⟩ := ev_some h
    exact ⟨n, by unfold callWith; rw [hm]; exact hn⟩
  | P =>
    rw [hm] at h
    dsimp only at h
    cases ha : thawArgs H a with
    | none => rw [ha] at h; cases h
    | some as =>
      rw [ha] at h
      dsimp only at h
      cases hc : ev E f as [] with
      | none => rw [hc] at h; cases h
      | some p =>
        obtain ⟨n, hn⟩ := ev_some hc
        refine ⟨n, ?_⟩
        unfold callWith
        rw [hm]
        dsimp only
        rw [ha]
        dsimp only
        rw [hn]
        rw [hc] at h
        exact h

theorem doOp_lim {E : Env} {o : IOp} {dst : Option Nat} {fr : Fr} {H : Heap} {r : Fr × Heap} (h : doOp E (ev E) o dst fr H = some r) : ∃ n, doOp E (evF E n) o dst fr H = some r := by
  unfold doOp at h
  split at h
  · rename_i f args
    cases hc : callWith E (ev E) f (args.map fr.opd) H with
    | none => rw [hc] at h; cases h
    | some p =>
      obtain ⟨n, hn⟩ := callWith_lim hc
      exact ⟨n, by rw [hc] at h; unfold doOp; dsimp only; rw [hn]; exact h⟩
  · rename_i x args
    cases ht : targetOf (fr.opd x) (args.map fr.opd) with
    | none => rw [ht] at h; cases h
    | some q =>
      rw [ht] at h
      dsimp only at h
      cases hc : callWith E (ev E) q.1 q.2 H with
      | none => rw [hc] at h; cases h
      | some p =>
        obtain ⟨n, hn⟩ := callWith_lim hc
        exact ⟨n, by rw [hc] at h; unfold doOp; dsimp only; rw [ht]; dsimp only; rw [hn]; exact h⟩
  · rename_i hx1 hx2
    refine ⟨0, ?_⟩
    unfold doOp
    split
    · rename_i f args; exact absurd rfl (hx1 f args)
    · rename_i x args; exact absurd rfl (hx2 x args)
    · exact h

theorem stp_lim {E : Env} {o : IOper} {fr : Fr} {H : Heap} {r : Fr × Heap} (h : stp E (ev E) o fr H = some r) : ∃ n, stp E (evF E n) o fr H = some r := by
  unfold stp at h
  cases hg : o.guard with
  | none =>
    rw [hg] at h
    obtain ⟨n, hn⟩ := doOp_lim h
    exact ⟨n, by unfold stp; rw [hg]; exact hn⟩
  | some g =>
    rw [hg] at h
    obtain ⟨s, want⟩ := g
    dsimp only at h
    cases he : fr.env s with
    | c v =>
      cases v with
      | bool b =>
        rw [he] at h
        dsimp only at h
        by_cases hb : b = want
        · rw [if_pos hb] at h
          obtain ⟨n, hn⟩ := doOp_lim h
          exact ⟨n, by unfold stp; rw [hg]; dsimp only; rw [he]; dsimp only; rw [if_pos hb]; exact hn⟩
        · rw [if_neg hb] at h
          exact ⟨0, by unfold stp; rw [hg]; dsimp only; rw [he]; dsimp only; rw [if_neg hb]; exact h⟩
      | _ => rw [he] at h; cases h
    | skipv => rw [he] at h; exact ⟨0, by unfold stp; rw [hg]; dsimp only; rw [he]; exact h⟩
    | _ => rw [he] at h; cases h

theorem evOps_lim {E : Env} (ops : List IOper) : ∀ {fr : Fr} {H : Heap} {r : Fr × Heap}, evOps E (ev E) ops fr H = some r → ∃ n, evOps E (evF E n) ops fr H = some r := by
  induction ops with
  | nil => intro fr H r h; exact ⟨0, h⟩
  | cons o ops ih =>
    intro fr H r h
    unfold evOps at h
    cases hs : stp E (ev E) o fr H with
    | none => rw [hs] at h; cases h
    | some p =>
      rw [hs] at h
      obtain ⟨n, hn⟩ := stp_lim hs
      obtain ⟨m, hm⟩ := ih h
      refine ⟨n + m, ?_⟩
      unfold evOps
      rw [stp_mono (evF_le E n m) _ _ _ _ hn]
      rw [Nat.add_comm]
      exact evOps_mono (evF_le E m n) _ _ _ _ hm

theorem doD_lim {E : Env} {cl : Cls} {o : IOp} {dst : Option Nat} {fr : Fr} {H : Heap} {r : Fr × Heap} (h : doD E (ev E) cl o dst fr H = some r) : ∃ n, doD E (evF E n) cl o dst fr H = some r := by
  unfold doD at h
  split at h
  · exact ⟨0, h⟩
  · exact ⟨0, h⟩
  · exact ⟨0, h⟩
  · split at h
    · exact ⟨0, h⟩
    · exact ⟨0, h⟩
    · exact ⟨0, h⟩
    · rename_i f args
      split at h
      · rename_i hm
        cases hc : callWith E (ev E) f (args.map fr.opd) H with
        | none => rw [hc] at h; cases h
        | some p =>
          obtain ⟨n, hn⟩ := callWith_lim hc
          refine ⟨n, ?_⟩
          unfold doD
          dsimp only
          rw [if_pos hm, hn]
          rw [hc] at h
          exact h
      · cases h
    · cases h
  · split at h
    · exact ⟨0, h⟩
    · exact ⟨0, h⟩
    · exact ⟨0, h⟩
    · obtain ⟨n, hn⟩ := doOp_lim h
      exact ⟨n, hn⟩
    · obtain ⟨n, hn⟩ := doOp_lim h
      exact ⟨n, hn⟩
    · cases h
  · exact ⟨0, h⟩
theorem stpG_lim {E : Env} {cl : Cls} {o : IOper} {fr : Fr} {H : Heap} {r : Fr × Heap} (h : stpG E (ev E) cl o fr H = some r) : ∃ n, stpG E (evF E n) cl o fr H = some r := by
  unfold stpG at h
  cases hg : o.guard with
  | none =>
    rw [hg] at h
    obtain ⟨n, hn⟩ := doD_lim h
    exact ⟨n, by unfold stpG; rw [hg]; exact hn⟩
  | some g =>
    rw [hg] at h
    obtain ⟨s, want⟩ := g
    dsimp only at h
    cases he : fr.env s with
    | c v =>
      cases v with
      | bool b =>
        rw [he] at h
        dsimp only at h
        by_cases hb : b = want
        · rw [if_pos hb] at h
          obtain ⟨n, hn⟩ := doD_lim h
          exact ⟨n, by unfold stpG; rw [hg]; dsimp only; rw [he]; dsimp only; rw [if_pos hb]; exact hn⟩
        · rw [if_neg hb] at h
          exact ⟨0, by unfold stpG; rw [hg]; dsimp only; rw [he]; dsimp only; rw [if_neg hb]; exact h⟩
      | _ => rw [he] at h; cases h
    | skipv => rw [he] at h; exact ⟨0, by unfold stpG; rw [hg]; dsimp only; rw [he]; exact h⟩
    | _ => rw [he] at h; cases h
theorem stpD_lim {E : Env} {cl : Cls} {o : IOper} {fr : Fr} {H : Heap} {r : Fr × Heap} (h : stpD E (ev E) cl o fr H = some r) : ∃ n, stpD E (evF E n) cl o fr H = some r := by
  unfold stpD at h
  split at h
  · rename_i hd
    cases hs : stpG E (ev E) cl o fr H with
    | none => rw [hs] at h; cases h
    | some p =>
      obtain ⟨n, hn⟩ := stpG_lim hs
      exact ⟨n, by unfold stpD; rw [if_pos hd, hn]; rw [hs] at h; exact h⟩
  · cases h
theorem evOpsD_lim {E : Env} (ops : List (Cls × IOper)) : ∀ {fr : Fr} {H : Heap} {r : Fr × Heap}, evOpsD E (ev E) ops fr H = some r → ∃ n, evOpsD E (evF E n) ops fr H = some r := by
  induction ops with
  | nil => intro fr H r h; exact ⟨0, h⟩
  | cons o ops ih =>
    intro fr H r h
    obtain ⟨cl, o⟩ := o
    unfold evOpsD at h
    cases hs : stpD E (ev E) cl o fr H with
    | none => rw [hs] at h; cases h
    | some p =>
      rw [hs] at h
      obtain ⟨n, hn⟩ := stpD_lim hs
      obtain ⟨m, hm⟩ := ih h
      refine ⟨n + m, ?_⟩
      unfold evOpsD
      rw [stpD_mono (evF_le E n m) _ _ _ _ _ hn]
      rw [Nat.add_comm]
      exact evOpsD_mono (evF_le E m n) _ _ _ _ hm

theorem runAt_le (E : Env) (n k : Nat) (c : ICode) : LeRun (evC E (evF E n) (itF n) c) (evC E (evF E (n + k)) (itF (n + k)) c) := evC_mono (evF_le E n k) (itF_le n k) c

/-- A loop over steps that come with enough rounds. -/
theorem it_lim {s : Run} {sn : Nat → Run} (hm : ∀ n k, LeRun (sn n) (sn (n + k))) (hl : ∀ fr H r, s fr H = some r → ∃ n, sn n fr H = some r) {fr : Fr} {H : Heap} {r : Ex × Fr × Heap} (h : itW s fr H = some r) : ∃ n, itF n (sn n) fr H = some r := by
  obtain ⟨m, hm'⟩ := itW_some h
  have key : ∀ m fr H, itF m s fr H = some r → ∃ n, itF m (sn n) fr H = some r := by
    intro m
    induction m with
    | zero => intro fr H h; cases h
    | succ m ih =>
      intro fr H h
      rw [itF] at h
      cases hs : s fr H with
      | none => rw [hs] at h; cases h
      | some p =>
        rw [hs] at h
        obtain ⟨n, hn⟩ := hl _ _ _ hs
        obtain ⟨e, fr', H'⟩ := p
        cases e with
        | nrm =>
          obtain ⟨k, hk⟩ := ih _ _ h
          refine ⟨n + k, ?_⟩
          rw [itF, hm n k _ _ _ hn]
          have := itF_le m 0 _ _ (hm k n) fr' H' r hk
          rw [Nat.add_comm n k]
          exact this
        | _ => exact ⟨n, by rw [itF, hn]; exact h⟩
  obtain ⟨n, hn⟩ := key m fr H hm'
  refine ⟨m + n, ?_⟩
  have := itF_le m n _ _ (hm n m) fr H r hn
  rw [Nat.add_comm n m] at this
  exact this

theorem evC_lim {E : Env} (code : ICode) : ∀ {fr : Fr} {H : Heap} {r : Ex × Fr × Heap}, evC E (ev E) itW code fr H = some r → ∃ n, evC E (evF E n) (itF n) code fr H = some r := by
  induction code with
  | skip => intro fr H r h; exact ⟨0, h⟩
  | region ops =>
    intro fr H r h
    unfold evC at h
    cases hs : evOps E (ev E) ops { fr with al := noAl } H with
    | none => rw [hs] at h; cases h
    | some p =>
      rw [hs] at h
      obtain ⟨n, hn⟩ := evOps_lim ops hs
      exact ⟨n, by unfold evC; rw [hn]; exact h⟩
  | regionD ops =>
    intro fr H r h
    unfold evC at h
    cases hs : evOpsD E (ev E) ops { fr with al := noAl } H with
    | none => rw [hs] at h; cases h
    | some p =>
      rw [hs] at h
      obtain ⟨n, hn⟩ := evOpsD_lim ops hs
      exact ⟨n, by unfold evC; rw [hn]; exact h⟩
  | seq a b iha ihb =>
    intro fr H r h
    unfold evC at h
    cases hs : evC E (ev E) itW a fr H with
    | none => rw [hs] at h; cases h
    | some p =>
      rw [hs] at h
      obtain ⟨n, hn⟩ := iha hs
      obtain ⟨e, fr', H'⟩ := p
      cases e with
      | nrm =>
        obtain ⟨m, hm⟩ := ihb h
        refine ⟨n + m, ?_⟩
        unfold evC
        rw [runAt_le E n m _ _ _ _ hn, Nat.add_comm]
        exact runAt_le E m n _ _ _ _ hm
      | _ => exact ⟨n, by unfold evC; rw [hn]; exact h⟩
  | cond x a b iha ihb =>
    intro fr H r h
    unfold evC at h
    split at h
    · rename_i t ht
      split at h
      · rename_i hb
        obtain ⟨n, hn⟩ := iha h
        exact ⟨n, by unfold evC; rw [ht]; dsimp only; rw [if_pos hb]; exact hn⟩
      · rename_i hb
        obtain ⟨n, hn⟩ := ihb h
        exact ⟨n, by unfold evC; rw [ht]; dsimp only; rw [if_neg hb]; exact hn⟩
    · cases h
  | block id b ih =>
    intro fr H r h
    unfold evC at h
    cases hs : evC E (ev E) itW b fr H with
    | none => rw [hs] at h; cases h
    | some p =>
      rw [hs] at h
      obtain ⟨n, hn⟩ := ih hs
      exact ⟨n, by unfold evC; rw [hn]; exact h⟩
  | loop live b ih =>
    intro fr H r h
    unfold evC at h
    obtain ⟨n, hn⟩ := it_lim (sn := fun n fr H => evC E (evF E n) (itF n) b (keep live fr) H) (fun n k fr H => runAt_le E n k b _ _) (fun fr H r h => ih h) h
    exact ⟨n, by unfold evC; exact hn⟩
  | exit id => intro fr H r h; exact ⟨0, h⟩
  | scope l live b rest ihb ihr =>
    intro fr H r h
    unfold evC at h
    cases hs : evC E (ev E) itW b fr H with
    | none => rw [hs] at h; cases h
    | some p =>
      rw [hs] at h
      obtain ⟨n, hn⟩ := ihb hs
      obtain ⟨e, fr', H'⟩ := p
      cases e with
      | goto l' =>
        dsimp only at h
        by_cases hl : l' = l
        · rw [if_pos hl] at h
          generalize hz : itW (fun fr H => turnEx l (evC E (ev E) itW rest (keep live fr) H)) fr' H' = z at h
          cases z with
          | none => cases h
          | some q =>
            obtain ⟨m, hm⟩ := it_lim (sn := fun n fr H => turnEx l (evC E (evF E n) (itF n) rest (keep live fr) H)) (fun n k fr H => turnEx_mono l (runAt_le E n k _ _ _)) (by
                  intro fr H r hr
                  cases hq : evC E (ev E) itW rest (keep live fr) H with
                  | none => rw [hq] at hr; cases hr
                  | some q => rw [hq] at hr; obtain ⟨n, hn⟩ := ihr hq; exact ⟨n, by rw [hn]; exact hr⟩) hz
            refine ⟨n + m, ?_⟩
            have hr' := runAt_le E n m _ _ _ _ hn
            have hi' := itF_le m n _ (fun fr H => turnEx l (evC E (evF E (n + m)) (itF (n + m)) rest (keep live fr) H)) (by
                  intro fr H
                  rw [Nat.add_comm n m]
                  exact turnEx_mono l (runAt_le E m n _ _ _)) _ _ _ hm
            rw [Nat.add_comm m n] at hi'
            unfold evC
            rw [hr']
            dsimp only
            rw [if_pos hl, hi']
            exact h
        · rw [if_neg hl] at h
          exact ⟨n, by unfold evC; rw [hn]; dsimp only; rw [if_neg hl]; exact h⟩
      | _ => exact ⟨n, by unfold evC; rw [hn]; exact h⟩
  | label l => intro fr H r h; exact ⟨0, h⟩
  | goto l => intro fr H r h; exact ⟨0, h⟩
  | ret => intro fr H r h; exact ⟨0, h⟩

/-- The call's equation. -/
theorem ev_eq (E : Env) (f : Nat) (a : List HV) (H : Heap) : ev E f a H = runFn E (ev E) itW f a H := by
  apply Option.ext
  intro r
  constructor
  · intro h
    obtain ⟨n, hn⟩ := ev_some h
    cases n with
    | zero => cases hn
    | succ n => exact runFn_mono (LeCall_W E n) (LeIt_W n) f a H r hn
  · intro h
    unfold runFn at h
    cases hf : E.fn f with
    | none => rw [hf] at h; cases h
    | some g =>
      rw [hf] at h
      dsimp only at h
      cases hs : evC E (ev E) itW g.body { env := assoc (binds 0 a), al := noAl } H with
      | none => rw [hs] at h; cases h
      | some p =>
        obtain ⟨n, hn⟩ := evC_lim g.body hs
        refine ev_of (n := n + 1) ?_
        unfold evF runFn
        rw [hf]
        dsimp only
        rw [hn]
        rw [hs] at h
        exact h

end Go.Proofs.Lz
