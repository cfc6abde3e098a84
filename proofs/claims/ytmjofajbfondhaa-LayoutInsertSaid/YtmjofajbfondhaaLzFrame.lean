/- The live memory and the frame: how they stand to the evaluator's, and how they go on. -/
import Derived.Test.YtmjofajbfondhaaLzRel
import Derived.Test.YtmjofajbfondhaaLzComp
import Derived.Calls
set_option linter.unusedVariables false
namespace Go.Proofs.Lz

theorem ekSize_pos (ek : Option Nat) (h : ek ≠ some 0) : 0 < ekSize ek := by
  cases ek with
  | none => decide
  | some n => cases n with
    | zero => exact absurd rfl h
    | succ n => exact Nat.succ_pos n

structure RHeap (w : World) (F : Nat → Prop) (H : Heap) (m : LMap) : Prop where
  there : ∀ (id : Nat) (o : HO), H[id]? = some o → (m id).blk < w.heap.size
  fthere : ∀ b, F b → b < w.heap.size
  var : ∀ (id : Nat) (ek : Option Nat) (cs : List HV), H[id]? = some (.var ek cs) → ¬ F (m id).blk ∧ ∃ (vs : List Value) (e : Nat), w.heap[(m id).blk]? = some (.cells vs.toArray e (0, 0)) ∧ RHs w F H m cs vs ∧ ∀ u ∈ vs, u.oneCell' = true
  row : ∀ (id : Nat) (fz : Bool) (e : Nat) (ek : Option Nat) (ver : Nat) (xs : List CV), H[id]? = some (.row fz e ek ver xs) → ∃ vs rest : List Value, w.heap[(m id).blk]? = some (.cells (vs ++ rest).toArray e (0, 0)) ∧ RRow w F ek xs vs ∧
    vs.length + rest.length = (m id).cap * ekSize ek ∧ (m id).cap ≤ maxLen ∧ 0 < ekSize ek ∧ (fz = true → F (m id).blk) ∧ (fz = false → ¬ F (m id).blk)
  inj : ∀ id id', id < H.length → id' < H.length → (m id).blk = (m id').blk → id = id'

structure RFr (fb N : Nat) (w : World) (F : Nat → Prop) (H : Heap) (m : LMap) (lb : Nat → Nat) (fr : Fr) (a : Act) : Prop where
  size : N ≤ a.tmps.size
  defers : a.defers = []
  val : ∀ t, (∀ ek x, fr.env t ≠ .lbox ek x) → RH w F H m (fr.env t) (a.tmps.getD t undef)
  box : ∀ t ek x, fr.env t = .lbox ek x → a.tmps.getD t undef = .pointer (some ⟨lb t, 0, none⟩) ∧ fb ≤ lb t ∧ lb t < w.heap.size ∧ ¬ F (lb t) ∧ (∀ id, id < H.length → (m id).blk ≠ lb t) ∧
    (∀ t' ek' x', fr.env t' = .lbox ek' x' → lb t' = lb t → t' = t) ∧ fitsH ek x = true ∧ ∃ (v : Value) (e : Nat), w.heap[lb t]? = some (.cells v.cells e (0, 0)) ∧ Shape ek v ∧ RH w F H m x v
  link : ∀ t b off, fr.al t = some (b, off) → ∀ ek x, fr.env b = .lbox ek x → a.tmps.getD t undef = .pointer (some ⟨lb b, off, none⟩)

/-- How the whole goes on: what lies below fb and is not live is not touched. -/
structure Stp (fb : Nat) (F F' : Nat → Prop) (H H' : Heap) (m m' : LMap) (w w' : World) : Prop where
  g : Grows F F' H H' m m' w w'
  size : w.heap.size ≤ w'.heap.size
  os : w'.os = w.os
  tape : w'.tape = w.tape
  output : w'.output = w.output
  far : ∀ b, b < fb → (∀ id, id < H.length → (m id).blk ≠ b) → w'.heap[b]? = w.heap[b]? ∧ (∀ id, id < H'.length → (m' id).blk ≠ b) ∧ (F' b → F b)

theorem Stp.refl (fb : Nat) (F : Nat → Prop) (H : Heap) (m : LMap) (w : World) : Stp fb F F H H m m w w :=
  ⟨Grows.refl F H m w, Nat.le_refl _, rfl, rfl, rfl, fun _ _ h => ⟨rfl, h, id⟩⟩
theorem Stp.trans {fb : Nat} {F F' F'' : Nat → Prop} {H H' H'' : Heap} {m m' m'' : LMap} {w w' w'' : World} (h : Stp fb F F' H H' m m' w w') (k : Stp fb F' F'' H' H'' m' m'' w' w'') : Stp fb F F'' H H'' m m'' w w'' := by
  refine ⟨h.g.trans k.g, Nat.le_trans h.size k.size, k.os.trans h.os, k.tape.trans h.tape, k.output.trans h.output, ?_⟩
  intro b hb hid
  obtain ⟨h1, h2, h3⟩ := h.far b hb hid
  obtain ⟨k1, k2, k3⟩ := k.far b hb h2
  exact ⟨k1.trans h1, k2, fun hf => h3 (k3 hf)⟩
theorem Stp.mono {fb fb' : Nat} {F F' : Nat → Prop} {H H' : Heap} {m m' : LMap} {w w' : World} (h : Stp fb' F F' H H' m m' w w') (hle : fb ≤ fb') : Stp fb F F' H H' m m' w w' :=
  ⟨h.g, h.size, h.os, h.tape, h.output, fun b hb => h.far b (Nat.lt_of_lt_of_le hb hle)⟩
/-- A draw. -/
theorem Stp.drawn (fb : Nat) (F : Nat → Prop) (H : Heap) (m : LMap) (w : World) (n : Nat) : Stp fb F F H H m m w { w with drawn := n } :=
  ⟨⟨⟨fun _ h => h, fun _ _ => rfl⟩, fun _ _ cs h => ⟨rfl, cs, h, rfl⟩, fun _ fz e ek ver xs h => ⟨fz, ver, xs, h, Nat.le_refl _, fun _ => ⟨rfl, rfl⟩⟩⟩, Nat.le_refl _, rfl, rfl, rfl, fun _ _ h => ⟨rfl, h, id⟩⟩

/-- Memory goes on beside the frame: the frame stands. -/
theorem RFr.step {fb N : Nat} {w w' : World} {F F' : Nat → Prop} {H H' : Heap} {m m' : LMap} {lb : Nat → Nat} {fr : Fr} {a : Act} (h : RFr fb N w F H m lb fr a) (s : Stp w.heap.size F F' H H' m m' w w') : RFr fb N w' F' H' m' lb fr a := by
  refine ⟨h.size, h.defers, fun t ht => RH.grow s.g _ _ (h.val t ht), ?_, h.link⟩
  intro t ek x hx
  obtain ⟨h1, h2, h3, h4, h5, h6, hft, v, e, h7, h8, h9⟩ := h.box t ek x hx
  obtain ⟨k1, k2, k3⟩ := s.far (lb t) h3 h5
  exact ⟨h1, h2, Nat.lt_of_lt_of_le h3 s.size, fun hf => h4 (k3 hf), k2, h6, hft, v, e, k1.trans h7, h8, RH.grow s.g _ _ h9⟩

theorem getD_set {a : Array Value} {d t : Nat} {u : Value} : (a.setIfInBounds d u).getD t undef = if t = d ∧ d < a.size then u else a.getD t undef := by
  simp only [Array.getD_eq_getD_getElem?, Array.getElem?_setIfInBounds]
  by_cases hd : d = t
  · subst hd
    by_cases hs : d < a.size
    · simp [hs]
    · simp [hs]
  · rw [if_neg hd, if_neg (fun q => hd q.1.symm)]

/-- A value goes into its place. -/
theorem RFr.put {fb N : Nat} {w : World} {F : Nat → Prop} {H : Heap} {m : LMap} {lb : Nat → Nat} {fr : Fr} {a : Act} (h : RFr fb N w F H m lb fr a) (dst : Option Nat) (hd : ∀ d, dst = some d → d < N) {v : HV} {u : Value} (hv : RH w F H m v u) (hb : ∀ ek x, v ≠ .lbox ek x) : RFr fb N w F H m lb (fr.put dst v) (a.put dst u) := by
  cases dst with
  | none => exact h
  | some d =>
    have hdN := hd d rfl
    have hds : d < a.tmps.size := Nat.lt_of_lt_of_le hdN h.size
    refine ⟨by simpa [Act.put] using h.size, h.defers, ?_, ?_, ?_⟩
    · intro t ht
      simp only [Fr.put, Act.put, upd] at ht ⊢
      rw [getD_set]
      by_cases e : t = d
      · rw [if_pos e, if_pos ⟨e, hds⟩]; exact hv
      · rw [if_neg e] at ht ⊢
        rw [if_neg (fun q => e q.1)]
        exact h.val t ht
    · intro t ek x hx
      simp only [Fr.put, Act.put, upd] at hx ⊢
      by_cases e : t = d
      · rw [if_pos e] at hx; exact absurd hx (hb ek x)
      · rw [if_neg e] at hx
        obtain ⟨h1, h2, h3, h4, h5, h6, h7⟩ := h.box t ek x hx
        rw [getD_set, if_neg (fun q => e q.1)]
        refine ⟨h1, h2, h3, h4, h5, ?_, h7⟩
        intro t' ek' x' hx'
        by_cases e' : t' = d
        · rw [if_pos e'] at hx'; exact absurd hx' (hb ek' x')
        · rw [if_neg e'] at hx'; exact h6 t' ek' x' hx'
    · intro t b off hl ek x hx
      simp only [Fr.put, Act.put, upd] at hl hx ⊢
      by_cases e : t = d
      · rw [if_pos e] at hl; cases hl
      · rw [if_neg e] at hl
        rw [getD_set, if_neg (fun q => e q.1)]
        by_cases e' : b = d
        · rw [if_pos e'] at hx; exact absurd hx (hb ek x)
        · rw [if_neg e'] at hx; exact h.link t b off hl ek x hx

/-- A link to a local box. -/
theorem RFr.link' {fb N : Nat} {w : World} {F : Nat → Prop} {H : Heap} {m : LMap} {lb : Nat → Nat} {fr : Fr} {a : Act} (h : RFr fb N w F H m lb fr a) (dst : Option Nat) (hd : ∀ d, dst = some d → d < N) {b off : Nat} {u : Value} (hne : dst ≠ some b)
    (hu : ∀ ek x, fr.env b = .lbox ek x → u = .pointer (some ⟨lb b, off, none⟩)) : RFr fb N w F H m lb (fr.link dst b off) (a.put dst u) := by
  cases dst with
  | none => exact h
  | some d =>
    have hdN := hd d rfl
    have hds : d < a.tmps.size := Nat.lt_of_lt_of_le hdN h.size
    refine ⟨by simpa [Act.put] using h.size, h.defers, ?_, ?_, ?_⟩
    · intro t ht
      simp only [Fr.link, Act.put, upd] at ht ⊢
      rw [getD_set]
      by_cases e : t = d
      · rw [if_pos e]; unfold RH; exact trivial
      · rw [if_neg e] at ht ⊢
        rw [if_neg (fun q => e q.1)]
        exact h.val t ht
    · intro t ek x hx
      simp only [Fr.link, Act.put, upd] at hx ⊢
      by_cases e : t = d
      · rw [if_pos e] at hx; cases hx
      · rw [if_neg e] at hx
        obtain ⟨h1, h2, h3, h4, h5, h6, h7⟩ := h.box t ek x hx
        rw [getD_set, if_neg (fun q => e q.1)]
        refine ⟨h1, h2, h3, h4, h5, ?_, h7⟩
        intro t' ek' x' hx'
        by_cases e' : t' = d
        · rw [if_pos e'] at hx'; cases hx'
        · rw [if_neg e'] at hx'; exact h6 t' ek' x' hx'
    · intro t b' off' hl ek x hx
      simp only [Fr.link, Act.put, upd] at hl hx ⊢
      have hbd : ¬ b' = d := by
        intro e'
        rw [if_pos e'] at hx
        cases hx
      rw [if_neg hbd] at hx
      by_cases e : t = d
      · rw [if_pos e] at hl
        injection hl with hl
        injection hl with q1 q2
        subst q1; subst q2
        rw [getD_set, if_pos ⟨e, hds⟩]
        exact hu ek x hx
      · rw [if_neg e] at hl
        rw [getD_set, if_neg (fun q => e q.1)]
        exact h.link t b' off' hl ek x hx

/-! ### constants and operands -/
theorem RC_cvOf {w : World} {F : Nat → Prop} : ∀ {v : Value} {c : CV}, cvOf v = some c → RC w F c v := by
  intro v c h
  cases v with
  | bool b => simp [cvOf] at h; subst h; unfold RC; rfl
  | int k n => simp [cvOf] at h; subst h; unfold RC; rfl
  | string s => simp [cvOf] at h; subst h; unfold RC; simp
  | pointer a => cases a with
    | none => simp [cvOf] at h; subst h; unfold RC; rfl
    | some a => simp [cvOf] at h
  | slice a n c => cases a with
    | none => cases n with
      | zero => cases c with
        | zero => simp [cvOf] at h; subst h; unfold RC; exact ⟨none, 0, rfl, Nat.le_refl _, fun hh => absurd rfl hh⟩
        | succ c => simp [cvOf] at h
      | succ n => simp [cvOf] at h
    | some a => simp [cvOf] at h
  | nilFunc => simp [cvOf] at h; subst h; unfold RC; rfl
  | nilIface => simp [cvOf] at h; subst h; unfold RC; rfl
  | _ => simp [cvOf] at h
theorem one_cvOf : ∀ {v : Value} {c : CV}, cvOf v = some c → v.oneCell' = true := by
  intro v c h
  cases v <;> first | rfl | simp [cvOf] at h

theorem RH_hvOf1 {w : World} {F : Nat → Prop} {H : Heap} {m : LMap} {v : Value} {x : HV} (h : hvOf1 v = some x) : RH w F H m x v ∧ v.oneCell' = true ∧ ∀ ek y, x ≠ .lbox ek y := by
  unfold hvOf1 at h
  split at h
  · injection h with h; subst h; exact ⟨by unfold RH; rfl, rfl, fun _ _ => by simp⟩
  · cases hc : cvOf v with
    | none => rw [hc] at h; cases h
    | some c => rw [hc] at h; injection h with h; subst h; exact ⟨by unfold RH; exact RC_cvOf hc, one_cvOf hc, fun _ _ => by simp⟩

theorem RHs_hvsOf {w : World} {F : Nat → Prop} {H : Heap} {m : LMap} : ∀ {vs : List Value} {xs : List HV}, hvsOf vs = some xs → RHs w F H m xs vs ∧ ∀ u ∈ vs, u.oneCell' = true := by
  intro vs
  induction vs with
  | nil => intro xs h; simp [hvsOf] at h; subst h; exact ⟨by unfold RHs; rfl, by simp⟩
  | cons v vs ih =>
    intro xs h
    unfold hvsOf at h
    cases h1 : hvOf1 v with
    | none => rw [h1] at h; cases h
    | some a =>
      cases h2 : hvsOf vs with
      | none => rw [h1, h2] at h; cases h
      | some b =>
        rw [h1, h2] at h
        injection h with h; subst h
        obtain ⟨k1, k2, k3⟩ := RH_hvOf1 (w := w) (F := F) (H := H) (m := m) h1
        obtain ⟨k4, k5⟩ := ih h2
        refine ⟨by unfold RHs; exact ⟨v, vs, rfl, k1, k4⟩, ?_⟩
        intro u hu
        rcases List.mem_cons.1 hu with rfl | hu
        · exact k2
        · exact k5 u hu

/-- Closed cells, closed as one. -/
theorem RHs_closeAll {w : World} {F : Nat → Prop} {H : Heap} {m : LMap} : ∀ {cs : List HV} {l : List CV} {vs : List Value}, closeAll cs = some l → RHs w F H m cs vs → RCs w F l vs := by
  intro cs
  induction cs with
  | nil => intro l vs h hr; simp [closeAll] at h; subst h; unfold RHs at hr; unfold RCs; exact hr
  | cons c cs ih =>
    intro l vs h hr
    cases c with
    | c x =>
      unfold closeAll at h
      cases hc : closeAll cs with
      | none => rw [hc] at h; cases h
      | some l' =>
        rw [hc] at h
        injection h with h; subst h
        unfold RHs at hr
        obtain ⟨v, us, h1, h2, h3⟩ := hr
        unfold RCs
        unfold RH at h2
        exact ⟨v, us, h1, h2, ih hc h3⟩
    | _ => simp [closeAll] at h
theorem RH_mkAgg {w : World} {F : Nat → Prop} {H : Heap} {m : LMap} {cs : List HV} {vs : List Value} (h : RHs w F H m cs vs) (h1 : ∀ u ∈ vs, u.oneCell' = true) : RH w F H m (mkAgg cs) (.agg vs.toArray) := by
  unfold mkAgg
  cases hc : closeAll cs with
  | none => dsimp only; unfold RH; exact ⟨vs, rfl, h, h1⟩
  | some l => dsimp only; unfold RH RC; exact ⟨vs, rfl, RHs_closeAll hc h, h1⟩
theorem mkAgg_box (cs : List HV) : ∀ ek x, mkAgg cs ≠ .lbox ek x := by
  intro ek x
  unfold mkAgg
  split <;> simp

theorem RH_hvOf {w : World} {F : Nat → Prop} {H : Heap} {m : LMap} {v : Value} {x : HV} (h : hvOf v = some x) : RH w F H m x v ∧ ∀ ek y, x ≠ .lbox ek y := by
  unfold hvOf at h
  split at h
  · rename_i cs
    cases hc : hvsOf cs.toList with
    | none => rw [hc] at h; cases h
    | some l =>
      rw [hc] at h
      injection h with h; subst h
      obtain ⟨k1, k2⟩ := RHs_hvsOf (w := w) (F := F) (H := H) (m := m) hc
      have := RH_mkAgg k1 k2
      refine ⟨by simpa using this, mkAgg_box l⟩
  · obtain ⟨k1, _, k3⟩ := RH_hvOf1 (w := w) (F := F) (H := H) (m := m) h
    exact ⟨k1, k3⟩

/-- An operand. -/
theorem opd_rel {fb N : Nat} {w : World} {F : Nat → Prop} {H : Heap} {m : LMap} {lb : Nat → Nat} {fr : Fr} {a : Act} (h : RFr fb N w F H m lb fr a) {x : Operand} {ix : Opd} (hx : opdOf x = some ix) : RH w F H m (fr.opd ix) (a.eval x) ∧ ∀ ek y, fr.opd ix ≠ .lbox ek y := by
  cases x with
  | tmp t =>
    simp [opdOf] at hx
    subst hx
    simp only [Fr.opd, Act.eval]
    cases he : fr.env t with
    | lbox ek y => simp only [unbox]; exact ⟨by unfold RH; exact trivial, fun _ _ => by simp⟩
    | _ =>
      have := h.val t (by intro ek y hh; rw [he] at hh; cases hh)
      rw [he] at this
      exact ⟨this, fun _ _ => by simp [unbox]⟩
  | const v =>
    simp only [opdOf, Option.map_eq_some_iff] at hx
    obtain ⟨y, hy, rfl⟩ := hx
    exact RH_hvOf hy
  | func f =>
    simp [opdOf] at hx
    subst hx
    simp only [Fr.opd, Act.eval]
    exact ⟨by unfold RH RC; exact ⟨[], [], rfl, by unfold RCs; rfl, by unfold RCs; rfl⟩, fun _ _ => by simp⟩
  | global g => simp [opdOf] at hx

theorem opds_rel {fb N : Nat} {w : World} {F : Nat → Prop} {H : Heap} {m : LMap} {lb : Nat → Nat} {fr : Fr} {a : Act} (h : RFr fb N w F H m lb fr a) : ∀ {xs : List Operand} {ixs : List Opd}, opdsOf xs = some ixs → RHs w F H m (ixs.map fr.opd) (xs.map a.eval) := by
  intro xs
  induction xs with
  | nil => intro ixs hx; simp [opdsOf] at hx; subst hx; unfold RHs; rfl
  | cons x xs ih =>
    intro ixs hx
    unfold opdsOf at hx
    cases h1 : opdOf x with
    | none => rw [h1] at hx; cases hx
    | some p =>
      cases h2 : opdsOf xs with
      | none => rw [h1, h2] at hx; cases hx
      | some q =>
        rw [h1, h2] at hx
        injection hx with hx; subst hx
        simp only [List.map_cons]
        unfold RHs
        exact ⟨_, _, rfl, (opd_rel h h1).1, ih h2⟩

/-- A place in a local box. -/
theorem place_rel {fb N : Nat} {w : World} {F : Nat → Prop} {H : Heap} {m : LMap} {lb : Nat → Nat} {fr : Fr} {a : Act} (h : RFr fb N w F H m lb fr a) {x : Operand} {ix : Opd} (hx : opdOf x = some ix) {b off : Nat} (hp : fr.place ix = some (b, off)) : (∃ ek y, fr.env b = .lbox ek y) ∧ a.eval x = .pointer (some ⟨lb b, off, none⟩) := by
  cases x with
  | tmp t =>
    simp [opdOf] at hx
    subst hx
    simp only [Fr.place] at hp
    cases ha : fr.al t with
    | some p =>
      rw [ha] at hp
      obtain ⟨b', off'⟩ := p
      dsimp only at hp
      cases he : fr.env b' with
      | lbox ek y =>
        rw [he] at hp
        injection hp with hp
        injection hp with q1 q2
        subst q1; subst q2
        exact ⟨⟨ek, y, he⟩, h.link t b' off' ha ek y he⟩
      | _ => rw [he] at hp; cases hp
    | none =>
      rw [ha] at hp
      dsimp only at hp
      cases he : fr.env t with
      | lbox ek' y' =>
        rw [he] at hp
        injection hp with hp
        injection hp with q1 q2
        subst q1; subst q2
        exact ⟨⟨ek', y', he⟩, (h.box t ek' y' he).1⟩
      | _ => rw [he] at hp; cases hp
  | const v =>
    simp only [opdOf, Option.map_eq_some_iff] at hx
    obtain ⟨z, hz, rfl⟩ := hx
    simp [Fr.place] at hp
  | func f => simp [opdOf] at hx; subst hx; simp [Fr.place] at hp
  | global g => simp [opdOf] at hx
end Go.Proofs.Lz
