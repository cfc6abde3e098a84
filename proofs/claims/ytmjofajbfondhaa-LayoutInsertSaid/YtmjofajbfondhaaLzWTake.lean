/- Slices taken in hand, and put down. -/
import Derived.Test.YtmjofajbfondhaaLzWRel
namespace Go.Proofs.Lz

/-- Going on, as far as others see it. -/
structure WStp (X Y : Cx) : Prop where
  n : X.n ≤ Y.n
  rho : ∀ i, i < X.n → Y.rho i = X.rho i
  F : Y.F = X.F
  rows : ∀ id r, X.H[id]? = some r → (Frozen r ∨ X.F id) → Y.H[id]? = some r
theorem WStp.refl (X : Cx) : WStp X X := ⟨Nat.le_refl _, fun _ _ => rfl, rfl, fun _ _ h _ => h⟩
theorem WStp.trans {X Y Z : Cx} (a : WStp X Y) (b : WStp Y Z) : WStp X Z :=
  ⟨Nat.le_trans a.n b.n, fun i h => (b.rho i (Nat.lt_of_lt_of_le h a.n)).trans (a.rho i h), b.F.trans a.F,
    fun id r h k => b.rows id r (a.rows id r h k) (k.imp (fun x => x) (fun k => by rw [a.F]; exact k))⟩

def ownAt1 : WV → Option (Bool × Nat × Option Nat × List CV)
  | .own b e ek xs => some (b, e, ek, xs)
  | _ => none
def ownAtC : WV → Nat → Option (Bool × Nat × Option Nat × List CV)
  | .agg cs, k => match cs[k]? with
    | some v => ownAt1 v
    | none => none
  | v, 0 => ownAt1 v
  | _, _ => none
def ownAt : WV → Nat → Nat → Option (Bool × Nat × Option Nat × List CV)
  | .tup vs, i, k => match vs[i]? with
    | some v => ownAtC v k
    | none => none
  | v, 0, k => ownAtC v k
  | _, _, _ => none
/-- The place of a view at a cell, and its beginning there. -/
def viewAt1 : WV → Option (Pl × Nat)
  | .view p _ off _ _ _ => some (p, off)
  | _ => none
def viewAtC : WV → Nat → Option (Pl × Nat)
  | .agg cs, k => match cs[k]? with
    | some v => viewAt1 v
    | none => none
  | v, 0 => viewAt1 v
  | _, _ => none
def viewAt : WV → Nat → Nat → Option (Pl × Nat)
  | .tup vs, i, k => match vs[i]? with
    | some v => viewAtC v k
    | none => none
  | v, 0, k => viewAtC v k
  | _, _, _ => none
/-- In hand: K emptied, the slices of v' in no slot's place. -/
def Cx.grab (X : Cx) (K : Pl → Bool) (v' : WV) (t : Nat → Nat → Nat × Nat × Nat) (H' : Heap) : Cx :=
  { X with
    O := fun p => match p with
      | .tmp i k => ownAt v' i k
      | p => if K p = true then none else X.O p
    th := fun p => match p with
      | .tmp i k => t i k
      | p => X.th p
    H := H' }
def isTmp : Pl → Bool
  | .tmp _ _ => true
  | _ => false

theorem Cx.grab_ok {X : Cx} (hx : XOk X) {K : Pl → Bool} {v' : WV} {t : Nat → Nat → Nat × Nat × Nat} {H' : Heap}
    (rows : ∀ i k b e ek xs, ownAt v' i k = some (b, e, ek, xs) → RowOk H' (t i k) b e ek xs ∧ ¬ X.F (t i k).1)
    (out : ∀ i k o p, ownAt v' i k = some o → X.O p ≠ none → isTmp p = false → K p = false → (X.th p).1 ≠ (t i k).1)
    (dist : ∀ i k i' k' o o', ownAt v' i k = some o → ownAt v' i' k' = some o' → (t i k).1 = (t i' k').1 → i = i' ∧ k = k')
    (same : ∀ p, X.O p ≠ none → isTmp p = false → K p = false → H'[(X.th p).1]? = X.H[(X.th p).1]?)
    (keep : ∀ id r, X.H[id]? = some r → (Frozen r ∨ X.F id) → H'[id]? = some r) :
    XOk (X.grab K v' t H') ∧ Ext (fun p => K p || isTmp p) false X (X.grab K v' t H') ∧ WStp X (X.grab K v' t H') := by
  have hO : ∀ p, isTmp p = false → (X.grab K v' t H').O p = if K p = true then none else X.O p := by
    intro p hp
    cases p with
    | tmp => cases hp
    | _ => rfl
  have hT : ∀ p, isTmp p = false → (X.grab K v' t H').th p = X.th p := by
    intro p hp
    cases p with
    | tmp => cases hp
    | _ => rfl
  have tm : ∀ p, isTmp p = true → ∃ i k, p = .tmp i k := by
    intro p hp
    cases p with
    | tmp i k => exact ⟨i, k, rfl⟩
    | _ => cases hp
  have hO' : ∀ p, isTmp p = false → (X.grab K v' t H').O p ≠ none → K p = false ∧ X.O p ≠ none := by
    intro p hp h
    rw [hO p hp] at h
    cases hk : K p with
    | true => rw [hk] at h; exact (h rfl).elim
    | false => rw [hk] at h; exact ⟨rfl, by simpa using h⟩
  refine ⟨⟨?_, ?_, ?_, hx.rinj, fun i hi => (hx.fl i hi).elim fun a ⟨b, c, d, e, hr⟩ => ⟨a, b, c, d, e, keep i _ hr (.inr hi)⟩, fun i k hi => by simp only [Cx.grab, hx.hz i k hi]; split <;> rfl⟩, ⟨Nat.le_refl _, fun _ _ => rfl, ?_, fun _ h => h, keep, fun h => by cases h⟩, ⟨Nat.le_refl _, fun _ _ => rfl, rfl, keep⟩⟩
  · intro p b e ek xs h
    cases hp : isTmp p with
    | true =>
      obtain ⟨i, k, rfl⟩ := tm p hp
      exact (rows i k b e ek xs h).1
    | false =>
      obtain ⟨k1, k2⟩ := hO' p hp (by rw [h]; simp)
      rw [hO p hp, k1] at h
      obtain ⟨ys, r1, r2⟩ := hx.own p b e ek xs (by simpa using h)
      rw [hT p hp]
      exact ⟨ys, by rw [← r1]; exact same p k2 hp k1, r2⟩
  · intro p p' h h' he
    cases hp : isTmp p with
    | true =>
      obtain ⟨i, k, rfl⟩ := tm p hp
      obtain ⟨o, ho⟩ := Option.ne_none_iff_exists'.1 h
      cases hp' : isTmp p' with
      | true =>
        obtain ⟨i', k', rfl⟩ := tm p' hp'
        obtain ⟨o', ho'⟩ := Option.ne_none_iff_exists'.1 h'
        obtain ⟨e1, e2⟩ := dist i k i' k' o o' ho ho' he
        rw [e1, e2]
      | false =>
        obtain ⟨k1, k2⟩ := hO' p' hp' h'
        rw [hT p' hp'] at he
        exact (out i k o p' ho k2 hp' k1 he.symm).elim
    | false =>
      obtain ⟨k1, k2⟩ := hO' p hp h
      rw [hT p hp] at he
      cases hp' : isTmp p' with
      | true =>
        obtain ⟨i', k', rfl⟩ := tm p' hp'
        obtain ⟨o', ho'⟩ := Option.ne_none_iff_exists'.1 h'
        exact (out i' k' o' p ho' k2 hp k1 he).elim
      | false =>
        obtain ⟨k1', k2'⟩ := hO' p' hp' h'
        rw [hT p' hp'] at he
        exact hx.dis p p' k2 k2' he
  · intro p h
    cases hp : isTmp p with
    | true =>
      obtain ⟨i, k, rfl⟩ := tm p hp
      obtain ⟨o, ho⟩ := Option.ne_none_iff_exists'.1 h
      obtain ⟨b, e, ek, xs⟩ := o
      exact (rows i k b e ek xs ho).2
    | false =>
      obtain ⟨k1, k2⟩ := hO' p hp h
      rw [hT p hp]
      exact hx.nf p k2
  · intro p hp h
    simp only [Bool.or_eq_false_iff] at hp
    refine ⟨hT p hp.2, ?_⟩
    rw [hO p hp.2, hp.1]
    rfl

/-- Put down: what was in hand lies in the region of dec. -/
def Cx.land (X : Cx) (dec : Pl → Option (Nat × Nat)) : Cx :=
  { X with
    O := fun p => match dec p with
      | some (i, k) => X.O (.tmp i k)
      | none => if isTmp p = true then none else X.O p
    th := fun p => match dec p with
      | some (i, k) => X.th (.tmp i k)
      | none => X.th p }
theorem Cx.land_ok {X : Cx} (hx : XOk X) {dec : Pl → Option (Nat × Nat)} (dinj : ∀ p p' x, dec p = some x → dec p' = some x → p = p') (dhp : ∀ i k x, dec (.hp i k) = some x → i < X.n) :
    XOk (X.land dec) ∧ Ext (fun p => (dec p).isSome || isTmp p) false X (X.land dec) ∧ WStp X (X.land dec) := by
  have hO : ∀ p, dec p = none → (X.land dec).O p = if isTmp p = true then none else X.O p := by
    intro p h; simp only [Cx.land, h]
  have hT : ∀ p, dec p = none → (X.land dec).th p = X.th p := by
    intro p h; simp only [Cx.land, h]
  have hO1 : ∀ p i k, dec p = some (i, k) → (X.land dec).O p = X.O (.tmp i k) := by
    intro p i k h; simp only [Cx.land, h]
  have hT1 : ∀ p i k, dec p = some (i, k) → (X.land dec).th p = X.th (.tmp i k) := by
    intro p i k h; simp only [Cx.land, h]
  have hO' : ∀ p, dec p = none → (X.land dec).O p ≠ none → isTmp p = false ∧ X.O p ≠ none := by
    intro p hp h
    rw [hO p hp] at h
    cases hk : isTmp p with
    | true => rw [hk] at h; exact (h rfl).elim
    | false => rw [hk] at h; exact ⟨rfl, by simpa using h⟩
  refine ⟨⟨?_, ?_, ?_, hx.rinj, hx.fl, fun i k hi => ?_⟩, ⟨Nat.le_refl _, fun _ _ => rfl, ?_, fun _ h => h, fun _ _ h _ => h, fun h => by cases h⟩, ⟨Nat.le_refl _, fun _ _ => rfl, rfl, fun _ _ h _ => h⟩⟩
  · intro p b e ek xs h
    cases hp : dec p with
    | some x => obtain ⟨i, k⟩ := x; rw [hO1 p i k hp] at h; rw [hT1 p i k hp]; exact hx.own _ b e ek xs h
    | none =>
      obtain ⟨k1, k2⟩ := hO' p hp (by rw [h]; simp)
      rw [hO p hp, k1] at h
      rw [hT p hp]
      exact hx.own p b e ek xs (by simpa using h)
  · intro p p' h h' he
    cases hp : dec p with
    | some x =>
      obtain ⟨i, k⟩ := x
      rw [hO1 p i k hp] at h
      rw [hT1 p i k hp] at he
      cases hp' : dec p' with
      | some x' =>
        obtain ⟨i', k'⟩ := x'
        rw [hO1 p' i' k' hp'] at h'
        rw [hT1 p' i' k' hp'] at he
        have := hx.dis _ _ h h' he
        injection this with e1 e2
        subst e1; subst e2
        exact dinj _ _ _ hp hp'
      | none =>
        obtain ⟨k1, k2⟩ := hO' p' hp' h'
        rw [hT p' hp'] at he
        have := hx.dis _ _ h k2 he
        subst this; cases k1
    | none =>
      obtain ⟨k1, k2⟩ := hO' p hp h
      rw [hT p hp] at he
      cases hp' : dec p' with
      | some x' =>
        obtain ⟨i', k'⟩ := x'
        rw [hO1 p' i' k' hp'] at h'
        rw [hT1 p' i' k' hp'] at he
        have := hx.dis _ _ k2 h' he
        subst this; cases k1
      | none =>
        obtain ⟨k1', k2'⟩ := hO' p' hp' h'
        rw [hT p' hp'] at he
        exact hx.dis p p' k2 k2' he
  · intro p h
    cases hp : dec p with
    | some x => obtain ⟨i, k⟩ := x; rw [hO1 p i k hp] at h; rw [hT1 p i k hp]; exact hx.nf _ h
    | none => rw [hT p hp]; exact hx.nf p (hO' p hp h).2
  · cases hd : dec (.hp i k) with
    | some x => exact (Nat.not_lt_of_le hi (dhp i k x hd)).elim
    | none => rw [hO _ hd, hx.hz i k hi]; rfl
  · intro p hp h
    simp only [Bool.or_eq_false_iff] at hp
    have hd : dec p = none := by simpa using hp.1
    refine ⟨hT p hd, ?_⟩
    rw [hO p hd, hp.2]
    rfl

/-! ### what is in hand, told in its new place -/
theorem VR1.land {X : Cx} {dec : Pl → Option (Nat × Nat)} (E : Ext (fun p => (dec p).isSome || isTmp p) false X (X.land dec)) {i k : Nat} {q' : Pl} (hd : dec q' = some (i, k)) {v : WV} {h : HV}
    (r : VR1 X (.tmp i k) v h) (nv : noView1 v = true) : VR1 (X.land dec) q' v h := by
  cases v with
  | own b e ek xs =>
    obtain ⟨r1, r2⟩ := r
    refine ⟨?_, ?_⟩
    · simp only [Cx.land, hd]; exact r1
    · simp only [Cx.land, hd]; exact r2
  | view => cases nv
  | eptr => cases nv
  | _ => exact (VR1.hit E r).any rfl
theorem VRL.land {X : Cx} {dec : Pl → Option (Nat × Nat)} (E : Ext (fun p => (dec p).isSome || isTmp p) false X (X.land dec)) {i : Nat} {q' : Nat → Pl} (hd : ∀ k, dec (q' k) = some (i, k)) :
    ∀ {l : List WV} {k : Nat} {s : List HV}, VRL X (Pl.tmp i) k l s → l.all noView1 = true → VRL (X.land dec) q' k l s := by
  intro l
  induction l with
  | nil => intro k s h _; cases s with
    | nil => trivial
    | cons => exact h.elim
  | cons v l ih => intro k s h nv; cases s with
    | nil => exact h.elim
    | cons a s =>
      simp only [List.all_cons, Bool.and_eq_true] at nv
      exact ⟨h.1.land E (hd k) nv.1, ih h.2 nv.2⟩
theorem VRC.land {X : Cx} {dec : Pl → Option (Nat × Nat)} (E : Ext (fun p => (dec p).isSome || isTmp p) false X (X.land dec)) {i : Nat} {q' : Nat → Pl} (hd : ∀ k, dec (q' k) = some (i, k))
    {v : WV} {h : HV} (r : VRC X (Pl.tmp i) v h) (nv : noViewC v = true) : VRC (X.land dec) q' v h := by
  cases v with
  | agg cs => obtain ⟨hs, r1, r2⟩ := r; exact ⟨hs, r1, r2.land E hd nv⟩
  | undef => exact r
  | tup => exact r.elim
  | lbox => exact r.elim
  | view => cases nv
  | eptr => cases nv
  | own b e ek xs => exact VR1.land E (hd 0) (v := .own b e ek xs) r rfl
  | c v => exact r
  | nils => exact r
  | skipv => exact r
  | gone => exact r
  | imm fz ek xs => exact VR1.land E (hd 0) (v := .imm fz ek xs) r rfl
  | ptr id off => exact VR1.land E (hd 0) (v := .ptr id off) r rfl
  | iptr fz ek x off => exact VR1.land E (hd 0) (v := .iptr fz ek x off) r rfl
  | fn f a b => exact VR1.land E (hd 0) (v := .fn f a b) r rfl
theorem VRT.land {X : Cx} {dec : Pl → Option (Nat × Nat)} (E : Ext (fun p => (dec p).isSome || isTmp p) false X (X.land dec)) {q' : Nat → Nat → Pl} (hd : ∀ i k, dec (q' i k) = some (i, k)) :
    ∀ {l : List WV} {i : Nat} {s : List HV}, VRT X Pl.tmp i l s → l.all noViewC = true → VRT (X.land dec) q' i l s := by
  intro l
  induction l with
  | nil => intro k s h _; cases s with
    | nil => trivial
    | cons => exact h.elim
  | cons v l ih => intro k s h nv; cases s with
    | nil => exact h.elim
    | cons a s =>
      simp only [List.all_cons, Bool.and_eq_true] at nv
      exact ⟨h.1.land E (hd k) nv.1, ih h.2 nv.2⟩
theorem VR.land {X : Cx} {dec : Pl → Option (Nat × Nat)} (E : Ext (fun p => (dec p).isSome || isTmp p) false X (X.land dec)) {q' : Nat → Nat → Pl} (hd : ∀ i k, dec (q' i k) = some (i, k))
    {v : WV} {h : HV} (r : VR X Pl.tmp v h) (nv : noView v = true) : VR (X.land dec) q' v h := by
  by_cases h1 : ∃ vs, v = .tup vs
  · obtain ⟨vs, rfl⟩ := h1
    obtain ⟨hs, r1, r2⟩ := r
    exact ⟨hs, r1, r2.land E hd nv⟩
  · by_cases h2 : ∃ ek w, v = .lbox ek w
    · obtain ⟨ek, w, rfl⟩ := h2
      obtain ⟨h', r1, r2⟩ := r
      exact ⟨h', r1, r2.land E (hd 0) nv⟩
    · have n1 : ∀ vs, v ≠ .tup vs := fun vs e => h1 ⟨vs, e⟩
      have n2 : ∀ ek w, v ≠ .lbox ek w := fun ek w e => h2 ⟨ek, w, e⟩
      have : noView v = noViewC v := by
        cases v with
        | tup vs => exact (n1 _ rfl).elim
        | lbox ek w => exact (n2 _ _ rfl).elim
        | _ => rfl
      exact VR_of_C ((r.toC n1 n2).land E (hd 0) (by rw [← this]; exact nv))
end Go.Proofs.Lz
/- Taking views in hand; putting what is in hand into a slot. -/
namespace Go.Proofs.Lz

def Cx.hide (X : Cx) : Cx := { X with O := fun p => if isTmp p = true then none else X.O p }
theorem hide_eq {X : Cx} (h : ∀ i k, X.O (.tmp i k) = none) : X.hide = X := by
  unfold Cx.hide
  have : (fun p => if isTmp p = true then none else X.O p) = X.O := by
    funext p
    cases p with
    | tmp i k => simp only [isTmp, if_true]; exact (h i k).symm
    | _ => rfl
  rw [this]
theorem XOk.hide {X : Cx} (h : XOk X) : XOk X.hide :=
  ⟨fun p b e ek xs hp => by
      have : X.O p = some (b, e, ek, xs) := by
        simp only [Cx.hide] at hp; split at hp
        · cases hp
        · exact hp
      exact h.own p b e ek xs this, fun p p' h1 h2 he => h.dis p p' (fun h => h1 (by simp [Cx.hide, h])) (fun h => h2 (by simp [Cx.hide, h])) he,
      fun p h1 => h.nf p (fun h => h1 (by simp [Cx.hide, h])), h.rinj, h.fl, fun i k hi => h.hz i k hi⟩
structure SR (X : Cx) (w : WFr) (W : WHeap) (fr : Fr) : Prop where
  ok : XOk X
  fr : FrR X w fr
  hp : HpR X W
  ht : ∀ i k, X.O (.tmp i k) = none
/-- A value in hand. -/
structure Hand (X : Cx) (w : WFr) (W : WHeap) (fr : Fr) (v : WV) (h : HV) : Prop where
  ok : XOk X
  fr : FrR X.hide w fr
  hp : HpR X.hide W
  vo : hasOwn v = true → VR X Pl.tmp v h ∧ noView v = true
  vf : hasOwn v = false → VR X.hide Pl.tmp v h
theorem SR.hand {X : Cx} {w : WFr} {W : WHeap} {fr : Fr} (s : SR X w W fr) {v : WV} {h : HV} {q : Nat → Nat → Pl} (r : VR X q v h) (ho : hasOwn v = false) : Hand X w W fr v h :=
  ⟨s.ok, by rw [hide_eq s.ht]; exact s.fr, by rw [hide_eq s.ht]; exact s.hp, fun h => by rw [ho] at h; (cases h), fun _ => by rw [hide_eq s.ht]; exact r.any ho⟩

/-! ### one hit and another -/
theorem hit1_hit1 (K L : Pl → Bool) (pl : Pl) (v : WV) : hit1 L false pl (hit1 K false pl v) = hit1 (fun p => K p || L p) false pl v := by
  cases v with
  | own b e ek xs =>
    by_cases hk : K pl = true <;> simp [hit1, hk]
  | view p b off e ek xs =>
    by_cases hk : K p = true <;> simp [hit1, hk]
  | eptr p i off ek x =>
    by_cases hk : K p = true <;> simp [hit1, hk]
  | _ => rfl
theorem hitL_hitL (K L : Pl → Bool) (q : Nat → Pl) : ∀ (l : List WV) (k : Nat), hitL L false q k (hitL K false q k l) = hitL (fun p => K p || L p) false q k l := by
  intro l
  induction l with
  | nil => intro k; rfl
  | cons v l ih => intro k; simp only [hitL, hit1_hit1, ih]
theorem hitC_hit1 {K : Pl → Bool} {fz : Bool} {q : Nat → Pl} {v : WV} (h : ∀ cs, v ≠ .agg cs) : hitC K fz q v = hit1 K fz (q 0) v := by
  cases v with
  | agg cs => exact (h cs rfl).elim
  | _ => rfl
theorem hit1_agg {K : Pl → Bool} {fz : Bool} {pl : Pl} {v : WV} (h : ∀ cs, v ≠ .agg cs) : ∀ cs, hit1 K fz pl v ≠ .agg cs := by
  intro cs
  cases v with
  | agg cs => exact (h cs rfl).elim
  | own b e ek xs => simp only [hit1]; split <;> (try split) <;> exact fun h => by cases h
  | view p b off e ek xs => simp only [hit1]; split <;> exact fun h => by cases h
  | eptr p i off ek x => simp only [hit1]; split <;> exact fun h => by cases h
  | _ => exact fun h => by cases h
theorem hitC_hitC (K L : Pl → Bool) (q : Nat → Pl) (v : WV) : hitC L false q (hitC K false q v) = hitC (fun p => K p || L p) false q v := by
  by_cases h : ∃ cs, v = .agg cs
  · obtain ⟨cs, rfl⟩ := h; simp only [hitC, hitL_hitL]
  · have h' : ∀ cs, v ≠ .agg cs := fun cs e => h ⟨cs, e⟩
    rw [hitC_hit1 h', hitC_hit1 h', hitC_hit1 (hit1_agg h'), hit1_hit1]
theorem hitT_hitT (K L : Pl → Bool) (q : Nat → Nat → Pl) : ∀ (l : List WV) (k : Nat), hitT L false q k (hitT K false q k l) = hitT (fun p => K p || L p) false q k l := by
  intro l
  induction l with
  | nil => intro k; rfl
  | cons v l ih => intro k; simp only [hitT, hitC_hitC, ih]
theorem hitC_shape {K : Pl → Bool} {fz : Bool} {q : Nat → Pl} {v : WV} (h1 : ∀ vs, v ≠ .tup vs) (h2 : ∀ ek w, v ≠ .lbox ek w) : (∀ vs, hitC K fz q v ≠ .tup vs) ∧ ∀ ek w, hitC K fz q v ≠ .lbox ek w := by
  cases v with
  | tup vs => exact (h1 _ rfl).elim
  | lbox ek w => exact (h2 _ _ rfl).elim
  | agg cs => exact ⟨fun _ h => (by cases h), fun _ _ h => (by cases h)⟩
  | own b e ek xs => simp only [hitC, hit1]; split <;> (try split) <;> exact ⟨fun _ h => (by cases h), fun _ _ h => (by cases h)⟩
  | view p b off e ek xs => simp only [hitC, hit1]; split <;> exact ⟨fun _ h => (by cases h), fun _ _ h => (by cases h)⟩
  | eptr p i off ek x => simp only [hitC, hit1]; split <;> exact ⟨fun _ h => (by cases h), fun _ _ h => (by cases h)⟩
  | _ => exact ⟨fun _ h => (by cases h), fun _ _ h => (by cases h)⟩
theorem hit_hit (K L : Pl → Bool) (q : Nat → Nat → Pl) (v : WV) : hit L false q (hit K false q v) = hit (fun p => K p || L p) false q v := by
  by_cases h1 : ∃ vs, v = .tup vs
  · obtain ⟨vs, rfl⟩ := h1; simp only [hit, hitT_hitT]
  · by_cases h2 : ∃ ek w, v = .lbox ek w
    · obtain ⟨ek, w, rfl⟩ := h2; simp only [hit, hitC_hitC]
    · have n1 : ∀ vs, v ≠ .tup vs := fun vs e => h1 ⟨vs, e⟩
      have n2 : ∀ ek w, v ≠ .lbox ek w := fun ek w e => h2 ⟨ek, w, e⟩
      rw [hit_C n1 n2, hit_C n1 n2, hit_C (hitC_shape n1 n2).1 (hitC_shape n1 n2).2, hitC_hitC]
theorem hitF_hitF (K L : Pl → Bool) (w : WFr) : hitF L false (hitF K false w) = hitF (fun p => K p || L p) false w := by
  simp only [hitF, hit_hit]
theorem hit1_no (pl : Pl) (fz : Bool) (v : WV) : hit1 (fun _ => false) fz pl v = v := by cases v <;> simp [hit1]
theorem hitL_no (q : Nat → Pl) (fz : Bool) : ∀ (l : List WV) (k : Nat), hitL (fun _ => false) fz q k l = l := by
  intro l
  induction l with
  | nil => intro k; rfl
  | cons v l ih => intro k; simp only [hitL, hit1_no, ih]
theorem hitC_no (q : Nat → Pl) (fz : Bool) (v : WV) : hitC (fun _ => false) fz q v = v := by
  cases v with
  | agg cs => simp only [hitC, hitL_no]
  | _ => simp only [hitC, hit1_no]
theorem hitT_no (q : Nat → Nat → Pl) (fz : Bool) : ∀ (l : List WV) (k : Nat), hitT (fun _ => false) fz q k l = l := by
  intro l
  induction l with
  | nil => intro k; rfl
  | cons v l ih => intro k; simp only [hitT, hitC_no, ih]
theorem hit_no (q : Nat → Nat → Pl) (fz : Bool) (v : WV) : hit (fun _ => false) fz q v = v := by
  cases v with
  | tup vs => simp only [hit, hitT_no]
  | lbox ek w => simp only [hit, hitC_no]
  | _ => simp only [hit, hitC_no]
theorem hitF_no (fz : Bool) (w : WFr) : hitF (fun _ => false) fz w = w := by
  simp only [hitF, hit_no]
theorem inK_nil : inK [] = fun _ => false := rfl
theorem hitAll_eq (K : List Pl) (fz : Bool) (w : WFr) (W : WHeap) : hitAll K fz w W = (hitF (inK K) fz w, hitH fz K W) := by
  cases K with
  | nil => simp only [hitAll, inK_nil, hitF_no, hitH]
  | cons => rfl

/-! ### the memory -/
def hitCells (K : List Pl) (fz : Bool) (i : Nat) : Nat → List WV → List WV
  | _, [] => []
  | k, v :: r => (if inK K (.hp i k) = true then hit1 (fun _ => true) fz (.hp i k) v else v) :: hitCells K fz i (k + 1) r
theorem hitCells_nil (fz : Bool) (i : Nat) : ∀ (l : List WV) (k : Nat), hitCells [] fz i k l = l := by
  intro l
  induction l with
  | nil => intro k; rfl
  | cons v l ih => intro k; simp only [hitCells, inK_nil, Bool.false_eq_true, if_false, ih]
theorem hit1_twice (fz : Bool) (pl : Pl) (v : WV) : hit1 (fun _ => true) fz pl (hit1 (fun _ => true) fz pl v) = hit1 (fun _ => true) fz pl v := by
  cases v <;> cases fz <;> simp [hit1]
theorem inK_cons (x : Pl) (K : List Pl) (p : Pl) : inK (x :: K) p = (decide (x = p) || inK K p) := by
  simp only [inK, List.any_cons]
theorem hitCells_other (K : List Pl) (fz : Bool) (x : Pl) (i : Nat) (hx : ∀ k, x ≠ .hp i k) : ∀ (l : List WV) (k : Nat), hitCells (x :: K) fz i k l = hitCells K fz i k l := by
  intro l
  induction l with
  | nil => intro k; rfl
  | cons v l ih => intro k; simp only [hitCells, inK_cons, hx k, decide_false, Bool.false_or, ih]
theorem hitCells_set (K : List Pl) (fz : Bool) (i j : Nat) : ∀ (l : List WV) (k : Nat), hitCells (.hp i (k + j) :: K) fz i k l = hitCells K fz i k (match l[j]? with
    | some v => l.set j (hit1 (fun _ => true) fz (.hp i (k + j)) v)
    | none => l) := by
  induction j with
  | zero =>
    intro l k
    cases l with
    | nil => rfl
    | cons v l =>
      have e : ∀ (l : List WV) (m : Nat), k < m → hitCells (.hp i (k + 0) :: K) fz i m l = hitCells K fz i m l := by
        intro l
        induction l with
        | nil => intro m _; rfl
        | cons v l ih =>
          intro m hm
          have : ¬ (Pl.hp i (k + 0) = Pl.hp i m) := by intro h; injection h; omega
          simp only [hitCells, inK_cons, this, decide_false, Bool.false_or, ih (m + 1) (by omega)]
      simp only [List.getElem?_cons_zero, List.set_cons_zero, hitCells, inK_cons, Nat.add_zero, decide_true, Bool.true_or, if_true]
      rw [show Pl.hp i k = Pl.hp i (k + 0) from rfl, e l (k + 1) (by omega)]
      congr 1
      split <;> simp [hit1_twice]
  | succ j ih =>
    intro l k
    cases l with
    | nil => rfl
    | cons v l =>
      have := ih l (k + 1)
      have ej : k + 1 + j = k + (j + 1) := by omega
      rw [ej] at this
      simp only [List.getElem?_cons_succ, hitCells, inK_cons]
      have ne : ¬ (Pl.hp i (k + (j + 1)) = Pl.hp i k) := by intro h; injection h; omega
      simp only [ne, decide_false, Bool.false_or, this]
      cases hl : l[j]? with
      | none => rfl
      | some x => rfl
theorem hitH_get (fz : Bool) (K : List Pl) : ∀ (W : WHeap) (i : Nat), (hitH fz K W)[i]? = (W[i]?).map fun | .var ek cs => .var ek (hitCells K fz i 0 cs) := by
  induction K with
  | nil =>
    intro W i
    simp only [hitH]
    cases h : W[i]? with
    | none => rfl
    | some o => obtain ⟨ek, cs⟩ := o; simp only [Option.map_some, hitCells_nil]
  | cons x K ih =>
    intro W i
    cases x with
    | hp id k =>
      simp only [hitH]
      rw [ih]
      cases h : W[id]? with
      | none =>
        by_cases hi : i = id
        · subst hi; simp [h]
        · congr 1
          funext o; obtain ⟨ek, cs⟩ := o
          rw [hitCells_other K fz (.hp id k) i (by intro m hm; injection hm with e1 e2; exact hi e1.symm)]
      | some o =>
        obtain ⟨ek, cs⟩ := o
        by_cases hi : i = id
        · subst hi
          have hlt := (List.getElem?_eq_some_iff.1 h).1
          simp only [List.getElem?_set_self hlt, Option.map_some, h]
          have := hitCells_set K fz i k cs 0
          rw [Nat.zero_add] at this
          rw [this]
          cases hc : cs[k]? <;> rfl
        · simp only
          rw [List.getElem?_set_ne (Ne.symm hi)]
          congr 1
          funext o; obtain ⟨ek, cs⟩ := o
          rw [hitCells_other K fz (.hp id k) i (by intro m hm; injection hm with e1 e2; exact hi e1.symm)]
    | sl s a b =>
      simp only [hitH]
      rw [ih]
      congr 1
      funext o; obtain ⟨ek, cs⟩ := o
      rw [hitCells_other K fz _ i (by intro m hm; cases hm)]
    | tmp a b =>
      simp only [hitH]
      rw [ih]
      congr 1
      funext o; obtain ⟨ek, cs⟩ := o
      rw [hitCells_other K fz _ i (by intro m hm; cases hm)]
theorem hitH_length (fz : Bool) (K : List Pl) : ∀ (W : WHeap), (hitH fz K W).length = W.length := by
  induction K with
  | nil => intro W; rfl
  | cons x K ih =>
    intro W
    cases x with
    | hp id k =>
      simp only [hitH, ih]
      split <;> simp
    | sl s a b => simp only [hitH, ih]
    | tmp a b => simp only [hitH, ih]

theorem cellH_hit {fz : Bool} {pl : Pl} {v : WV} (h : cellH v = true) : cellH (hit1 (fun _ => true) fz pl v) = true := by
  cases v <;> first | exact h | (cases fz <;> rfl) | cases h
theorem VRL.cells {K : List Pl} {fz : Bool} {X Y : Cx} (E : Ext (inK K) fz X Y) {i : Nat} : ∀ {l : List WV} {k : Nat} {s : List HV}, VRL X (Pl.hp i) k l s → l.all cellH = true →
    VRL Y (Pl.hp i) k (hitCells K fz i k l) s ∧ (hitCells K fz i k l).all cellH = true := by
  intro l
  induction l with
  | nil => intro k s h _; cases s with
    | nil => exact ⟨trivial, rfl⟩
    | cons => exact h.elim
  | cons v l ih => intro k s h hc; cases s with
    | nil => exact h.elim
    | cons a s =>
      simp only [List.all_cons, Bool.and_eq_true] at hc
      obtain ⟨i1, i2⟩ := ih h.2 hc.2
      have hv := h.1.hit E
      simp only [hitCells, VRL, List.all_cons, Bool.and_eq_true]
      cases hk : inK K (.hp i k) with
      | true =>
        simp only [if_true]
        refine ⟨⟨?_, i1⟩, cellH_hit hc.1, i2⟩
        revert hv
        cases v with
        | own b e ek xs => simp only [hit1, hk, if_true]; exact fun x => x
        | view => cases hc.1
        | eptr => cases hc.1
        | _ => exact fun x => x
      | false =>
        simp only [Bool.false_eq_true, if_false]
        refine ⟨⟨?_, i1⟩, hc.1, i2⟩
        revert hv
        cases v with
        | own b e ek xs => simp only [hit1, hk, Bool.false_eq_true, if_false]; exact fun x => x
        | view => cases hc.1
        | eptr => cases hc.1
        | _ => exact fun x => x
theorem HpR.hit {K : List Pl} {fz : Bool} {X Y : Cx} (E : Ext (inK K) fz X Y) (hn : Y.n = X.n) (hv : ∀ i, i < X.n → Y.H[X.rho i]? = X.H[X.rho i]?) {W : WHeap} (h : HpR X W) : HpR Y (hitH fz K W) := by
  refine ⟨by rw [hn, h.n, hitH_length], ?_⟩
  intro i ek cs hi
  rw [hitH_get] at hi
  cases hw : W[i]? with
  | none => rw [hw] at hi; cases hi
  | some o =>
    obtain ⟨ek', cs'⟩ := o
    rw [hw] at hi
    simp only [Option.map_some, Option.some.injEq, WO.var.injEq] at hi
    obtain ⟨rfl, rfl⟩ := hi
    obtain ⟨⟨hs, h1, h2⟩, h3⟩ := h.cells i ek' cs' hw
    have hlt : i < X.n := by rw [h.n]; exact (List.getElem?_eq_some_iff.1 hw).1
    obtain ⟨c1, c2⟩ := h2.cells E h3
    exact ⟨⟨hs, by rw [E.rho i hlt, hv i hlt]; exact h1, c1⟩, c2⟩
theorem HpR.hit' {K : List Pl} {fz : Bool} {X Y : Cx} (E : Ext (inK K) fz X Y) (hn : Y.n = X.n) (hv : ∀ i, i < X.n → ∀ ek cs, X.H[X.rho i]? = some (.var ek cs) → Y.H[X.rho i]? = some (.var ek cs)) {W : WHeap} (h : HpR X W) : HpR Y (hitH fz K W) := by
  refine ⟨by rw [hn, h.n, hitH_length], ?_⟩
  intro i ek cs hi
  rw [hitH_get] at hi
  cases hw : W[i]? with
  | none => rw [hw] at hi; cases hi
  | some o =>
    obtain ⟨ek', cs'⟩ := o
    rw [hw] at hi
    simp only [Option.map_some, Option.some.injEq, WO.var.injEq] at hi
    obtain ⟨rfl, rfl⟩ := hi
    obtain ⟨⟨hs, h1, h2⟩, h3⟩ := h.cells i ek' cs' hw
    have hlt : i < X.n := by rw [h.n]; exact (List.getElem?_eq_some_iff.1 hw).1
    obtain ⟨c1, c2⟩ := h2.cells E h3
    exact ⟨⟨hs, by rw [E.rho i hlt]; exact hv i hlt _ _ h1, c1⟩, c2⟩
/-- Where no place of a variable is hit, the memory stays. -/
theorem VRL.still {K : Pl → Bool} {fz : Bool} {X Y : Cx} (E : Ext K fz X Y) {i : Nat} (hk : ∀ k, K (.hp i k) = false) : ∀ {l : List WV} {k : Nat} {s : List HV}, VRL X (Pl.hp i) k l s → l.all cellH = true →
    VRL Y (Pl.hp i) k l s := by
  intro l
  induction l with
  | nil => intro k s h _; cases s with
    | nil => trivial
    | cons => exact h.elim
  | cons v l ih => intro k s h hc; cases s with
    | nil => exact h.elim
    | cons a s =>
      simp only [List.all_cons, Bool.and_eq_true] at hc
      refine ⟨?_, ih h.2 hc.2⟩
      have hv := h.1.hit E
      revert hv
      cases v with
      | own b e ek xs => simp only [hit1, hk, Bool.false_eq_true, if_false]; exact fun x => x
      | view => cases hc.1
      | eptr => cases hc.1
      | _ => exact fun x => x
theorem HpR.still {K : Pl → Bool} {fz : Bool} {X Y : Cx} (E : Ext K fz X Y) (hk : ∀ i k, K (.hp i k) = false) (hn : Y.n = X.n) (hv : ∀ i, i < X.n → Y.H[X.rho i]? = X.H[X.rho i]?) {W : WHeap} (h : HpR X W) : HpR Y W := by
  refine ⟨by rw [hn, h.n], ?_⟩
  intro i ek cs hi
  obtain ⟨⟨hs, h1, h2⟩, h3⟩ := h.cells i ek cs hi
  have hlt : i < X.n := by rw [h.n]; exact (List.getElem?_eq_some_iff.1 hi).1
  exact ⟨⟨hs, by rw [E.rho i hlt, hv i hlt]; exact h1, h2.still E (hk i) h3⟩, h3⟩

/-! ### putting down into a slot -/
def decSl (d : Nat) : Pl → Option (Nat × Nat)
  | .sl s i k => if s = d then some (i, k) else none
  | _ => none
theorem decSl_isSlot (d : Nat) : (fun p => (decSl d p).isSome) = isSlot d := by
  funext p
  cases p with
  | sl s i k => simp only [decSl, isSlot]; by_cases h : s = d <;> simp [h]
  | _ => rfl
theorem hide_land {X : Cx} {dec : Pl → Option (Nat × Nat)} (E : Ext (fun p => (dec p).isSome || isTmp p) false X (X.land dec)) : Ext (fun p => (dec p).isSome) false X.hide (X.land dec) :=
  ⟨E.n, E.rho, fun p hp ho => by
    have ht : isTmp p = false := by
      cases h : isTmp p with
      | false => rfl
      | true => simp only [Cx.hide, h, if_true] at ho; exact (ho rfl).elim
    have := E.pl p (by simp only [hp, ht, Bool.or_self]) (by simpa [Cx.hide, ht] using ho)
    exact ⟨this.1, by rw [this.2]; simp [Cx.hide, ht]⟩, E.F, E.rows, fun h => by cases h⟩
theorem land_ht {X : Cx} {dec : Pl → Option (Nat × Nat)} (dt : ∀ i k, dec (.tmp i k) = none) : ∀ i k, (X.land dec).O (.tmp i k) = none := by
  intro i k
  simp only [Cx.land, dt, isTmp, if_true]
theorem Hand.putD {X : Cx} {w : WFr} {W : WHeap} {fr : Fr} {v : WV} {h : HV} (s : Hand X w W fr v h) (d : Nat) :
    ∃ Y, SR Y (w.putD d v) W (fr.put (some d) h) ∧ WStp X Y ∧ Y.H = X.H := by
  cases ho : hasOwn v with
  | false =>
    have hx : XOk X.hide := s.ok.hide
    refine ⟨X.hide, ⟨hx, ?_, s.hp, fun i k => rfl⟩, ⟨Nat.le_refl _, fun _ _ => rfl, rfl, fun _ _ h _ => h⟩, rfl⟩
    simp only [WFr.putD, ho, Bool.false_eq_true, if_false]
    exact s.fr.put1 ((s.vf ho).any ho)
  | true =>
    obtain ⟨l1, l2, l3⟩ := Cx.land_ok s.ok (dec := decSl d) (by
      intro p p' x h1 h2
      cases p with
      | sl a b c =>
        cases p' with
        | sl a' b' c' =>
          simp only [decSl] at h1 h2
          split at h1
          · split at h2
            · rename_i e1 e2; subst e1; subst e2; rw [← h2] at h1; injection h1 with h1; injection h1 with h1 h3; subst h1; subst h3; rfl
            · cases h2
          · cases h1
        | _ => cases h2
      | _ => cases h1) (fun i k x h => by cases h)
    have E := hide_land l2
    refine ⟨X.land (decSl d), ⟨l1, ?_, ?_, land_ht (fun i k => rfl)⟩, l3, rfl⟩
    · simp only [WFr.putD, ho, if_true]
      rw [decSl_isSlot] at E
      exact (s.fr.hit E).put1 ((s.vo ho).1.land l2 (fun i k => by simp [decSl]) (s.vo ho).2)
    · exact s.hp.still E (fun i k => rfl) rfl (fun i _ => rfl)

/-! ### views taken in hand -/
theorem flat_inj {α β : Type} (f : α → List β) : ∀ (l : List α) (i j : Nat) (a b : α) (p : β), (l.flatMap f).Nodup → l[i]? = some a → l[j]? = some b → p ∈ f a → p ∈ f b → i = j := by
  intro l
  induction l with
  | nil => intro i j a b p _ h; cases h
  | cons x l ih =>
    intro i j a b p hn hi hj ha hb
    rw [List.flatMap_cons, List.nodup_append] at hn
    obtain ⟨n1, n2, n3⟩ := hn
    cases i with
    | zero =>
      cases j with
      | zero => rfl
      | succ j =>
        simp only [List.getElem?_cons_zero, Option.some.injEq] at hi
        simp only [List.getElem?_cons_succ] at hj
        subst hi
        exact (n3 p ha p (List.mem_flatMap.2 ⟨b, List.mem_of_getElem? hj, hb⟩) rfl).elim
    | succ i =>
      cases j with
      | zero =>
        simp only [List.getElem?_cons_zero, Option.some.injEq] at hj
        simp only [List.getElem?_cons_succ] at hi
        subst hj
        exact (n3 p hb p (List.mem_flatMap.2 ⟨a, List.mem_of_getElem? hi, ha⟩) rfl).elim
      | succ j =>
        simp only [List.getElem?_cons_succ] at hi hj
        rw [ih i j a b p n2 hi hj ha hb]
theorem flat_nodup {α β : Type} (f : α → List β) : ∀ (l : List α) (i : Nat) (a : α), (l.flatMap f).Nodup → l[i]? = some a → (f a).Nodup := by
  intro l
  induction l with
  | nil => intro i a _ h; cases h
  | cons x l ih =>
    intro i a hn hi
    rw [List.flatMap_cons, List.nodup_append] at hn
    cases i with
    | zero => simp only [List.getElem?_cons_zero, Option.some.injEq] at hi; subst hi; exact hn.1
    | succ i => exact ih i a hn.2.1 (by simpa using hi)
theorem srcL_eq : ∀ l : List WV, srcL l = l.flatMap src1 := by
  intro l
  induction l with
  | nil => rfl
  | cons v l ih => simp only [srcL, List.flatMap_cons, ih]
theorem srcT_eq : ∀ l : List WV, srcT l = l.flatMap srcC := by
  intro l
  induction l with
  | nil => rfl
  | cons v l ih => simp only [srcT, List.flatMap_cons, ih]
theorem viewAt1_src {v : WV} {p : Pl} {off : Nat} (h : viewAt1 v = some (p, off)) : p ∈ src1 v := by
  cases v with
  | view => simp only [viewAt1, Option.some.injEq, Prod.mk.injEq] at h; obtain ⟨rfl, rfl⟩ := h; simp [src1]
  | _ => cases h
theorem viewAtC_src {v : WV} {k : Nat} {p : Pl} {off : Nat} (h : viewAtC v k = some (p, off)) : p ∈ srcC v := by
  cases v with
  | agg cs =>
    simp only [viewAtC] at h
    cases hc : cs[k]? with
    | none => rw [hc] at h; cases h
    | some c => rw [hc] at h; simp only [srcC, srcL_eq]; exact List.mem_flatMap.2 ⟨c, List.mem_of_getElem? hc, viewAt1_src h⟩
  | view =>
    cases k with
    | zero => simp only [viewAtC] at h; exact viewAt1_src h
    | succ k => simp [viewAtC] at h
  | _ => cases k <;> simp [viewAtC, viewAt1] at h
theorem viewAtC_inj {v : WV} (hn : (srcC v).Nodup) {k k' : Nat} {p : Pl} {off off' : Nat} (h : viewAtC v k = some (p, off)) (h' : viewAtC v k' = some (p, off')) : k = k' := by
  cases v with
  | agg cs =>
    simp only [viewAtC] at h h'
    simp only [srcC, srcL_eq] at hn
    cases hc : cs[k]? with
    | none => rw [hc] at h; cases h
    | some c =>
      cases hc' : cs[k']? with
      | none => rw [hc'] at h'; cases h'
      | some c' => rw [hc] at h; rw [hc'] at h'; exact flat_inj src1 cs k k' c c' p hn hc hc' (viewAt1_src h) (viewAt1_src h')
  | _ =>
    cases k <;> cases k' <;> first | rfl | (simp [viewAtC, viewAt1] at h; done) | (simp [viewAtC, viewAt1] at h'; done)
theorem viewAt_inj {v : WV} (hn : (srcs v).Nodup) {i k i' k' : Nat} {p : Pl} {off off' : Nat} (h : viewAt v i k = some (p, off)) (h' : viewAt v i' k' = some (p, off')) : i = i' ∧ k = k' := by
  by_cases h1 : ∃ vs, v = .tup vs
  · obtain ⟨vs, rfl⟩ := h1
    simp only [viewAt] at h h'
    simp only [srcs, srcT_eq] at hn
    cases hc : vs[i]? with
    | none => rw [hc] at h; cases h
    | some c =>
      cases hc' : vs[i']? with
      | none => rw [hc'] at h'; cases h'
      | some c' =>
        rw [hc] at h; rw [hc'] at h'
        have e := flat_inj srcC vs i i' c c' p hn hc hc' (viewAtC_src h) (viewAtC_src h')
        subst e
        rw [hc] at hc'
        injection hc' with hc'
        subst hc'
        exact ⟨rfl, viewAtC_inj (flat_nodup srcC vs i c hn hc) h h'⟩
  · have n1 : ∀ vs, v ≠ .tup vs := fun vs e => h1 ⟨vs, e⟩
    have e0 : ∀ i k, viewAt v i k = if i = 0 then viewAtC v k else none := by
      intro i k
      cases v with
      | tup vs => exact (n1 _ rfl).elim
      | _ => cases i <;> rfl
    have e1 : srcs v = srcC v := by
      cases v with
      | tup vs => exact (n1 _ rfl).elim
      | _ => rfl
    rw [e0] at h h'
    split at h
    · split at h'
      · rename_i a b; rw [e1] at hn; exact ⟨by rw [a, b], viewAtC_inj hn h h'⟩
      · cases h'
    · cases h

theorem own_of1 {c : WV} {b : Bool} {e : Nat} {ek : Option Nat} {xs : List CV} (h : ownAt1 (ownIt1 c) = some (b, e, ek, xs)) (ho : hasOwn1 c = false) : ∃ p off, c = .view p b off e ek xs := by
  cases c with
  | view p b off e ek xs => simp only [ownIt1, ownAt1, Option.some.injEq, Prod.mk.injEq] at h; obtain ⟨rfl, rfl, rfl, rfl⟩ := h; exact ⟨p, off, rfl⟩
  | own => cases ho
  | _ => cases h
theorem VRL.get {X : Cx} {q : Nat → Pl} : ∀ {l : List WV} {k : Nat} {s : List HV} {j : Nat} {c : WV}, VRL X q k l s → l[j]? = some c → ∃ a, s[j]? = some a ∧ VR1 X (q (k + j)) c a := by
  intro l
  induction l with
  | nil => intro k s j c _ h; cases h
  | cons v l ih => intro k s j c h hj; cases s with
    | nil => exact h.elim
    | cons a s =>
      cases j with
      | zero => simp only [List.getElem?_cons_zero, Option.some.injEq] at hj; subst hj; exact ⟨a, rfl, h.1⟩
      | succ j =>
        obtain ⟨a', h1, h2⟩ := ih h.2 (by simpa using hj)
        exact ⟨a', by simpa using h1, by rw [show k + (j + 1) = k + 1 + j by omega]; exact h2⟩
theorem VRT.get {X : Cx} {q : Nat → Nat → Pl} : ∀ {l : List WV} {k : Nat} {s : List HV} {j : Nat} {c : WV}, VRT X q k l s → l[j]? = some c → ∃ a, s[j]? = some a ∧ VRC X (q (k + j)) c a := by
  intro l
  induction l with
  | nil => intro k s j c _ h; cases h
  | cons v l ih => intro k s j c h hj; cases s with
    | nil => exact h.elim
    | cons a s =>
      cases j with
      | zero => simp only [List.getElem?_cons_zero, Option.some.injEq] at hj; subst hj; exact ⟨a, rfl, h.1⟩
      | succ j =>
        obtain ⟨a', h1, h2⟩ := ih h.2 (by simpa using hj)
        exact ⟨a', by simpa using h1, by rw [show k + (j + 1) = k + 1 + j by omega]; exact h2⟩
theorem any_get {α : Type} {f : α → Bool} {l : List α} (h : l.any f = false) {j : Nat} {c : α} (hj : l[j]? = some c) : f c = false := by
  have := List.any_eq_false.1 h c (List.mem_of_getElem? hj)
  simpa using this
theorem ownAtC_view {X : Cx} {q : Nat → Pl} {v : WV} {h : HV} (r : VRC X q v h) (ho : hasOwnC v = false) {k : Nat} {b : Bool} {e : Nat} {ek : Option Nat} {xs : List CV} (hk : ownAtC (ownItC v) k = some (b, e, ek, xs)) :
    ∃ p off, viewAtC v k = some (p, off) ∧ ViewOk X p b off e ek xs := by
  cases v with
  | agg cs =>
    obtain ⟨hs, r1, r2⟩ := r
    simp only [ownItC, ownAtC, List.getElem?_map] at hk
    cases hc : cs[k]? with
    | none => rw [hc] at hk; cases hk
    | some c =>
      rw [hc] at hk
      simp only [Option.map_some] at hk
      obtain ⟨p, off, rfl⟩ := own_of1 hk (any_get ho hc)
      obtain ⟨a, g1, g2⟩ := r2.get hc
      exact ⟨p, off, by simp only [viewAtC, hc, viewAt1], g2.2⟩
  | view p b' off e' ek' xs' =>
    cases k with
    | zero =>
      simp only [ownItC, ownIt1, ownAtC, ownAt1, Option.some.injEq, Prod.mk.injEq] at hk
      obtain ⟨rfl, rfl, rfl, rfl⟩ := hk
      exact ⟨p, off, rfl, r.2⟩
    | succ k => cases hk
  | own => cases ho
  | _ => cases k <;> cases hk
theorem ownAt_view {X : Cx} {q : Nat → Nat → Pl} {v : WV} {h : HV} (r : VR X q v h) (ho : hasOwn v = false) {i k : Nat} {b : Bool} {e : Nat} {ek : Option Nat} {xs : List CV} (hk : ownAt (ownIt v) i k = some (b, e, ek, xs)) :
    ∃ p off, viewAt v i k = some (p, off) ∧ ViewOk X p b off e ek xs := by
  by_cases h1 : ∃ vs, v = .tup vs
  · obtain ⟨vs, rfl⟩ := h1
    obtain ⟨hs, r1, r2⟩ := r
    simp only [ownIt, ownAt, List.getElem?_map] at hk
    cases hc : vs[i]? with
    | none => rw [hc] at hk; cases hk
    | some c =>
      rw [hc] at hk
      simp only [Option.map_some] at hk
      obtain ⟨a, g1, g2⟩ := r2.get hc
      obtain ⟨p, off, h1, h2⟩ := ownAtC_view g2 (any_get ho hc) hk
      exact ⟨p, off, by simp only [viewAt, hc]; exact h1, h2⟩
  · by_cases h2 : ∃ ek w, v = .lbox ek w
    · obtain ⟨ek, w, rfl⟩ := h2
      cases i <;> cases k <;> cases hk
    · have n1 : ∀ vs, v ≠ .tup vs := fun vs e => h1 ⟨vs, e⟩
      have n2 : ∀ ek w, v ≠ .lbox ek w := fun ek w e => h2 ⟨ek, w, e⟩
      have e1 : ownIt v = ownItC v := by
        cases v with
        | tup vs => exact (n1 _ rfl).elim
        | _ => rfl
      have e2 : hasOwn v = hasOwnC v := by
        cases v with
        | tup vs => exact (n1 _ rfl).elim
        | lbox ek w => exact (n2 _ _ rfl).elim
        | _ => rfl
      have e3 : ∀ i k, viewAt v i k = if i = 0 then viewAtC v k else none := by
        intro i k
        cases v with
        | tup vs => exact (n1 _ rfl).elim
        | _ => cases i <;> rfl
      have e4 : ∀ i k, ownAt (ownItC v) i k = if i = 0 then ownAtC (ownItC v) k else none := by
        intro i k
        cases v with
        | tup vs => exact (n1 _ rfl).elim
        | _ => cases i <;> rfl
      rw [e1, e4] at hk
      split at hk
      · rename_i hi
        rw [e2] at ho
        obtain ⟨p, off, g1, g2⟩ := ownAtC_view (r.toC n1 n2) ho hk
        exact ⟨p, off, by rw [e3, if_pos hi]; exact g1, g2⟩
      · cases hk
theorem viewAt_src {v : WV} {i k : Nat} {p : Pl} {off : Nat} (h : viewAt v i k = some (p, off)) : p ∈ srcs v := by
  by_cases h1 : ∃ vs, v = .tup vs
  · obtain ⟨vs, rfl⟩ := h1
    simp only [viewAt] at h
    cases hc : vs[i]? with
    | none => rw [hc] at h; cases h
    | some c => rw [hc] at h; simp only [srcs, srcT_eq]; exact List.mem_flatMap.2 ⟨c, List.mem_of_getElem? hc, viewAtC_src h⟩
  · have n1 : ∀ vs, v ≠ .tup vs := fun vs e => h1 ⟨vs, e⟩
    have e1 : srcs v = srcC v := by
      cases v with
      | tup vs => exact (n1 _ rfl).elim
      | _ => rfl
    have e3 : ∀ i k, viewAt v i k = if i = 0 then viewAtC v k else none := by
      intro i k
      cases v with
      | tup vs => exact (n1 _ rfl).elim
      | _ => cases i <;> rfl
    rw [e3] at h
    split at h
    · rw [e1]; exact viewAtC_src h
    · cases h

theorem hit1_same {K : Pl → Bool} {fz : Bool} {pl : Pl} {v : WV} (h : noView1 v = true) (ho : hasOwn1 v = false) : hit1 K fz pl v = v := by
  cases v with
  | own => cases ho
  | view => cases h
  | eptr => cases h
  | _ => rfl
theorem hitL_same {K : Pl → Bool} {fz : Bool} {q : Nat → Pl} : ∀ {l : List WV} {k : Nat}, l.all noView1 = true → l.any hasOwn1 = false → hitL K fz q k l = l := by
  intro l
  induction l with
  | nil => intro k _ _; rfl
  | cons v l ih =>
    intro k h ho
    simp only [List.all_cons, Bool.and_eq_true] at h
    simp only [List.any_cons, Bool.or_eq_false_iff] at ho
    simp only [hitL, hit1_same h.1 ho.1, ih h.2 ho.2]
theorem hitC_same {K : Pl → Bool} {fz : Bool} {q : Nat → Pl} {v : WV} (h : noViewC v = true) (ho : hasOwnC v = false) : hitC K fz q v = v := by
  cases v with
  | agg cs => simp only [hitC, hitL_same h ho]
  | own => cases ho
  | view => cases h
  | eptr => cases h
  | _ => rfl
theorem hitT_same {K : Pl → Bool} {fz : Bool} {q : Nat → Nat → Pl} : ∀ {l : List WV} {k : Nat}, l.all noViewC = true → l.any hasOwnC = false → hitT K fz q k l = l := by
  intro l
  induction l with
  | nil => intro k _ _; rfl
  | cons v l ih =>
    intro k h ho
    simp only [List.all_cons, Bool.and_eq_true] at h
    simp only [List.any_cons, Bool.or_eq_false_iff] at ho
    simp only [hitT, hitC_same h.1 ho.1, ih h.2 ho.2]
theorem hit_same {K : Pl → Bool} {fz : Bool} {q : Nat → Nat → Pl} {v : WV} (h : noView v = true) (ho : hasOwn v = false) : hit K fz q v = v := by
  cases v with
  | tup vs => simp only [hit, hitT_same h ho]
  | lbox ek w => simp only [hit, hitC_same h ho]
  | agg cs => exact hitC_same (v := .agg cs) h ho
  | own => cases ho
  | view => cases h
  | eptr => cases h
  | _ => rfl
/-- A value whose views became slices of its own, where their places say the same. -/
theorem VR1.taken {X Y : Cx} {K : Pl → Bool} (E : Ext K false X Y) {pl q' : Pl} {v : WV} {h : HV} (r : VR1 X pl v h) (ho : hasOwn1 v = false)
    (hO : ∀ p b off e ek xs, v = .view p b off e ek xs → Y.O q' = some (b, e, ek, xs) ∧ Y.th q' = ((X.th p).1, (X.th p).2.1, (X.th p).2.2 + off)) : VR1 Y q' (ownIt1 v) h := by
  cases v with
  | own => cases ho
  | view p b off e ek xs =>
    obtain ⟨h1, h2⟩ := hO p b off e ek xs rfl
    exact ⟨by rw [h2]; exact r.1, h1⟩
  | eptr p i off ek x => obtain ⟨rfl, _⟩ := r; exact ⟨rfl, by intro v hv; cases hv⟩
  | _ => exact (VR1.hit E r).any rfl
theorem VRL.taken {X Y : Cx} {K : Pl → Bool} (E : Ext K false X Y) {q q' : Nat → Pl} : ∀ {l : List WV} {k k' : Nat} {s : List HV}, VRL X q k l s → l.any hasOwn1 = false →
    (∀ j p b off e ek xs, l[j]? = some (.view p b off e ek xs) → Y.O (q' (k' + j)) = some (b, e, ek, xs) ∧ Y.th (q' (k' + j)) = ((X.th p).1, (X.th p).2.1, (X.th p).2.2 + off)) → VRL Y q' k' (l.map ownIt1) s := by
  intro l
  induction l with
  | nil => intro k k' s h _ _; cases s with
    | nil => trivial
    | cons => exact h.elim
  | cons v l ih => intro k k' s h ho hO; cases s with
    | nil => exact h.elim
    | cons a s =>
      simp only [List.any_cons, Bool.or_eq_false_iff] at ho
      refine ⟨h.1.taken E ho.1 (fun p b off e ek xs hv => hO 0 p b off e ek xs (by simp [hv])), ih h.2 ho.2 ?_⟩
      intro j p b off e ek xs hj
      have := hO (j + 1) p b off e ek xs (by simpa using hj)
      rw [show k' + (j + 1) = k' + 1 + j by omega] at this
      exact this
theorem VRC.taken {X Y : Cx} {K : Pl → Bool} (E : Ext K false X Y) {q q' : Nat → Pl} {v : WV} {h : HV} (r : VRC X q v h) (ho : hasOwnC v = false)
    (hO : ∀ k p b off e ek xs, viewAtC v k = some (p, off) → ownAtC (ownItC v) k = some (b, e, ek, xs) → Y.O (q' k) = some (b, e, ek, xs) ∧ Y.th (q' k) = ((X.th p).1, (X.th p).2.1, (X.th p).2.2 + off)) : VRC Y q' (ownItC v) h := by
  cases v with
  | agg cs =>
    obtain ⟨hs, r1, r2⟩ := r
    refine ⟨hs, r1, r2.taken E ho ?_⟩
    intro j p b off e ek xs hj
    have := hO j p b off e ek xs (by simp only [viewAtC, hj, viewAt1]) (by simp only [ownItC, ownAtC, List.getElem?_map, hj, Option.map_some, ownIt1, ownAt1])
    rw [Nat.zero_add]
    exact this
  | own => cases ho
  | undef => exact r
  | tup => exact r.elim
  | lbox => exact r.elim
  | view p b off e ek xs => exact VR1.taken (pl := q 0) (q' := q' 0) E (v := .view p b off e ek xs) r rfl (fun p' b' off' e' ek' xs' hv => by injection hv with h1 h2 h3 h4 h5 h6; subst h1; subst h2; subst h3; subst h4; subst h5; subst h6; exact hO 0 _ _ _ _ _ _ rfl rfl)
  | eptr p i off ek x => exact VR1.taken (pl := q 0) (q' := q' 0) E (v := .eptr p i off ek x) r rfl (fun _ _ _ _ _ _ hv => by cases hv)
  | c v => exact r
  | nils => exact r
  | skipv => exact r
  | gone => exact r
  | imm fz ek xs => exact VR1.taken (pl := q 0) (q' := q' 0) E (v := .imm fz ek xs) r rfl (fun _ _ _ _ _ _ hv => by cases hv)
  | ptr id off => exact VR1.taken (pl := q 0) (q' := q' 0) E (v := .ptr id off) r rfl (fun _ _ _ _ _ _ hv => by cases hv)
  | iptr fz ek x off => exact VR1.taken (pl := q 0) (q' := q' 0) E (v := .iptr fz ek x off) r rfl (fun _ _ _ _ _ _ hv => by cases hv)
  | fn f a b => exact VR1.taken (pl := q 0) (q' := q' 0) E (v := .fn f a b) r rfl (fun _ _ _ _ _ _ hv => by cases hv)
theorem VRT.taken {X Y : Cx} {K : Pl → Bool} (E : Ext K false X Y) {q q' : Nat → Nat → Pl} : ∀ {l : List WV} {k k' : Nat} {s : List HV}, VRT X q k l s → l.any hasOwnC = false →
    (∀ j k p b off e ek xs, (∃ c, l[j]? = some c ∧ viewAtC c k = some (p, off) ∧ ownAtC (ownItC c) k = some (b, e, ek, xs)) → Y.O (q' (k' + j) k) = some (b, e, ek, xs) ∧ Y.th (q' (k' + j) k) = ((X.th p).1, (X.th p).2.1, (X.th p).2.2 + off)) → VRT Y q' k' (l.map ownItC) s := by
  intro l
  induction l with
  | nil => intro k k' s h _ _; cases s with
    | nil => trivial
    | cons => exact h.elim
  | cons v l ih => intro k k' s h ho hO; cases s with
    | nil => exact h.elim
    | cons a s =>
      simp only [List.any_cons, Bool.or_eq_false_iff] at ho
      refine ⟨h.1.taken E ho.1 (fun k p b off e ek xs h1 h2 => hO 0 k p b off e ek xs ⟨v, rfl, h1, h2⟩), ih h.2 ho.2 ?_⟩
      intro j k p b off e ek xs hj
      obtain ⟨c, c1, c2⟩ := hj
      have := hO (j + 1) k p b off e ek xs ⟨c, by simpa using c1, c2⟩
      rw [show k' + (j + 1) = k' + 1 + j by omega] at this
      exact this
theorem noView_own1 (v : WV) : noView1 (ownIt1 v) = true := by cases v <;> rfl
theorem noView_ownC (v : WV) : noViewC (ownItC v) = true := by
  cases v with
  | agg cs => simp only [ownItC, noViewC, List.all_map, List.all_eq_true]; intro x _; exact noView_own1 x
  | _ => rfl
theorem noView_own (v : WV) (h : ∀ ek w, v ≠ .lbox ek w) : noView (ownIt v) = true := by
  cases v with
  | tup vs => simp only [ownIt, noView, List.all_map, List.all_eq_true]; intro x _; exact noView_ownC x
  | lbox ek w => exact (h _ _ rfl).elim
  | agg cs => exact noView_ownC (.agg cs)
  | _ => rfl

theorem SR.take {X : Cx} {w : WFr} {W : WHeap} {fr : Fr} (s : SR X w W fr) {v : WV} {h : HV} {q : Nat → Nat → Pl} (r : VR X q v h) (ho : hasOwn v = false) (hb : ∀ ek w, v ≠ .lbox ek w) (hn : (srcs v).Nodup) :
    ∃ Y, Hand Y (hitF (inK (srcs v)) false w) (hitH false (srcs v) W) fr (ownIt v) h ∧ WStp X Y ∧ Y.H = X.H ∧ VR Y Pl.tmp (ownIt v) h ∧ noView (ownIt v) = true ∧ Ext (inK (srcs v)) false X Y := by
  let t : Nat → Nat → Nat × Nat × Nat := fun i k => match viewAt v i k with
    | some (p, off) => ((X.th p).1, (X.th p).2.1, (X.th p).2.2 + off)
    | none => (0, 0, 0)
  have ht : ∀ {i k p off}, viewAt v i k = some (p, off) → t i k = ((X.th p).1, (X.th p).2.1, (X.th p).2.2 + off) := by
    intro i k p off h; simp only [t, h]
  have hmem : ∀ p, p ∈ srcs v → inK (srcs v) p = true := by
    intro p hp; simp only [inK, List.any_eq_true, decide_eq_true_eq]; exact ⟨p, hp, rfl⟩
  obtain ⟨g1, g2, g3⟩ := Cx.grab_ok (H' := X.H) (K := inK (srcs v)) (v' := ownIt v) (t := t) s.ok (by
      intro i k b e ek xs hk
      obtain ⟨p, off, h1, b', ys, h2, h3, h4, h5⟩ := ownAt_view r ho hk
      rw [ht h1]
      refine ⟨?_, s.ok.nf p (by rw [h2]; simp)⟩
      obtain ⟨zs, z1, z2, z3, z4⟩ := s.ok.own p b' e ek ys h2
      refine ⟨zs, z1, by simp only; omega, ?_, ?_⟩
      · simp only
        rw [← h4, ← z3, List.drop_take, List.take_take, List.drop_drop]
        congr 1
        simp only [List.length_take, List.length_drop]
        omega
      · intro hb
        obtain ⟨q1, q2⟩ := h5 hb
        simp only [z4 q1, q2])
    (by
      intro i k o p hk hp _ hK he
      obtain ⟨b, e, ek, xs⟩ := o
      obtain ⟨p', off, h1, b', ys, h2, _⟩ := ownAt_view r ho hk
      rw [ht h1] at he
      have := s.ok.dis p p' hp (by rw [h2]; simp) he
      subst this
      rw [hmem p (viewAt_src h1)] at hK
      cases hK)
    (by
      intro i k i' k' o o' hk hk' he
      obtain ⟨b, e, ek, xs⟩ := o
      obtain ⟨b2, e2, ek2, xs2⟩ := o'
      obtain ⟨p, off, h1, _, ys, h2, _⟩ := ownAt_view r ho hk
      obtain ⟨p', off', h1', _, ys', h2', _⟩ := ownAt_view r ho hk'
      rw [ht h1, ht h1'] at he
      have := s.ok.dis p p' (by rw [h2]; simp) (by rw [h2']; simp) he
      subst this
      exact viewAt_inj hn h1 h1')
    (fun _ _ _ _ => rfl) (fun _ _ h _ => h)
  have E : Ext (inK (srcs v)) false X (X.grab (inK (srcs v)) (ownIt v) t X.H).hide := by
    refine ⟨g2.n, g2.rho, ?_, g2.F, g2.rows, fun h => by cases h⟩
    intro p hp hop
    have hnt : isTmp p = false := by
      cases p with
      | tmp i k => exact (hop (s.ht i k)).elim
      | _ => rfl
    have := g2.pl p (by simp [hp, hnt]) hop
    refine ⟨this.1, ?_⟩
    simp only [Cx.hide, hnt, Bool.false_eq_true, if_false]
    exact this.2
  have hv : VR (X.grab (inK (srcs v)) (ownIt v) t X.H) Pl.tmp (ownIt v) h := by
    by_cases h1 : ∃ vs, v = .tup vs
    · obtain ⟨vs, rfl⟩ := h1
      obtain ⟨hs, r1, r2⟩ := r
      refine ⟨hs, r1, r2.taken g2 ho ?_⟩
      intro j k p b off e ek xs hj
      obtain ⟨c, c1, c2, c3⟩ := hj
      rw [Nat.zero_add]
      refine ⟨?_, ht (by simp only [viewAt, c1]; exact c2)⟩
      show ownAt (ownIt (.tup vs)) j k = _
      simp only [ownIt, ownAt, List.getElem?_map, c1, Option.map_some, c3]
    · have n1 : ∀ vs, v ≠ .tup vs := fun vs e => h1 ⟨vs, e⟩
      have e1 : ownIt v = ownItC v := by
        cases v with
        | tup vs => exact (n1 _ rfl).elim
        | _ => rfl
      have e2 : hasOwn v = hasOwnC v := by
        cases v with
        | tup vs => exact (n1 _ rfl).elim
        | lbox ek w => exact (hb _ _ rfl).elim
        | _ => rfl
      have e3 : ∀ k, viewAt v 0 k = viewAtC v k := by
        intro k
        cases v with
        | tup vs => exact (n1 _ rfl).elim
        | _ => rfl
      have e4 : ∀ k, ownAt (ownIt v) 0 k = ownAtC (ownItC v) k := by
        intro k
        cases v with
        | tup vs => exact (n1 _ rfl).elim
        | _ => rfl
      have key := (r.toC n1 hb).taken (q' := Pl.tmp 0) g2 (by rw [← e2]; exact ho) (by
        intro k p b off e ek xs h1 h2
        refine ⟨?_, ht (by rw [e3]; exact h1)⟩
        show ownAt (ownIt v) 0 k = _
        rw [e4]; exact h2)
      rw [e1] at key ⊢
      exact VR_of_C key
  refine ⟨_, ⟨g1, s.fr.hit E, s.hp.hit E rfl (fun i _ => rfl), fun _ => ⟨hv, noView_own v hb⟩, ?_⟩, g3, rfl, hv, noView_own v hb, ⟨g2.n, g2.rho, fun p hp hop => g2.pl p (by
    have hnt : isTmp p = false := by
      cases p with
      | tmp i k => exact (hop (s.ht i k)).elim
      | _ => rfl
    simp [hp, hnt]) hop, g2.F, g2.rows, fun h => by cases h⟩⟩
  intro hno
  have hnv := noView_own v hb
  -- nothing of its own, no views: the hidden places are not looked at
  have Z : Ext isTmp false (X.grab (inK (srcs v)) (ownIt v) t X.H) (X.grab (inK (srcs v)) (ownIt v) t X.H).hide :=
    ⟨Nat.le_refl _, fun _ _ => rfl, fun p hp _ => ⟨rfl, by simp [Cx.hide, hp]⟩, fun _ h => h, fun _ _ h _ => h, fun h => by cases h⟩
  have := hv.hit Z
  rw [hit_same hnv hno] at this
  exact this
end Go.Proofs.Lz
