/- Drawn regions: two operations that keep to classes which do not meet may change places. Nothing of the model is in sight here. -/
import Derived.Test.YtencoceemejcnaaGreatDoorLzOm
set_option linter.unusedVariables false
set_option linter.unusedSimpArgs false
namespace Go.Proofs.Lz
def isB : HV → Bool
 | .lbox _ _ => true
 | _ => false
def Fr.setD (fr : Fr) (dst : Option Nat) (r : HV × Option (Nat × Nat)) : Fr :=
 match dst with
 | none => fr
 | some d => { env := upd fr.env d r.1, al := upd fr.al d r.2 }
def Fr.setB (fr : Fr) (bx : Option (Nat × HV)) : Fr :=
 match bx with
 | none => fr
 | some (b, y) => { fr with env := upd fr.env b y }
def Fr.unl (fr : Fr) : Option Nat → Fr
 | none => fr
 | some d => { fr with al := unlink d fr.al }
def Fr.eff (fr : Fr) (bx : Option (Nat × HV)) (lb : Option Nat) (dst : Option Nat) (r : HV × Option (Nat × Nat)) : Fr := ((fr.setB bx).unl lb).setD dst r
def Agr (R : List Nat) (fr fr' : Fr) : Prop := ∀ t ∈ R, fr.place (.t t) = fr'.place (.t t) ∧ z81 (fr.env t) = z81 (fr'.env t)
def AgrD (D : Option Nat) (fr fr' : Fr) : Prop := ∀ d, D = some d → isB (fr.env d) = isB (fr'.env d)
def AgrB (R : List Nat) (fr fr' : Fr) : Prop := ∀ t ∈ R, ∀ b off, fr.place (.t t) = some (b, off) → fr.env b = fr'.env b
def qx2 (fr : Fr) : Prop := ∀ t, fr.al t ≠ none → isB (fr.env t) = false
theorem qc2 {v : HV} (h : isB v = true) : ∃ ek y, v = .lbox ek y := by cases v <;> first | exact ⟨_, _, rfl⟩ | cases h
theorem jj2 (fr : Fr) (t : Nat) : fr.place (.t t) = match fr.al t with
 | some (b, off) => if isB (fr.env b) = true then some (b, off) else none
 | none => if isB (fr.env t) = true then some (t, 0) else none := by
 have key : ∀ (b : Nat) (o : Option (Nat × Nat)), (match fr.env b with
  | .lbox _ _ => o
  | _ => none) = if isB (fr.env b) = true then o else none := by
  intro b o
  cases fr.env b <;> rfl
 simp only [Fr.place]
 cases fr.al t with
 | none => exact key t _
 | some p => exact key p.1 _
theorem jq2 {xs : List Opd} {fr fr' : Fr} (h : Agr (zj7 xs) fr fr') : ∀ x ∈ xs, fr.opd x = fr'.opd x ∧ fr.place x = fr'.place x := by
 induction xs with
 | nil => intro x hx; simp at hx
 | cons y ys ih =>
   intro x hx
   cases y with
   | k v =>
     rcases List.mem_cons.1 hx with rfl | hx
     · exact ⟨rfl, rfl⟩
     · exact ih h x hx
   | t i =>
     rcases List.mem_cons.1 hx with rfl | hx
     · obtain ⟨h1, h2⟩ := h i (by simp [zj7])
       exact ⟨h2, h1⟩
     · exact ih (fun t ht => h t (by simp [zj7, ht])) x hx
theorem z39 {xs : List Opd} {fr fr' : Fr} (h : Agr (zj7 xs) fr fr') : ∀ x ∈ xs, fr'.opd x = fr.opd x ∧ fr'.place x = fr.place x :=
 fun x hx => ⟨(jq2 h x hx).1.symm, (jq2 h x hx).2.symm⟩
theorem q02 {xs : List Opd} {fr : Fr} {x : Opd} {b off : Nat} (hx : x ∈ xs) (h : fr.place x = some (b, off)) : ∃ t ∈ zj7 xs, ∃ off, fr.place (.t t) = some (b, off) := by
 cases x with
 | k v => simp [Fr.place] at h
 | t i =>
   refine ⟨i, ?_, off, h⟩
   induction xs with
   | nil => simp at hx
   | cons y ys ih =>
     rcases List.mem_cons.1 hx with e | hx2
     · subst e; simp [zj7]
     · cases y with
       | k v => exact ih hx2
       | t j => simp [zj7, ih hx2]
theorem za4 (fr : Fr) (dst : Option Nat) (v : HV) : fr.put dst v = fr.setD dst (v, none) := by cases dst <;> rfl
theorem qd7 (fr : Fr) (dst : Option Nat) (b off : Nat) : fr.link dst b off = fr.setD dst (.undef, some (b, off)) := by cases dst <;> rfl
theorem q98 {H : Heap} {x : HO} {id : Nat} (ext : Heap) (h : H[id]? = some x) : (H ++ ext)[id]? = some x := by
 rw [List.getElem?_append_left]
 · exact h
 · exact (List.getElem?_eq_some_iff.1 h).1
theorem qe3 {H : Heap} (ext : Heap) {v : HV} {u : CV} (h : zf1 H v = some u) : zf1 (H ++ ext) v = some u := by
 cases v with
 | sl id ver off len =>
   unfold zf1 at h ⊢
   dsimp only at h ⊢
   cases hg : H[id]? with
   | none => rw [hg] at h; cases h
   | some x => rw [hg] at h; rw [q98 ext hg]; exact h
 | _ => exact h
theorem q80 {H : Heap} (ext : Heap) : ∀ {vs : List HV} {us : List CV}, z49 H vs = some us → z49 (H ++ ext) vs = some us := by
 intro vs
 induction vs with
 | nil => intro us h; exact h
 | cons v vs ih =>
   intro us h
   unfold z49 at h ⊢
   cases h1 : zf1 H v with
   | none => rw [h1] at h; cases h
   | some a =>
     cases h2 : z49 H vs with
     | none => rw [h1, h2] at h; cases h
     | some b => rw [h1, h2] at h; rw [qe3 ext h1, ih h2]; exact h
theorem qx9 {H : Heap} (ext : Heap) {v : HV} {u : CV} (h : zb1 H v = some u) : zb1 (H ++ ext) v = some u := by
 unfold zb1 at h ⊢
 split at h
 · rename_i cs
   cases h1 : z49 H cs with
   | none => rw [h1] at h; cases h
   | some l => rw [h1] at h; rw [q80 ext h1]; exact h
 · rename_i t cs
   cases h1 : z49 H cs with
   | none => rw [h1] at h; cases h
   | some l => rw [h1] at h; rw [q80 ext h1]; exact h
 · rename_i t v hn
   cases h1 : zf1 H v with
   | none => rw [h1] at h; cases h
   | some l => rw [h1] at h; rw [qe3 ext h1]; exact h
 · exact qe3 ext h
theorem qy4 {H : Heap} (ext : Heap) {v : HV} {u : CV} (h : q34 H v = some u) : q34 (H ++ ext) v = some u := by
 unfold q34 at h ⊢
 split at h
 · rename_i id off
   cases hg : H[id]? with
   | none => rw [hg] at h; cases h
   | some x =>
     rw [hg] at h
     rw [q98 ext hg]
     cases x with
     | row fz e ek ver xs => exact h
     | var ek cs =>
       dsimp only at h ⊢
       cases h1 : z49 H cs with
       | none => rw [h1] at h; cases h
       | some l => rw [h1] at h; rw [q80 ext h1]; exact h
 · exact qx9 ext h
theorem qk6 {H : Heap} (ext : Heap) : ∀ {vs : List HV} {us : List CV}, zi0 H vs = some us → zi0 (H ++ ext) vs = some us := by
 intro vs
 induction vs with
 | nil => intro us h; exact h
 | cons v vs ih =>
   intro us h
   unfold zi0 at h ⊢
   cases h1 : q34 H v with
   | none => rw [h1] at h; cases h
   | some a =>
     cases h2 : zi0 H vs with
     | none => rw [h1, h2] at h; cases h
     | some b => rw [h1, h2] at h; rw [qy4 ext h1, ih h2]; exact h
theorem ju9 {H : Heap} (ext : Heap) {v : HV} {u : CV} (h : thaw H v = some u) : thaw (H ++ ext) v = some u := by
 unfold thaw at h ⊢
 split at h
 · rename_i f first cap
   cases h1 : zi0 H first with
   | none => rw [h1] at h; cases h
   | some a =>
     cases h2 : zi0 H cap with
     | none => rw [h1, h2] at h; cases h
     | some b => rw [h1, h2] at h; rw [qk6 ext h1, qk6 ext h2]; exact h
 · exact qy4 ext h
theorem qw4 {H : Heap} (ext : Heap) : ∀ {vs us : List HV}, z24 H vs = some us → z24 (H ++ ext) vs = some us := by
 intro vs
 induction vs with
 | nil => intro us h; exact h
 | cons v vs ih =>
   intro us h
   unfold z24 at h ⊢
   cases h1 : thaw H v with
   | none => rw [h1] at h; cases h
   | some a =>
     cases h2 : z24 H vs with
     | none => rw [h1, h2] at h; cases h
     | some b => rw [h1, h2] at h; rw [ju9 ext h1, ih h2]; exact h
section
variable {E : Env} {call : z27}
theorem qv2 {f : Nat} {args : List HV} {H H' : Heap} {v : HV} (hm : E.md f = .P) (h : z19 E call f args H = some (v, H')) (hn : noRef v = true ∨ args.all isC = true) :
 H' = H ∧ ∀ ext, z19 E call f args (H ++ ext) = some (v, H ++ ext) := by
 unfold z19 at h
 rw [hm] at h
 dsimp only at h
 cases ha : z24 H args with
 | none => rw [ha] at h; cases h
 | some a5 =>
   rw [ha] at h
   dsimp only at h
   cases hc : call f a5 [] with
   | none => rw [hc] at h; cases h
   | some p =>
     obtain ⟨r, H1⟩ := p
     rw [hc] at h
     dsimp only at h
     cases hr : zo2 H1 r with
     | none => rw [hr] at h; cases h
     | some r' =>
       rw [hr] at h
       dsimp only at h
       have hv : v = r' := by
        split at h
        · injection h with h; injection h with h1 h2; exact h1.symm
        · split at h
          · injection h with h; injection h with h1 h2; exact h1.symm
          · cases h
       subst hv
       have hcond : (args.all isC || noRef v) = true := by
        rcases hn with hn | hn
        · simp [hn]
        · simp [hn]
       rw [if_pos hcond] at h
       injection h with h
       injection h with h1 h2
       refine ⟨h2.symm, fun ext => ?_⟩
       unfold z19
       rw [hm]
       dsimp only
       rw [qw4 ext ha]
       dsimp only
       rw [hc]
       dsimp only
       rw [hr]
       dsimp only
       rw [if_pos hcond]
theorem ju2 {o : IOp} {dst : Option Nat} {fr fr1 : Fr} {H H1 : Heap} (hb : ∀ fz e ek z n ps, o ≠ .bsl fz e ek z n ps) (h : doD E call .pure o dst fr H = some (fr1, H1)) :
 H1 = H ∧ ∃ r, fr1 = fr.setD dst r ∧ (∀ b off, r.2 = some (b, off) → ∃ t ∈ zj7 o.opds, ∃ off, fr.place (.t t) = some (b, off)) ∧ ∀ fr', Agr (zj7 o.opds) fr fr' → ∀ H', doD E call .pure o dst fr' H' = some (fr'.setD dst r, H') := by
 cases o
 case mv x | faddr off x | nck x =>
  simp only [doD, zk1, z02, if_true, zx3] at h
  (repeat' split at h) <;> first
    | (cases h; done)
    | (injection h with hh; injection hh with z1 z2; subst z1; subst z2; (first | refine ⟨rfl, _, za4 _ _ _, fun _ _ q => (by cases q), fun fr' ha H' => ?_⟩ | refine ⟨rfl, _, qd7 _ _ _ _, fun _ _ q => (by injection q with q; injection q with q1 q2; subst q1; exact q02 (x := x) (by simp [IOp.opds]) (by assumption)), fun fr' ha H' => ?_⟩); have hop := z39 ha; simp_all [doD, z02, zk1, IOp.opds, za4, zx3, qd7])
 case un | bin | eqs | eqb | pick | fld | cvs | fbox | six | len | ext | isn | cvt | mx =>
  simp only [doD, zk1, z02, if_true] at h
  (repeat' split at h) <;> first
    | (cases h; done)
    | (injection h with hh; injection hh with z1 z2; subst z1; subst z2; refine ⟨rfl, _, za4 _ _ _, fun _ _ q => (by cases q), fun fr' ha H' => ?_⟩; have hop := z39 ha; simp_all [doD, z02, zk1, IOp.opds, za4, zx3, qd7])
 case build z ps =>
  simp only [doD, zk1, z02, if_true] at h
  split at h
  · rename_i cs hf
    injection h with hh; injection hh with z1 z2; subst z1; subst z2
    refine ⟨rfl, _, za4 _ _ _, fun _ _ q => (by cases q), fun fr' ha H' => ?_⟩
    have hop := z39 ha
    have : (ps.map fun p => (p.1, p.2.1, fr'.opd p.2.2)) = (ps.map fun p => (p.1, p.2.1, fr.opd p.2.2)) :=
     List.map_congr_left fun p hp => by rw [(hop p.2.2 (by simp only [IOp.opds]; exact List.mem_map_of_mem hp)).1]
    simp only [doD, zk1, z02, if_true, this, hf, za4]
  · cases h
 case mkf f a5 bs =>
  simp only [doD, zk1, z02, if_true] at h
  injection h with hh; injection hh with z1 z2; subst z1; subst z2
  refine ⟨rfl, _, za4 _ _ _, fun _ _ q => (by cases q), fun fr' ha H' => ?_⟩
  have hop := z39 ha
  have h1 : a5.map fr'.opd = a5.map fr.opd := List.map_congr_left fun x hx => (hop x (by simp [IOp.opds, hx])).1
  have h2 : bs.map fr'.opd = bs.map fr.opd := List.map_congr_left fun x hx => (hop x (by simp [IOp.opds, hx])).1
  simp only [doD, zk1, z02, if_true, h1, h2, za4]
 case bsl fz e ek z n ps => exact absurd rfl (hb fz e ek z n ps)
 all_goals simp [doD, zk1] at h
theorem qm5 : ∀ {vs : List HV} {us : List CV}, z49 [] vs = some us → ∀ H, zh9 vs H = H := by
 intro vs
 induction vs with
 | nil => intro us h H; rfl
 | cons v vs ih =>
   intro us h H
   unfold z49 at h
   cases h1 : zf1 [] v with
   | none => rw [h1] at h; cases h
   | some a =>
     cases h2 : z49 [] vs with
     | none => rw [h1, h2] at h; cases h
     | some b =>
       cases v with
       | sl id ver off len => simp [zf1] at h1
       | _ => unfold zh9; exact ih h2 H
theorem qf3 {v : HV} {u : CV} (h : zb1 [] v = some u) (H : Heap) : zj0 v H = some (u, H) := by
 have h2 : zb1 H v = some u := by have := qx9 H h; simpa using this
 have h3 : frzV v H = H := by
  cases v with
  | sl id ver off len => simp [zb1, zf1] at h
  | agg cs =>
    show zh9 cs H = H
    unfold zb1 at h
    dsimp only at h
    cases h1 : z49 [] cs with
    | none => rw [h1] at h; cases h
    | some l => exact qm5 h1 H
  | iface t x =>
    cases x with
    | sl id ver off len => simp [zb1, zf1] at h
    | agg cs =>
      show zh9 cs H = H
      unfold zb1 at h
      dsimp only at h
      cases h1 : z49 [] cs with
      | none => rw [h1] at h; cases h
      | some l => exact qm5 h1 H
    | _ => rfl
  | _ => rfl
 unfold zj0
 split
 · simp [zb1, zf1] at h; rw [h]
 · rw [h2]; dsimp only; rw [h3]
theorem qy1 {ek : Option Nat} : ∀ (ps : List (Nat × HV)) (xs : List CV) (H : Heap) (ys : List CV) (H1 : Heap), (∀ p ∈ ps, (zb1 [] p.2).isSome = true) → z88 ek xs H ps = some (ys, H1) → H1 = H ∧ ∀ H', z88 ek xs H' ps = some (ys, H') := by
 intro ps
 induction ps with
 | nil =>
   intro xs H ys H1 _ h
   simp only [z88, Option.some.injEq, Prod.mk.injEq] at h
   obtain ⟨rfl, rfl⟩ := h
   exact ⟨rfl, fun _ => rfl⟩
 | cons p ps ih =>
   intro xs H ys H1 hp h
   obtain ⟨i, v⟩ := p
   obtain ⟨u, hu⟩ := Option.isSome_iff_exists.1 (hp (i, v) (by simp))
   unfold z88 at h
   rw [qf3 hu] at h
   dsimp only at h
   split at h
   · rename_i hc
     obtain ⟨k1, k2⟩ := ih _ _ _ _ (fun q hq => hp q (by simp [hq])) h
     refine ⟨k1, fun H' => ?_⟩
     unfold z88
     rw [qf3 hu]
     dsimp only
     rw [if_pos hc]
     exact k2 H'
   · cases h
theorem w64 {fz : Bool} {e : Nat} {ek : Option Nat} {z : List CV} {n : Nat} {ps : List (Nat × Opd)} {dst : Option Nat} {fr fr1 : Fr} {H H1 : Heap} (h : doD E call .pure (.bsl fz e ek z n ps) dst fr H = some (fr1, H1)) :
 H1 = H ∧ ∃ r, fr1 = fr.setD dst r ∧ (∀ b off, r.2 = some (b, off) → ∃ t ∈ zj7 (IOp.bsl fz e ek z n ps).opds, ∃ off, fr.place (.t t) = some (b, off)) ∧ ∀ fr', Agr (zj7 (IOp.bsl fz e ek z n ps).opds) fr fr' → ∀ H', doD E call .pure (.bsl fz e ek z n ps) dst fr' H' = some (fr'.setD dst r, H') := by
 simp only [doD] at h
 split at h
 · rename_i hc
   obtain ⟨rfl, hps⟩ := hc
   simp only [z02] at h
   cases hz : z45 ek z with
   | none => rw [hz] at h; cases h
   | some zz =>
     rw [hz] at h
     dsimp only at h
     split at h
     · rename_i hfit
       cases hf : z88 ek (List.replicate n zz) H (ps.map fun p => (p.1, fr.opd p.2)) with
       | none => rw [hf] at h; cases h
       | some q =>
         obtain ⟨ys, H2⟩ := q
         rw [hf] at h
         simp only [if_true] at h
         injection h with hh; injection hh with z1 z2; subst z1; subst z2
         obtain ⟨k1, k2⟩ := qy1 _ _ _ _ _ (by
          intro p hp
          obtain ⟨q, hq, rfl⟩ := List.mem_map.1 hp
          exact List.all_eq_true.1 hps q hq) hf
         refine ⟨k1, _, za4 _ _ _, fun _ _ q => (by cases q), fun fr' ha H' => ?_⟩
         have hop := z39 ha
         have e1 : (ps.map fun p => (p.1, fr'.opd p.2)) = (ps.map fun p => (p.1, fr.opd p.2)) :=
          List.map_congr_left fun p hp => by rw [(hop p.2 (by simp only [IOp.opds]; exact List.mem_map_of_mem hp)).1]
         have e2 : (ps.all fun p => (zb1 [] (fr'.opd p.2)).isSome) = true := by
          rw [List.all_eq_true] at hps ⊢
          intro p hp
          rw [(hop p.2 (by simp only [IOp.opds]; exact List.mem_map_of_mem hp)).1]
          exact hps p hp
         simp only [doD, e2, z02, e1, hz, hfit, k2 H', za4, if_true, and_self]
     · cases h
 · cases h
def HRel (c : Cls) (H H1 H' H1' : Heap) : Prop := match c with
 | .pure | .rdb | .wrb | .lb => H1' = H'
 | .rd => (∃ ext, H' = H ++ ext) ∧ H1' = H'
 | .wr | .hb => H' = H ∧ H1' = H1
def boxy : Cls → Bool
 | .rdb | .wrb => true
 | _ => false
def EffD (c : Cls) (R : List Nat) (dst : Option Nat) (fr : Fr) (H : Heap) (fr1 : Fr) (H1 : Heap) (step : Fr → Heap → Option (Fr × Heap)) : Prop :=
 ((c ≠ .wr → c ≠ .hb → H1 = H) ∧ (c = .hb → ∃ ext, H1 = H ++ ext)) ∧
 ∃ (r : HV × Option (Nat × Nat)) (bx : Option (Nat × HV)) (lb : Option Nat), (∀ b y, bx = some (b, y) → isB (fr.env b) = true ∧ isB y = true ∧ ∃ t ∈ R, ∃ off, fr.place (.t t) = some (b, off)) ∧ (c ≠ .wrb → bx = none) ∧ (bx ≠ none → dst = none) ∧
  (c ≠ .lb → lb = none) ∧ (c = .lb → lb = none → isB r.1 = false) ∧ (∀ d, lb = some d → dst = some d ∧ bx = none ∧ r.2 = none) ∧ (∀ b off, r.2 = some (b, off) → ∃ t ∈ R, ∃ off, fr.place (.t t) = some (b, off)) ∧ fr1 = fr.eff bx lb dst r ∧
  ∀ fr', Agr R fr fr' → AgrD dst fr fr' → (boxy c = true → AgrB R fr fr') → ∀ H' H1', HRel c H H1 H' H1' → step fr' H' = some (fr'.eff bx lb dst r, H1')
theorem EffD.mono {c : Cls} {R R' : List Nat} {dst : Option Nat} {fr fr1 : Fr} {H H1 : Heap} {step : Fr → Heap → Option (Fr × Heap)} (h : EffD c R dst fr H fr1 H1 step) (hR : ∀ t ∈ R, t ∈ R') : EffD c R' dst fr H fr1 H1 step := by
 obtain ⟨h1, r, bx, lb, h2, h3, h4, h5, hx, h6, h7, h8, h9⟩ := h
 exact ⟨h1, r, bx, lb, fun b y e => ⟨(h2 b y e).1, (h2 b y e).2.1, (h2 b y e).2.2.elim fun t q => ⟨t, hR t q.1, q.2⟩⟩, h3, h4, h5, hx, h6, fun b off e => (h7 b off e).elim fun t q => ⟨t, hR t q.1, q.2⟩, h8,
  fun fr' ha hd hab => h9 fr' (fun t ht => ha t (hR t ht)) hd (fun hc t ht => hab hc t (hR t ht))⟩
theorem zr1 {fr : Fr} {x : Opd} {b off : Nat} (h : fr.place x = some (b, off)) : isB (fr.env b) = true := by
 cases x with
 | k v => simp [Fr.place] at h
 | t i =>
   simp only [Fr.place] at h
   split at h
   · rename_i b' off' _
     split at h
     · rename_i he
       injection h with h; injection h with h1 h2; subst h1
       rw [he]; rfl
     · cases h
   · split at h
     · rename_i he
       injection h with h; injection h with h1 h2; subst h1
       rw [he]; rfl
     · cases h
theorem w63 {ek : Option Nat} {a : Opd} {dst : Option Nat} {fr fr1 : Fr} {H H1 : Heap} (h : doD E call .rdb (.load ek a) dst fr H = some (fr1, H1)) :
 EffD .rdb (zj7 (IOp.load ek a).opds) dst fr H fr1 H1 (doD E call .rdb (.load ek a) dst) := by
 simp only [doD] at h
 split at h
 · rename_i hp
   simp only [z02] at h
   cases hpl : fr.place a with
   | none => rw [hpl] at hp; cases hp
   | some q =>
     obtain ⟨b, off⟩ := q
     rw [hpl] at h
     dsimp only at h
     obtain ⟨ek', y, hb⟩ := qc2 (zr1 hpl)
     rw [hb] at h
     dsimp only at h
     split at h
     · rename_i v hv
       injection h with hh; injection hh with z1 z2; subst z1; subst z2
       refine ⟨⟨fun _ _ => rfl, fun h => by cases h⟩, (v, none), none, none, fun _ _ h => (by cases h), fun _ => rfl, fun h => absurd rfl h, fun _ => rfl, (fun h => by cases h), fun _ h => (by cases h), fun _ _ h => (by cases h), za4 _ _ _, ?_⟩
       intro fr' ha had hab H' H1' hr
       cases hr
       have hop := z39 ha a (by simp [IOp.opds])
       have he : fr'.env b = .lbox ek' y := by obtain ⟨t, ht, off', hp'⟩ := q02 (xs := (IOp.load ek a).opds) (x := a) (by simp [IOp.opds]) hpl; rw [← hab rfl t ht b off' hp']; exact hb
       simp only [doD, z02, hop.2, hpl, he, hv, za4, Option.isSome_some, if_true]
       rfl
     · cases h
 · cases h
theorem w83 {ek : Option Nat} {a x : Opd} {dst : Option Nat} {fr fr1 : Fr} {H H1 : Heap} (h : doD E call .wrb (.store ek a x) dst fr H = some (fr1, H1)) :
 EffD .wrb (zj7 (IOp.store ek a x).opds) dst fr H fr1 H1 (doD E call .wrb (.store ek a x) dst) := by
 simp only [doD] at h
 split at h
 · rename_i hp
   obtain ⟨hp, rfl⟩ := hp
   simp only [z02] at h
   cases hpl : fr.place a with
   | none => rw [hpl] at hp; cases hp
   | some q =>
     obtain ⟨b, off⟩ := q
     rw [hpl] at h
     dsimp only at h
     have hbb := zr1 hpl
     obtain ⟨ek', y, hb⟩ := qc2 hbb
     rw [hb] at h
     dsimp only at h
     split at h
     · rename_i hf
       split at h
       · rename_i hc
         injection h with hh; injection hh with z1 z2; subst z1; subst z2
         refine ⟨⟨fun _ _ => rfl, fun h => by cases h⟩, (.undef, none), some (b, .lbox ek' (fr.opd x)), none, fun b' y' h => by injection h with h; injection h with e1 e2; subst e1; subst e2; exact ⟨hbb, rfl, q02 (x := a) (by simp [IOp.opds]) hpl⟩, fun h => absurd rfl h, fun _ => rfl, fun _ => rfl, (fun h => by cases h), fun _ h => (by cases h), fun _ _ h => (by cases h), rfl, ?_⟩
         intro fr' ha had hab H' H1' hr
         cases hr
         have hop := z39 ha
         have h1 := hop a (by simp [IOp.opds])
         have h2 := hop x (by simp [IOp.opds])
         have he : fr'.env b = .lbox ek' y := by obtain ⟨t, ht, off', hp'⟩ := q02 (xs := (IOp.store ek a x).opds) (x := a) (by simp [IOp.opds]) hpl; rw [← hab rfl t ht b off' hp']; exact hb
         simp only [doD, z02, h1.2, hpl, he, h2.1, hf, Option.isSome_some, if_true, and_self]
         rw [if_pos hc]
         rfl
       · rename_i hc
         split at h
         · rename_i hl
           split at h
           · rename_i x' hu
             split at h
             · rename_i hf2
               injection h with hh; injection hh with z1 z2; subst z1; subst z2
               refine ⟨⟨fun _ _ => rfl, fun h => by cases h⟩, (.undef, none), some (b, .lbox ek' x'), none, fun b' y' h => by injection h with h; injection h with e1 e2; subst e1; subst e2; exact ⟨hbb, rfl, q02 (x := a) (by simp [IOp.opds]) hpl⟩, fun h => absurd rfl h, fun _ => rfl, fun _ => rfl, (fun h => by cases h), fun _ h => (by cases h), fun _ _ h => (by cases h), rfl, ?_⟩
               intro fr' ha had hab H' H1' hr
               cases hr
               have hop := z39 ha
               have h1 := hop a (by simp [IOp.opds])
               have h2 := hop x (by simp [IOp.opds])
               have he : fr'.env b = .lbox ek' y := by obtain ⟨t, ht, off', hp'⟩ := q02 (xs := (IOp.store ek a x).opds) (x := a) (by simp [IOp.opds]) hpl; rw [← hab rfl t ht b off' hp']; exact hb
               simp only [doD, z02, h1.2, hpl, he, h2.1, hf, Option.isSome_some, if_true, and_self]
               rw [if_neg hc, if_pos hl, hu]
               dsimp only
               rw [if_pos hf2]
               rfl
             · cases h
           · cases h
         · cases h
     · cases h
 · cases h
theorem jq9 {ek : Option Nat} {p v : HV} {H : Heap} (ext : Heap) (h : z78 ek p H = some v) : z78 ek p (H ++ ext) = some v := by
 unfold z78 at h ⊢
 split at h
 · exact h
 · rename_i id off
   cases hg : H[id]? with
   | none => rw [hg] at h; cases h
   | some x => rw [hg] at h; rw [q98 ext hg]; exact h
 · rename_i id ver i off
   cases hg : H[id]? with
   | none => rw [hg] at h; cases h
   | some x => rw [hg] at h; rw [q98 ext hg]; exact h
 · cases h
theorem w48 {ek : Option Nat} {p v : HV} {n : Int} {H : Heap} (ext : Heap) (h : ixH ek p n H = some v) : ixH ek p n (H ++ ext) = some v := by
 unfold ixH at h ⊢
 split at h
 · exact h
 · rename_i id ver off len
   cases hg : H[id]? with
   | none => rw [hg] at h; cases h
   | some x => rw [hg] at h; rw [q98 ext hg]; exact h
 · cases h
theorem jw5 {st : Bool} {ek : Option Nat} {p v : HV} {lo hi : Option Int} {H : Heap} (ext : Heap) (h : slcH st ek p lo hi H = some v) : slcH st ek p lo hi (H ++ ext) = some v := by
 unfold slcH at h ⊢
 split at h
 · exact h
 · exact h
 · exact h
 · rename_i id ver off len
   cases hg : H[id]? with
   | none => rw [hg] at h; cases h
   | some x => rw [hg] at h; rw [q98 ext hg]; exact h
 · cases h
theorem j60 {fr fr' : Fr} {o : Option Opd} (h : ∀ x, o = some x → fr'.opd x = fr.opd x) : optI fr' o = optI fr o := by
 cases o with
 | none => rfl
 | some x => unfold optI; dsimp only; rw [h x rfl]
theorem zn9 {c : Cls} {R : List Nat} {dst : Option Nat} {fr : Fr} {H H1 : Heap} {v : HV} {step : Fr → Heap → Option (Fr × Heap)} (hv : c = .lb → isB v = false) (hm : (c ≠ .wr → c ≠ .hb → H1 = H) ∧ (c = .hb → ∃ ext, H1 = H ++ ext)) (h : ∀ fr', Agr R fr fr' → (boxy c = true → AgrB R fr fr') → ∀ H' H1', HRel c H H1 H' H1' → step fr' H' = some (fr'.put dst v, H1')) : EffD c R dst fr H (fr.put dst v) H1 step := by
 refine ⟨hm, (v, none), none, none, fun _ _ h => (by cases h), fun _ => rfl, fun h => absurd rfl h, fun _ => rfl, (fun h _ => hv h), fun _ h => (by cases h), fun _ _ h => (by cases h), za4 _ _ _, ?_⟩
 intro fr' ha had hab H' H1' hr
 rw [h fr' ha hab H' H1' hr, za4]
 rfl
theorem w96 {o : IOp} {dst : Option Nat} {fr fr1 : Fr} {H H1 : Heap} (h : doD E call .lb o dst fr H = some (fr1, H1)) : EffD .lb (zj7 o.opds) dst fr H fr1 H1 (doD E call .lb o dst) := by
 cases o with
 | lbox ek x =>
   cases dst with
   | none => simp [doD, z02] at h
   | some d =>
     simp only [doD, z02] at h
     split at h
     · rename_i hf
       injection h with hh; injection hh with z1 z2; subst z1; subst z2
       refine ⟨⟨fun _ _ => rfl, fun h => by cases h⟩, (.lbox ek (fr.opd x), none), none, some d, fun _ _ h => (by cases h), fun _ => rfl, fun h => absurd rfl h, fun h => absurd rfl h, (fun _ h => by cases h), fun d' h => (by injection h with h; subst h; exact ⟨rfl, rfl, rfl⟩), fun _ _ h => (by cases h), ?_, ?_⟩
       · simp only [Fr.eff, Fr.setB, Fr.unl, Fr.setD]
         congr 1
         funext t
         simp only [upd, unlink]
         split <;> rfl
       · intro fr' ha had hab H' H1' hr
         cases hr
         have hop := z39 ha x (by simp [IOp.opds])
         simp only [doD, z02, hop.1, hf, if_true, Fr.eff, Fr.setB, Fr.unl, Fr.setD]
         congr 3
         funext t
         simp only [upd, unlink]
         split <;> rfl
     · cases h
 | _ => simp [doD] at h
theorem wg9 {o : IOp} {dst : Option Nat} {fr fr1 : Fr} {H H1 : Heap} (h : doD E call .rd o dst fr H = some (fr1, H1)) : EffD .rd (zj7 o.opds) dst fr H fr1 H1 (doD E call .rd o dst) := by
 cases o with
 | load ek a =>
   simp only [doD] at h
   split at h
   · cases h
   · rename_i hp
     simp only [z02] at h
     cases hpl : fr.place a with
     | some q => rw [hpl] at hp; simp at hp
     | none =>
       rw [hpl] at h
       dsimp only at h
       cases hl : z78 ek (fr.opd a) H with
       | none => rw [hl] at h; cases h
       | some v =>
         rw [hl] at h
         injection h with hh; injection hh with z1 z2; subst z1; subst z2
         refine zn9 (fun h => by cases h) ⟨fun _ _ => rfl, fun h => by cases h⟩ fun fr' ha hab H' H1' hr => ?_
         obtain ⟨⟨ext, rfl⟩, rfl⟩ := hr
         have hop := z39 ha a (by simp [IOp.opds])
         simp only [doD, z02, hop.2, hop.1, hpl, jq9 ext hl]
         rfl
 | ix ek x i =>
   simp only [doD, z02] at h
   cases hi : q10 (fr.opd i) with
   | none => rw [hi] at h; cases h
   | some n =>
     rw [hi] at h
     dsimp only at h
     cases hl : ixH ek (fr.opd x) n H with
     | none => rw [hl] at h; cases h
     | some v =>
       rw [hl] at h
       injection h with hh; injection hh with z1 z2; subst z1; subst z2
       refine zn9 (fun h => by cases h) ⟨fun _ _ => rfl, fun h => by cases h⟩ fun fr' ha hab H' H1' hr => ?_
       obtain ⟨⟨ext, rfl⟩, rfl⟩ := hr
       have hop := z39 ha
       simp only [doD, z02, (hop x (by simp [IOp.opds])).1, (hop i (by simp [IOp.opds])).1, hi, w48 ext hl]
 | slc st ek x lo hi =>
   simp only [doD, z02] at h
   cases h1 : optI fr lo with
   | none => rw [h1] at h; cases h
   | some l =>
     cases h2 : optI fr hi with
     | none => rw [h1, h2] at h; cases h
     | some u =>
       rw [h1, h2] at h
       dsimp only at h
       cases hl : slcH st ek (fr.opd x) l u H with
       | none => rw [hl] at h; cases h
       | some v =>
         rw [hl] at h
         injection h with hh; injection hh with z1 z2; subst z1; subst z2
         refine zn9 (fun h => by cases h) ⟨fun _ _ => rfl, fun h => by cases h⟩ fun fr' ha hab H' H1' hr => ?_
         obtain ⟨⟨ext, rfl⟩, rfl⟩ := hr
         have hop := z39 ha
         have e1 : optI fr' lo = optI fr lo := j60 fun y hy => (hop y (by simp [IOp.opds, hy])).1
         have e2 : optI fr' hi = optI fr hi := j60 fun y hy => (hop y (by simp [IOp.opds, hy])).1
         simp only [doD, z02, (hop x (by simp [IOp.opds])).1, e1, e2, h1, h2, jw5 ext hl]
 | call f args =>
   simp only [doD] at h
   split at h
   · rename_i hm
     cases hc : z19 E call f (args.map fr.opd) H with
     | none => rw [hc] at h; cases h
     | some p =>
       obtain ⟨v, H2⟩ := p
       rw [hc] at h
       dsimp only at h
       split at h
       · rename_i hn
         injection h with hh; injection hh with z1 z2; subst z1; subst z2
         refine zn9 (fun h => by cases h) ⟨fun _ _ => rfl, fun h => by cases h⟩ fun fr' ha hab H' H1' hr => ?_
         obtain ⟨⟨ext, rfl⟩, rfl⟩ := hr
         have hop := z39 ha
         have e1 : args.map fr'.opd = args.map fr.opd := List.map_congr_left fun x hx => (hop x (by simp [IOp.opds, hx])).1
         have := (qv2 hm hc hn).2 ext
         simp only [doD, e1, this, hm, if_true]
         rw [if_pos hn]
       · cases h
   · cases h
 | _ => simp [doD] at h
theorem wb8 {o : IOp} {dst : Option Nat} {fr fr1 : Fr} {H H1 : Heap} (h : doD E call .hb o dst fr H = some (fr1, H1)) : EffD .hb (zj7 o.opds) dst fr H fr1 H1 (doD E call .hb o dst) := by
 cases o with
 | hbox ek x =>
   simp only [doD, z02] at h
   split at h
   · rename_i hf
     injection h with hh; injection hh with z1 z2; subst z1; subst z2
     refine zn9 (fun h => by cases h) ⟨fun _ h => absurd rfl h, fun _ => ⟨_, rfl⟩⟩ fun fr' ha hab H' H1' hr => ?_
     obtain ⟨rfl, rfl⟩ := hr
     have hop := z39 ha x (by simp [IOp.opds])
     simp only [doD, z02, hop.1, hf, if_true]
   · cases h
 | _ => simp [doD] at h
theorem wb4 {o : IOp} {dst : Option Nat} {fr fr1 : Fr} {H H1 : Heap} (h : doD E call .wr o dst fr H = some (fr1, H1)) : EffD .wr (zj7 o.opds) dst fr H fr1 H1 (doD E call .wr o dst) := by
 have hm : (Cls.wr ≠ .wr → Cls.wr ≠ .hb → H1 = H) ∧ (Cls.wr = .hb → ∃ ext, H1 = H ++ ext) := ⟨fun h => absurd rfl h, fun h => by cases h⟩
 cases o with
 | store ek a x =>
   simp only [doD] at h
   split at h
   · cases h
   · rename_i hp
     have hdst : dst = none := by
      cases dst with
      | none => rfl
      | some d => exact absurd (.inr (by simp)) hp
     subst hdst
     simp only [z02] at h
     cases hpl : fr.place a with
     | some q => rw [hpl] at hp; simp at hp
     | none =>
       rw [hpl] at h
       dsimp only at h
       cases hl : zn6 ek (fr.opd a) (fr.opd x) H with
       | none => rw [hl] at h; cases h
       | some H2 =>
         rw [hl] at h
         injection h with hh; injection hh with z1 z2; subst z1; subst z2
         refine ⟨hm, (.undef, none), none, none, fun _ _ h => (by cases h), fun _ => rfl, fun h => absurd rfl h, fun _ => rfl, (fun h => by cases h), fun _ h => (by cases h), fun _ _ h => (by cases h), rfl, ?_⟩
         intro fr' ha had hab H' H1' hr
         obtain ⟨rfl, rfl⟩ := hr
         have hop := z39 ha
         have h1 := hop a (by simp [IOp.opds])
         have h2 := hop x (by simp [IOp.opds])
         simp only [doD, z02, h1.1, h1.2, h2.1, hpl, hl]
         simp [Fr.setB, Fr.setD, Fr.eff, Fr.unl]
 | app e ek n s x =>
   simp only [doD, z02] at h
   cases hl : appH e ek n (fr.opd s) (fr.opd x) H with
   | none => rw [hl] at h; cases h
   | some q =>
     rw [hl] at h
     injection h with hh; injection hh with z1 z2; subst z1; subst z2
     refine zn9 (fun h => by cases h) hm fun fr' ha hab H' H1' hr => ?_
     obtain ⟨rfl, rfl⟩ := hr
     have hop := z39 ha
     simp only [doD, z02, (hop s (by simp [IOp.opds])).1, (hop x (by simp [IOp.opds])).1, hl]
 | bsl fz e ek z n ps =>
   simp only [doD, z02] at h
   cases hz : z45 ek z with
   | none => rw [hz] at h; cases h
   | some zz =>
     rw [hz] at h
     dsimp only at h
     split at h
     · rename_i hfit
       cases hf : z88 ek (List.replicate n zz) H (ps.map fun p => (p.1, fr.opd p.2)) with
       | none => rw [hf] at h; cases h
       | some q =>
         obtain ⟨ys, H2⟩ := q
         rw [hf] at h
         dsimp only at h
         have e1 : ∀ fr', Agr (zj7 (IOp.bsl fz e ek z n ps).opds) fr fr' → (ps.map fun p => (p.1, fr'.opd p.2)) = (ps.map fun p => (p.1, fr.opd p.2)) :=
          fun fr' ha => List.map_congr_left fun p hp => by rw [(z39 ha p.2 (by simp only [IOp.opds]; exact List.mem_map_of_mem hp)).1]
         split at h
         · rename_i hfz
           injection h with hh; injection hh with z1 z2; subst z1; subst z2
           refine zn9 (fun h => by cases h) hm fun fr' ha hab H' H1' hr => ?_
           obtain ⟨rfl, rfl⟩ := hr
           simp only [doD, z02, hz, hfit, e1 fr' ha, hf, hfz, if_true]
         · rename_i hfz
           injection h with hh; injection hh with z1 z2; subst z1; subst z2
           refine zn9 (fun h => by cases h) hm fun fr' ha hab H' H1' hr => ?_
           obtain ⟨rfl, rfl⟩ := hr
           simp only [doD, z02, hz, hfit, e1 fr' ha, hf, if_true]
           rw [if_neg hfz]
     · cases h
 | call f args =>
   simp only [doD, doOp, ze4] at h
   cases hc : z19 E call f (args.map fr.opd) H with
   | none => rw [hc] at h; cases h
   | some p =>
     obtain ⟨v, H2⟩ := p
     rw [hc] at h
     injection h with hh; injection hh with z1 z2; subst z1; subst z2
     refine zn9 (fun h => by cases h) hm fun fr' ha hab H' H1' hr => ?_
     obtain ⟨rfl, rfl⟩ := hr
     have hop := z39 ha
     have e1 : args.map fr'.opd = args.map fr.opd := List.map_congr_left fun x hx => (hop x (by simp [IOp.opds, hx])).1
     simp only [doD, doOp, ze4, e1, hc]
 | callv x args =>
   simp only [doD, doOp, ze4] at h
   cases ht : zt4 (fr.opd x) (args.map fr.opd) with
   | none => rw [ht] at h; cases h
   | some q =>
     rw [ht] at h
     dsimp only at h
     cases hc : z19 E call q.1 q.2 H with
     | none => rw [hc] at h; cases h
     | some p =>
       obtain ⟨v, H2⟩ := p
       rw [hc] at h
       injection h with hh; injection hh with z1 z2; subst z1; subst z2
       refine zn9 (fun h => by cases h) hm fun fr' ha hab H' H1' hr => ?_
       obtain ⟨rfl, rfl⟩ := hr
       have hop := z39 ha
       have e1 : args.map fr'.opd = args.map fr.opd := List.map_congr_left fun x hx => (hop x (by simp [IOp.opds, hx])).1
       simp only [doD, doOp, ze4, e1, (hop x (by simp [IOp.opds])).1, ht, hc]
 | _ => simp [doD] at h
theorem jo0 {c : Cls} {o : IOp} {dst : Option Nat} {fr fr1 : Fr} {H H1 : Heap} (h : doD E call c o dst fr H = some (fr1, H1)) : EffD c (zj7 o.opds) dst fr H fr1 H1 (doD E call c o dst) := by
 cases c with
 | pure =>
   have key : H1 = H ∧ ∃ r, fr1 = fr.setD dst r ∧ (∀ b off, r.2 = some (b, off) → ∃ t ∈ zj7 o.opds, ∃ off, fr.place (.t t) = some (b, off)) ∧ ∀ fr', Agr (zj7 o.opds) fr fr' → ∀ H', doD E call .pure o dst fr' H' = some (fr'.setD dst r, H') := by
    cases o with
    | bsl fz e ek z n ps => exact w64 h
    | _ => exact ju2 (by intros; simp) h
   obtain ⟨k1, r, k2, kl, k3⟩ := key
   refine ⟨⟨fun _ _ => k1, fun h => by cases h⟩, r, none, none, fun _ _ h => (by cases h), fun _ => rfl, fun h => absurd rfl h, fun _ => rfl, (fun h => by cases h), fun _ h => (by cases h), kl, k2, ?_⟩
   intro fr' ha had hab H' H1' hr
   cases hr
   exact k3 fr' ha H'
 | rdb => cases o <;> first | exact w63 h | simp [doD] at h
 | wrb => cases o <;> first | exact w83 h | simp [doD] at h
 | rd => exact wg9 h
 | wr => exact wb4 h
 | hb => exact wb8 h
 | lb => exact w96 h
end
end Go.Proofs.Lz
