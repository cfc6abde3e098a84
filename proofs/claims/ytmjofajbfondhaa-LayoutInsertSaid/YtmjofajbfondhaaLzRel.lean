/- What the evaluator's values stand for in the model's memory. -/
import Derived.Test.YtmjofajbfondhaaLzOm
import Derived.Below
import Derived.Deep.MidRow
import Derived.Laws.AppendOwn
set_option linter.unusedVariables false
namespace Go.Proofs.Lz

def Shape : Option Nat → Value → Prop
  | none, v => v.oneCell' = true
  | some n, v => ∃ vs : List Value, v = .agg vs.toArray ∧ vs.length = n ∧ ∀ u ∈ vs, u.oneCell' = true

mutual
/-- A closed value: what it leads to lies in blocks of F, which nothing writes. -/
def RC (w : World) (F : Nat → Prop) : CV → Value → Prop
  | .bool b, v => v = .bool b
  | .int k n, v => v = .int k n
  | .str s, v => v = .string ⟨s.toArray⟩
  | .agg cs, v => ∃ vs : List Value, v = .agg vs.toArray ∧ RCs w F cs vs ∧ ∀ u ∈ vs, u.oneCell' = true
  | .frz ek xs, v => ∃ a cap, v = .slice a xs.length cap ∧ xs.length ≤ cap ∧ (xs ≠ [] → ∃ b off vs, a = some ⟨b, off, none⟩ ∧ F b ∧ w.rangeAt b off vs ∧ RRow w F ek xs vs)
  | .fptr ek x off, v => ∃ b o u, v = .pointer (some ⟨b, o + off, none⟩) ∧ F b ∧ Shape ek u ∧ w.rangeAt b o u.cells.toList ∧ RC w F x u
  | .fn f first cap, v => ∃ vs us : List Value, v = .func (.func f) vs.toArray us.toArray ∧ RCs w F first vs ∧ RCs w F cap us
  | .iface t x, v => ∃ u, v = .iface t u ∧ RC w F x u
  | .nili, v => v = .nilIface
  | .nilp, v => v = .pointer none
  | .nilfn, v => v = .nilFunc
def RCs (w : World) (F : Nat → Prop) : List CV → List Value → Prop
  | [], vs => vs = []
  | c :: r, vs => ∃ v us, vs = v :: us ∧ RC w F c v ∧ RCs w F r us
/-- A row's elements, cell by cell. -/
def RRow (w : World) (F : Nat → Prop) (ek : Option Nat) : List CV → List Value → Prop
  | [], vs => vs = []
  | c :: r, vs => ∃ v us, vs = v.cells.toList ++ us ∧ Shape ek v ∧ RC w F c v ∧ RRow w F ek r us
end

/-- What was frozen stays as it is. -/
def Keeps (F F' : Nat → Prop) (w w' : World) : Prop := (∀ b, F b → F' b) ∧ ∀ b, F b → w'.heap[b]? = w.heap[b]?
theorem Keeps.refl (F : Nat → Prop) (w : World) : Keeps F F w w := ⟨fun _ h => h, fun _ _ => rfl⟩
theorem Keeps.trans {F F' F'' : Nat → Prop} {w w' w'' : World} (h : Keeps F F' w w') (k : Keeps F' F'' w' w'') : Keeps F F'' w w'' :=
  ⟨fun b hb => k.1 b (h.1 b hb), fun b hb => (k.2 b (h.1 b hb)).trans (h.2 b hb)⟩
theorem rangeAt_keep {w w' : World} {b o : Nat} {vs : List Value} (h : w.rangeAt b o vs) (hb : w'.heap[b]? = w.heap[b]?) : w'.rangeAt b o vs := by
  intro j v hv
  rw [World.cell?_of_block (w := w) (a := ⟨b, o + j, none⟩) hb]
  exact h j v hv

mutual
theorem RC.keep {w w' : World} {F F' : Nat → Prop} (k : Keeps F F' w w') : ∀ (x : CV) (v : Value), RC w F x v → RC w' F' x v
  | .bool _, _, h => by unfold RC at h ⊢; exact h
  | .int _ _, _, h => by unfold RC at h ⊢; exact h
  | .str _, _, h => by unfold RC at h ⊢; exact h
  | .agg cs, _, h => by
    unfold RC at h ⊢
    obtain ⟨vs, h1, h2, h3⟩ := h
    exact ⟨vs, h1, RCs.keep k cs vs h2, h3⟩
  | .frz ek xs, _, h => by
    unfold RC at h ⊢
    obtain ⟨a, cap, h1, hc, h2⟩ := h
    refine ⟨a, cap, h1, hc, fun hne => ?_⟩
    obtain ⟨b, off, vs, e, hF, hr, hrow⟩ := h2 hne
    exact ⟨b, off, vs, e, k.1 b hF, rangeAt_keep hr (k.2 b hF), RRow.keep k ek xs vs hrow⟩
  | .fptr ek x off, _, h => by
    unfold RC at h ⊢
    obtain ⟨b, o, u, h1, hF, hs, hr, hx⟩ := h
    exact ⟨b, o, u, h1, k.1 b hF, hs, rangeAt_keep hr (k.2 b hF), RC.keep k x u hx⟩
  | .fn f first cap, _, h => by
    unfold RC at h ⊢
    obtain ⟨vs, us, h1, h2, h3⟩ := h
    exact ⟨vs, us, h1, RCs.keep k first vs h2, RCs.keep k cap us h3⟩
  | .iface t x, _, h => by
    unfold RC at h ⊢
    obtain ⟨u, h1, h2⟩ := h
    exact ⟨u, h1, RC.keep k x u h2⟩
  | .nili, _, h => by unfold RC at h ⊢; exact h
  | .nilp, _, h => by unfold RC at h ⊢; exact h
  | .nilfn, _, h => by unfold RC at h ⊢; exact h
theorem RCs.keep {w w' : World} {F F' : Nat → Prop} (k : Keeps F F' w w') : ∀ (xs : List CV) (vs : List Value), RCs w F xs vs → RCs w' F' xs vs
  | [], _, h => by unfold RCs at h ⊢; exact h
  | c :: r, _, h => by
    unfold RCs at h ⊢
    obtain ⟨v, us, h1, h2, h3⟩ := h
    exact ⟨v, us, h1, RC.keep k c v h2, RCs.keep k r us h3⟩
theorem RRow.keep {w w' : World} {F F' : Nat → Prop} (k : Keeps F F' w w') (ek : Option Nat) : ∀ (xs : List CV) (vs : List Value), RRow w F ek xs vs → RRow w' F' ek xs vs
  | [], _, h => by unfold RRow at h ⊢; exact h
  | c :: r, _, h => by
    unfold RRow at h ⊢
    obtain ⟨v, us, h1, h2, h3, h4⟩ := h
    exact ⟨v, us, h1, h2, RC.keep k c v h3, RRow.keep k ek r us h4⟩
end

/-- Where a live thing lies: its block; for a row its elements' type and how many there is room for. -/
structure Loc where
  blk : Nat
  cap : Nat
abbrev LMap := Nat → Loc

mutual
def RH (w : World) (F : Nat → Prop) (H : Heap) (m : LMap) : HV → Value → Prop
  | .c v, u => RC w F v u
  | .agg cs, u => ∃ vs : List Value, u = .agg vs.toArray ∧ RHs w F H m cs vs ∧ ∀ x ∈ vs, x.oneCell' = true
  | .tup cs, u => ∃ vs : List Value, u = .tuple vs.toArray ∧ RHs w F H m cs vs
  | .nils, u => u = .slice none 0 0
  | .sl id ver off len, u => ∃ ad cap, u = .slice (some ad) len cap ∧ (∃ fz e ek ver' xs, H[id]? = some (.row fz e ek ver' xs) ∧ ver ≤ ver') ∧
      ∀ fz e ek xs, H[id]? = some (.row fz e ek ver xs) → off + len ≤ xs.length ∧ off + cap = (m id).cap ∧ len ≤ cap ∧ (cap ≠ 0 ∨ off = 0 → ad = ⟨(m id).blk, off * ekSize ek, none⟩)
  | .ptr id off, u => u = .pointer (some ⟨(m id).blk, off, none⟩) ∧ ∃ ek cs, H[id]? = some (.var ek cs)
  | .eptr id ver i off, u => ∃ ad, u = .pointer (some ad) ∧ (∃ fz e ek ver' xs, H[id]? = some (.row fz e ek ver' xs) ∧ ver ≤ ver') ∧
      ∀ fz e ek xs, H[id]? = some (.row fz e ek ver xs) → ad = ⟨(m id).blk, i * ekSize ek + off, none⟩
  | .lbox _ _, _ => False
  | .fn f first cap, u => ∃ vs us : List Value, u = .func (.func f) vs.toArray us.toArray ∧ RHs w F H m first vs ∧ RHs w F H m cap us
  | .iface t x, u => ∃ y, u = .iface t y ∧ RH w F H m x y
  | .skipv, u => u = .tuple #[]
  | .undef, _ => True
def RHs (w : World) (F : Nat → Prop) (H : Heap) (m : LMap) : List HV → List Value → Prop
  | [], vs => vs = []
  | c :: r, vs => ∃ v us, vs = v :: us ∧ RH w F H m c v ∧ RHs w F H m r us
end

/-- How memory may go on: live things stay, rows go on by versions. -/
structure Grows (F F' : Nat → Prop) (H H' : Heap) (m m' : LMap) (w w' : World) : Prop where
  keeps : Keeps F F' w w'
  var : ∀ (id : Nat) (ek : Option Nat) (cs : List HV), H[id]? = some (.var ek cs) → (m' id).blk = (m id).blk ∧ ∃ cs', H'[id]? = some (.var ek cs') ∧ cs'.length = cs.length
  row : ∀ (id : Nat) (fz : Bool) (e : Nat) (ek : Option Nat) (ver : Nat) (xs : List CV), H[id]? = some (.row fz e ek ver xs) → ∃ fz' ver' xs', H'[id]? = some (.row fz' e ek ver' xs') ∧ ver ≤ ver' ∧ (ver' = ver → m' id = m id ∧ xs'.length = xs.length)

theorem Grows.refl (F : Nat → Prop) (H : Heap) (m : LMap) (w : World) : Grows F F H H m m w w :=
  ⟨Keeps.refl F w, fun _ _ cs h => ⟨rfl, cs, h, rfl⟩, fun _ fz e ek ver xs h => ⟨fz, ver, xs, h, Nat.le_refl _, fun _ => ⟨rfl, rfl⟩⟩⟩
theorem Grows.trans {F F' F'' : Nat → Prop} {H H' H'' : Heap} {m m' m'' : LMap} {w w' w'' : World} (h : Grows F F' H H' m m' w w') (k : Grows F' F'' H' H'' m' m'' w' w'') : Grows F F'' H H'' m m'' w w'' := by
  refine ⟨h.keeps.trans k.keeps, ?_, ?_⟩
  · intro id ek cs hc
    obtain ⟨h1, cs', h2, h3⟩ := h.var id ek cs hc
    obtain ⟨k1, cs'', k2, k3⟩ := k.var id ek cs' h2
    exact ⟨k1.trans h1, cs'', k2, k3.trans h3⟩
  · intro id fz e ek ver xs hc
    obtain ⟨fz', ver', xs', h1, h2, h3⟩ := h.row id fz e ek ver xs hc
    obtain ⟨fz'', ver'', xs'', k1, k2, k3⟩ := k.row id fz' e ek ver' xs' h1
    refine ⟨fz'', ver'', xs'', k1, by omega, fun hv => ?_⟩
    obtain ⟨k4, k5⟩ := k3 (by omega)
    obtain ⟨h4, h5⟩ := h3 (by omega)
    exact ⟨k4.trans h4, k5.trans h5⟩

mutual
theorem RH.grow {F F' : Nat → Prop} {H H' : Heap} {m m' : LMap} {w w' : World} (g : Grows F F' H H' m m' w w') : ∀ (x : HV) (v : Value), RH w F H m x v → RH w' F' H' m' x v
  | .c x, v, h => by unfold RH at h ⊢; exact RC.keep g.keeps x v h
  | .agg cs, _, h => by
    unfold RH at h ⊢
    obtain ⟨vs, h1, h2, h3⟩ := h
    exact ⟨vs, h1, RHs.grow g cs vs h2, h3⟩
  | .tup cs, _, h => by
    unfold RH at h ⊢
    obtain ⟨vs, h1, h2⟩ := h
    exact ⟨vs, h1, RHs.grow g cs vs h2⟩
  | .nils, _, h => by unfold RH at h ⊢; exact h
  | .sl id ver off len, _, h => by
    unfold RH at h ⊢
    obtain ⟨ad, cap, h1, ⟨fz, e, ek, ver', xs, hH, hv⟩, h3⟩ := h
    obtain ⟨fz', ver'', xs', hH', hv', hsame⟩ := g.row id fz e ek ver' xs hH
    refine ⟨ad, cap, h1, ⟨fz', e, ek, ver'', xs', hH', by omega⟩, ?_⟩
    intro fz1 e1 ek1 xs1 h4
    rw [hH'] at h4
    injection h4 with h4
    injection h4 with q1 q2 q3 q4 q5
    subst q4
    have hvv : ver' = ver'' := by omega
    subst hvv
    obtain ⟨hm, hl⟩ := hsame rfl
    obtain ⟨p1, p2, p3, p4⟩ := h3 fz e ek xs hH
    rw [hm]
    subst q3
    subst q5
    exact ⟨by omega, p2, p3, p4⟩
  | .ptr id off, _, h => by
    unfold RH at h ⊢
    obtain ⟨h1, ek, cs, h2⟩ := h
    obtain ⟨g1, cs', g2, _⟩ := g.var id ek cs h2
    rw [g1]
    exact ⟨h1, ek, cs', g2⟩
  | .eptr id ver i off, _, h => by
    unfold RH at h ⊢
    obtain ⟨ad, h1, ⟨fz, e, ek, ver', xs, hH, hv⟩, h3⟩ := h
    obtain ⟨fz', ver'', xs', hH', hv', hsame⟩ := g.row id fz e ek ver' xs hH
    refine ⟨ad, h1, ⟨fz', e, ek, ver'', xs', hH', by omega⟩, ?_⟩
    intro fz1 e1 ek1 xs1 h4
    rw [hH'] at h4
    injection h4 with h4
    injection h4 with q1 q2 q3 q4 q5
    subst q4
    have hvv : ver' = ver'' := by omega
    subst hvv
    obtain ⟨hm, hl⟩ := hsame rfl
    rw [hm, ← q3]
    exact h3 fz e ek xs hH
  | .lbox _ _, _, h => by unfold RH at h; exact h.elim
  | .fn f first cap, _, h => by
    unfold RH at h ⊢
    obtain ⟨vs, us, h1, h2, h3⟩ := h
    exact ⟨vs, us, h1, RHs.grow g first vs h2, RHs.grow g cap us h3⟩
  | .iface t x, _, h => by
    unfold RH at h ⊢
    obtain ⟨y, h1, h2⟩ := h
    exact ⟨y, h1, RH.grow g x y h2⟩
  | .skipv, _, h => by unfold RH at h ⊢; exact h
  | .undef, _, _ => by unfold RH; exact trivial
theorem RHs.grow {F F' : Nat → Prop} {H H' : Heap} {m m' : LMap} {w w' : World} (g : Grows F F' H H' m m' w w') : ∀ (xs : List HV) (vs : List Value), RHs w F H m xs vs → RHs w' F' H' m' xs vs
  | [], _, h => by unfold RHs at h ⊢; exact h
  | c :: r, _, h => by
    unfold RHs at h ⊢
    obtain ⟨v, us, h1, h2, h3⟩ := h
    exact ⟨v, us, h1, RH.grow g c v h2, RHs.grow g r us h3⟩
end
end Go.Proofs.Lz
