/- Appending, closing, literal rows, boxes, storing: what the state with slices as values gives, the evaluator gives. -/
import Derived.Test.YtmjofajbfondhaaLzWOps3
namespace Go.Proofs.Lz

/-- One slice in hand, with a row of its own. -/
theorem ownAt_own {b : Bool} {e : Nat} {ek : Option Nat} {xs : List CV} {i k : Nat} {o : Bool × Nat × Option Nat × List CV} (h : ownAt (.own b e ek xs) i k = some o) : i = 0 ∧ k = 0 ∧ o = (b, e, ek, xs) := by
  cases i with
  | zero =>
    cases k with
    | zero => simp only [ownAt, ownAtC, ownAt1, Option.some.injEq] at h; exact ⟨rfl, rfl, h.symm⟩
    | succ k => simp [ownAt, ownAtC] at h
  | succ i => simp [ownAt] at h
theorem set_other {α : Type} {l : List α} {i j : Nat} {v : α} (h : i ≠ j) : (l.set i v)[j]? = l[j]? := List.getElem?_set_ne h
theorem app_other {α : Type} {l l' : List α} {j : Nat} {x : α} (h : l[j]? = some x) : (l ++ l')[j]? = some x := by
  rw [List.getElem?_append_left (List.getElem?_eq_some_iff.1 h).1]; exact h
/-- A new row. -/
theorem SR.fresh {X : Cx} {w : WFr} {W : WHeap} {fr : Fr} (s : SR X w W fr) (e : Nat) (ek : Option Nat) (xs : List CV) :
    ∃ Y, Hand Y w W fr (.own true e ek xs) (.sl X.H.length 0 0 xs.length) ∧ WStp X Y ∧ Y.H = X.H ++ [.row false e ek 0 xs] := by
  obtain ⟨g1, g2⟩ := s.grab (K := []) (v' := .own true e ek xs) (h := .sl X.H.length 0 0 xs.length) (t := fun _ _ => (X.H.length, 0, 0)) (H' := X.H ++ [.row false e ek 0 xs])
    (by
      intro i k b e' ek' xs' h
      obtain ⟨rfl, rfl, ho⟩ := ownAt_own h
      simp only [Prod.mk.injEq] at ho
      obtain ⟨rfl, rfl, rfl, rfl⟩ := ho
      refine ⟨⟨xs', by simp, by simp, by simp, fun _ => rfl⟩, ?_⟩
      intro hf
      obtain ⟨_, _, _, _, _, hr⟩ := s.ok.fl _ hf
      have := (List.getElem?_eq_some_iff.1 hr).1
      omega)
    (by
      intro i k o p _ hp _
      obtain ⟨o', ho'⟩ := Option.ne_none_iff_exists'.1 hp
      obtain ⟨b', e', ek', xs'⟩ := o'
      obtain ⟨ys, r1, _⟩ := s.ok.own p b' e' ek' xs' ho'
      have := (List.getElem?_eq_some_iff.1 r1).1
      simp only
      omega)
    (by
      intro i k i' k' o o' h h' _
      obtain ⟨rfl, rfl, _⟩ := ownAt_own h
      obtain ⟨rfl, rfl, _⟩ := ownAt_own h'
      exact ⟨rfl, rfl⟩)
    (by
      intro p hp _
      obtain ⟨o', ho'⟩ := Option.ne_none_iff_exists'.1 hp
      obtain ⟨b', e', ek', xs'⟩ := o'
      obtain ⟨ys, r1, _⟩ := s.ok.own p b' e' ek' xs' ho'
      rw [r1]
      exact app_other r1)
    (fun id r h _ => app_other h) (fun i _ ek cs h => app_other h) ⟨rfl, rfl⟩ rfl rfl
  rw [inK_nil, hitF_no] at g1
  exact ⟨_, g1, g2, rfl⟩
/-- Put down into a slot, or dropped. -/
theorem Hand.put {X : Cx} {w : WFr} {W : WHeap} {fr : Fr} {v : WV} {h : HV} (s : Hand X w W fr v h) (dst : Option Nat) :
    ∃ Y, SR Y (w.put dst v) W (fr.put dst h) ∧ WStp X Y ∧ Y.H = X.H := by
  cases dst with
  | none => exact ⟨X.hide, ⟨s.ok.hide, s.fr, s.hp, fun i k => rfl⟩, ⟨Nat.le_refl _, fun _ _ => rfl, rfl, fun _ _ h _ => h⟩, rfl⟩
  | some d => exact s.putD d
theorem app_sim {e : Nat} {ek : Option Nat} {bytes : Nat} {x y : Opd} {dst : Option Nat} {X : Cx} {w w' : WFr} {W W' : WHeap} {fr : Fr} (s : SR X w W fr) (h : wOp0 (.app e ek bytes x y) dst w W = some (w', W')) : WSim (.app e ek bytes x y) dst X w W fr w' W' := by
  simp only [wOp0, appW] at h
  split at h
  · cases h
  · rename_i new hnew
    have ry := rdR s.fr Pl.tmp y (by intro e; rw [e] at hnew; cases hnew)
    have hn := elems_R s.ok ry hnew
    split at h
    · rename_i hx
      have rx := ptr_of s.fr hx (by simp)
      have rx' : fr.opd x = .nils := rx
      split at h
      · rename_i h0
        injection h with h; injection h with h1 h2; subst h1; subst h2
        exact .here (fr' := fr.put dst .nils) (by simp only [doOp0, appH, hn, rx', h0, if_true]) (s.put (q := Pl.tmp) (rfl : HV.nils = .nils) rfl)
      · rename_i h0
        split at h
        · rename_i hl
          injection h with h; injection h with h1 h2; subst h1; subst h2
          obtain ⟨Y, hY, st, hH⟩ := s.fresh e ek new
          obtain ⟨Z, hZ, st', hH'⟩ := hY.put dst
          refine ⟨Z, _, ?_, hZ, st.trans st'⟩
          simp only [doOp0, appH, hn, rx']
          rw [if_neg h0, if_pos hl, hH', hH]
        · cases h
    · rename_i pl e' ek' xs hx
      have rx := ptr_of s.fr hx (by simp)
      obtain ⟨r1, b', ys, r2, r3, r4, r5⟩ := rx
      split at h
      · rename_i hc
        rw [hitAll_eq] at h
        injection h with h; injection h with h1 h2; subst h1; subst h2
        obtain ⟨rfl, rfl, hl1, hl2⟩ := hc
        obtain ⟨hb', _⟩ := r5 rfl
        obtain ⟨zs, z1, z2, z3, z4⟩ := s.ok.own pl _ _ _ _ r2
        have z0 := z4 hb'
        rw [z0] at r1 z2 z3
        simp only [Nat.zero_add, List.drop_zero, Nat.add_zero] at r1 r3 r4 z2 z3
        have hmem : inK [pl] pl = true := by simp [inK]
        have ht : zs.take xs.length = xs := by rw [← r4, ← z3, List.take_take]; congr 1; simp only [List.length_take]; omega
        have hlt := (List.getElem?_eq_some_iff.1 z1).1
        have onlyPl : ∀ p, X.O p ≠ none → (X.th p).1 = (X.th pl).1 → p = pl := fun p hp he => s.ok.dis p pl hp (by rw [r2]; simp) he
        obtain ⟨g1, g2⟩ := s.grab (K := [pl]) (v' := .own true e' ek' (xs ++ new)) (h := .sl (X.th pl).1 ((X.th pl).2.1 + 1) 0 (xs ++ new).length) (t := fun _ _ => ((X.th pl).1, (X.th pl).2.1 + 1, 0))
          (H' := X.H.set (X.th pl).1 (.row false e' ek' ((X.th pl).2.1 + 1) (xs ++ new)))
          (by
            intro i k b e ek xs' h
            obtain ⟨rfl, rfl, ho⟩ := ownAt_own h
            simp only [Prod.mk.injEq] at ho
            obtain ⟨rfl, rfl, rfl, rfl⟩ := ho
            exact ⟨⟨xs ++ new, by simp [hlt], by simp, by simp only [List.drop_zero]; exact List.take_of_length_le (Nat.le_refl _), fun _ => rfl⟩, s.ok.nf pl (by rw [r2]; simp)⟩)
          (by
            intro i k o p _ hp hk he
            have := onlyPl p hp he
            subst this
            rw [hmem] at hk; cases hk)
          (by
            intro i k i' k' o o' h h' _
            obtain ⟨rfl, rfl, _⟩ := ownAt_own h
            obtain ⟨rfl, rfl, _⟩ := ownAt_own h'
            exact ⟨rfl, rfl⟩)
          (by
            intro p hp hk
            refine set_other ?_
            intro he
            have := onlyPl p hp he.symm
            subst this
            rw [hmem] at hk; cases hk)
          (by
            intro id r hr hf
            rw [set_other]
            · exact hr
            · intro he
              subst he
              rw [z1] at hr
              injection hr with hr
              rcases hf with hf | hf
              · obtain ⟨_, _, _, _, hf⟩ := hf; rw [← hr] at hf; cases hf
              · exact s.ok.nf pl (by rw [r2]; simp) hf)
          (by
            intro i hi ek cs hr
            rw [set_other]
            · exact hr
            · intro he
              rw [← he, z1] at hr
              cases hr) ⟨rfl, rfl⟩ rfl rfl
        obtain ⟨Z, hZ, st', hH'⟩ := g1.put dst
        refine ⟨Z, fr.put dst (.sl (X.th pl).1 ((X.th pl).2.1 + 1) 0 (xs ++ new).length), ?_, hZ, g2.trans st'⟩
        rw [hH']
        simp only [doOp0, appH, hn, r1, z1]
        rw [if_pos ⟨trivial, trivial, trivial, by omega, hl1, hl2⟩, ht]
        simp only [List.length_append]
        rfl
      · cases h
    · cases h

/-! ### closing for good -/
def frzO : HO → HO
  | .row _ e ek ver xs => .row true e ek ver xs
  | o => o
theorem frzId_get (id : Nat) (H : Heap) (j : Nat) : (frzId id H)[j]? = if j = id then (H[j]?).map frzO else H[j]? := by
  unfold frzId
  by_cases hj : j = id
  · subst hj
    rw [if_pos rfl]
    cases h : H[j]? with
    | none => simp [h]
    | some o =>
      have hlt := (List.getElem?_eq_some_iff.1 h).1
      cases o with
      | var ek cs => simp [h, frzO]
      | row fz e ek ver xs => simp [hlt, frzO]
  · rw [if_neg hj]
    split
    · exact set_other (fun e => hj e.symm)
    · rfl
def frzTo : List Nat → Heap → Heap
  | [], H => H
  | id :: r, H => frzTo r (frzId id H)
theorem frzO2 : frzO ∘ frzO = frzO := by funext o; cases o <;> rfl
theorem frzTo_get : ∀ (ids : List Nat) (H : Heap) (j : Nat), (frzTo ids H)[j]? = if j ∈ ids then (H[j]?).map frzO else H[j]? := by
  intro ids
  induction ids with
  | nil => intro H j; simp [frzTo]
  | cons id ids ih =>
    intro H j
    simp only [frzTo, ih, frzId_get, List.mem_cons]
    by_cases h1 : j = id <;> by_cases h2 : j ∈ ids <;> simp [h1, h2]
    all_goals
      first
      | (subst h1; simp [h2, frzO2])
      | skip
theorem frzTo_append : ∀ (a b : List Nat) (H : Heap), frzTo (a ++ b) H = frzTo b (frzTo a H) := by
  intro a
  induction a with
  | nil => intro b H; rfl
  | cons x a ih => intro b H; simp only [List.cons_append, frzTo, ih]
/-- The rows that cells lead to. -/
def slIds : List HV → List Nat
  | [] => []
  | .sl id _ _ _ :: r => id :: slIds r
  | _ :: r => slIds r
theorem frzIn_eq : ∀ (l : List HV) (H : Heap), frzIn l H = frzTo (slIds l) H := by
  intro l
  induction l with
  | nil => intro H; rfl
  | cons v l ih =>
    intro H
    cases v with
    | sl id ver off n => simp only [frzIn, slIds, frzTo, ih]
    | _ => simp only [frzIn, slIds, ih]
def hIds : HV → List Nat
  | .c _ => []
  | .agg cs => slIds cs
  | .sl id _ _ _ => [id]
  | _ => []
/-- Rows to be frozen, and the places that tell them. -/
structure FzOk (X : Cx) (ids : List Nat) (ps : List Pl) : Prop where
  id : ∀ j, j ∈ ids → (∃ p, p ∈ ps ∧ X.O p ≠ none ∧ j = (X.th p).1) ∨ ∃ r, X.H[j]? = some r ∧ Frozen r
  pl : ∀ p, p ∈ ps → X.O p ≠ none ∧ (X.th p).1 ∈ ids
theorem FzOk.nil (X : Cx) : FzOk X [] [] := ⟨fun _ h => (by cases h), fun _ h => (by cases h)⟩
theorem FzOk.append {X : Cx} {a b : List Nat} {p q : List Pl} (h : FzOk X a p) (k : FzOk X b q) : FzOk X (a ++ b) (p ++ q) := by
  refine ⟨?_, ?_⟩
  · intro j hj
    rcases List.mem_append.1 hj with hj | hj
    · exact (h.id j hj).imp (fun ⟨p, h1, h2⟩ => ⟨p, List.mem_append_left _ h1, h2⟩) (fun x => x)
    · exact (k.id j hj).imp (fun ⟨p, h1, h2⟩ => ⟨p, List.mem_append_right _ h1, h2⟩) (fun x => x)
  · intro x hx
    rcases List.mem_append.1 hx with hx | hx
    · exact ⟨(h.pl x hx).1, List.mem_append_left _ (h.pl x hx).2⟩
    · exact ⟨(k.pl x hx).1, List.mem_append_right _ (k.pl x hx).2⟩
theorem row_frz {H : Heap} {id : Nat} {fz : Bool} {e : Nat} {ek : Option Nat} {ver : Nat} {xs : List CV} (h : H[id]? = some (.row fz e ek ver xs)) (ids : List Nat) : ∃ fz', (frzTo ids H)[id]? = some (.row fz' e ek ver xs) := by
  rw [frzTo_get, h]
  split
  · exact ⟨true, rfl⟩
  · exact ⟨fz, rfl⟩
theorem thaw0_frz {H : Heap} {id ver off len : Nat} {fz : Bool} {e : Nat} {ek : Option Nat} {ys : List CV} (h : H[id]? = some (.row fz e ek ver ys)) (hl : off + len ≤ ys.length) (ids : List Nat) :
    thaw0 (frzTo ids H) (.sl id ver off len) = some (.frz ek ((ys.drop off).take len)) := by
  obtain ⟨fz', h'⟩ := row_frz h ids
  simp only [thaw0, h']
  rw [if_pos ⟨trivial, hl⟩]
theorem view_thaw {X : Cx} (hx : XOk X) {p : Pl} {b : Bool} {off e : Nat} {ek : Option Nat} {xs : List CV} (hv : ViewOk X p b off e ek xs) (ids : List Nat) :
    thaw0 (frzTo ids X.H) (.sl (X.th p).1 (X.th p).2.1 ((X.th p).2.2 + off) xs.length) = some (.frz ek xs) := by
  obtain ⟨b', ys, r2, r3, r4, r5⟩ := hv
  obtain ⟨zs, z1, z2, z3, z4⟩ := hx.own p _ _ _ _ r2
  rw [thaw0_frz z1 (by omega)]
  rw [subsub zs ys _ off xs.length z3 r3, r4]
theorem imm_thaw {X : Cx} {fz : Bool} {id ver off : Nat} {ek : Option Nat} {xs : List CV} (hv : ImmOk X fz id ver off ek xs) (ids : List Nat) :
    thaw0 (frzTo ids X.H) (.sl id ver off xs.length) = some (.frz ek xs) := by
  obtain ⟨fb, e, ys, r1, r2, r3, _⟩ := hv
  rw [thaw0_frz r1 r2, r3]
theorem close1_R {X : Cx} (hx : XOk X) {pl : Pl} {v : WV} {h : HV} (r : VR1 X pl v h) {u : CV} {ps : List Pl} (hc : close1 v = some (u, ps)) (ids : List Nat) :
    thaw0 (frzTo ids X.H) h = some u ∧ FzOk X (slIds [h]) ps := by
  cases v with
  | c w => injection hc with hc; injection hc with h1 h2; subst h1; subst h2; have r' : h = .c w := r; subst r'; exact ⟨rfl, FzOk.nil X⟩
  | nils => injection hc with hc; injection hc with h1 h2; subst h1; subst h2; have r' : h = .nils := r; subst r'; exact ⟨rfl, FzOk.nil X⟩
  | view p b off e ek xs =>
    injection hc with hc; injection hc with h1 h2; subst h1; subst h2
    obtain ⟨rfl, r2⟩ := r
    refine ⟨view_thaw hx r2 ids, ?_⟩
    have hO : X.O p ≠ none := by obtain ⟨b', ys, q, _⟩ := r2; rw [q]; simp
    exact ⟨fun j hj => .inl ⟨p, by simp, hO, by simpa [slIds] using hj⟩, fun x hx => by simp only [List.mem_singleton] at hx; subst hx; exact ⟨hO, by simp [slIds]⟩⟩
  | imm fz ek xs =>
    cases fz with
    | true =>
      injection hc with hc; injection hc with h1 h2; subst h1; subst h2
      obtain ⟨id, ver, off, rfl, r2⟩ := r
      refine ⟨imm_thaw r2 ids, ?_⟩
      obtain ⟨fb, e, ys, q1, _, _, q4, _⟩ := r2
      exact ⟨fun j hj => .inr ⟨_, by simp only [slIds, List.mem_singleton] at hj; subst hj; exact q1, by rw [q4 rfl]; exact ⟨_, _, _, _, rfl⟩⟩, fun x hx => by cases hx⟩
    | false => cases hc
  | _ => cases hc
theorem slIds_cons (a : HV) (l : List HV) : slIds (a :: l) = slIds [a] ++ slIds l := by cases a <;> rfl
theorem closeL_R {X : Cx} (hx : XOk X) {q : Nat → Pl} (ids : List Nat) : ∀ {l : List WV} {k : Nat} {s : List HV} {us : List CV} {ps : List Pl}, VRL X q k l s → closeL l = some (us, ps) →
    thaw0L (frzTo ids X.H) s = some us ∧ FzOk X (slIds s) ps := by
  intro l
  induction l with
  | nil => intro k s us ps r h; cases s with
    | nil => injection h with h; injection h with h1 h2; subst h1; subst h2; exact ⟨rfl, FzOk.nil X⟩
    | cons => exact r.elim
  | cons v l ih => intro k s us ps r h; cases s with
    | nil => exact r.elim
    | cons a s =>
      simp only [closeL] at h
      split at h
      · rename_i u p us' ps' h1 h2
        injection h with h; injection h with h3 h4; subst h3; subst h4
        obtain ⟨t1, f1⟩ := close1_R hx r.1 h1 ids
        obtain ⟨t2, f2⟩ := ih r.2 h2
        exact ⟨by simp only [thaw0L, t1, t2], by rw [slIds_cons]; exact f1.append f2⟩
      · cases h
/-- A value read, closed for good while some rows are frozen already. -/
theorem close_R {X : Cx} (hx : XOk X) {q : Nat → Nat → Pl} {v : WV} {h : HV} (r : VR X q v h) (ho : hasOwn v = false) {u : CV} {ps : List Pl} (hc : closeW v = some (u, ps)) (ids : List Nat) :
    closeV h (frzTo ids X.H) = some (u, frzTo (ids ++ hIds h) X.H) ∧ FzOk X (hIds h) ps := by
  cases v with
  | agg cs =>
    obtain ⟨hs, rfl, r2⟩ := r
    simp only [closeW] at hc
    split at hc
    · rename_i l ps' hl
      injection hc with hc; injection hc with h1 h2; subst h1; subst h2
      obtain ⟨t1, t2⟩ := closeL_R hx ids r2 hl
      exact ⟨by simp only [closeV, thaw1, t1, frzV, frzIn_eq, frzTo_append, hIds], t2⟩
    · cases hc
  | c w =>
    injection hc with hc; injection hc with h1 h2; subst h1; subst h2
    have r' : h = .c w := r
    subst r'
    exact ⟨by simp only [closeV, hIds, List.append_nil], FzOk.nil X⟩
  | nils =>
    have r' : h = .nils := r
    subst r'
    injection hc with hc; injection hc with h1 h2; subst h1; subst h2
    exact ⟨by simp only [closeV, thaw1, thaw0, frzV, frzIn, hIds, List.append_nil], FzOk.nil X⟩
  | view p b off e ek xs =>
    obtain ⟨t1, t2⟩ := close1_R (pl := .tmp 0 0) hx (v := .view p b off e ek xs) r hc ids
    obtain ⟨rfl, _⟩ := r
    exact ⟨by simp only [closeV, thaw1, t1, frzV, frzIn, hIds, frzTo_append, frzTo], t2⟩
  | imm fz ek xs =>
    obtain ⟨t1, t2⟩ := close1_R (pl := .tmp 0 0) hx (v := .imm fz ek xs) r hc ids
    obtain ⟨id, ver, off, rfl, _⟩ := r
    exact ⟨by simp only [closeV, thaw1, t1, frzV, frzIn, hIds, frzTo_append, frzTo], t2⟩
  | _ => cases hc

theorem frzTo_var {H : Heap} {id : Nat} {ek : Option Nat} {cs : List HV} (h : H[id]? = some (.var ek cs)) (ids : List Nat) : (frzTo ids H)[id]? = some (.var ek cs) := by
  rw [frzTo_get, h]; split <;> rfl
theorem mem_inK {K : List Pl} {p : Pl} : inK K p = true ↔ p ∈ K := by
  simp only [inK, List.any_eq_true, decide_eq_true_eq]
  exact ⟨fun ⟨x, h1, h2⟩ => h2 ▸ h1, fun h => ⟨p, h, rfl⟩⟩
/-- The places ps freeze. -/
theorem SR.freeze {X : Cx} {w : WFr} {W : WHeap} {fr : Fr} (s : SR X w W fr) {ids : List Nat} {ps : List Pl} (f : FzOk X ids ps) :
    ∃ Y, SR Y (hitF (inK ps) true w) (hitH true ps W) fr ∧ WStp X Y ∧ Y.H = frzTo ids X.H ∧ (∀ p, Y.O p = if inK ps p = true then none else X.O p) ∧ Y.th = X.th := by
  have notIn : ∀ p, X.O p ≠ none → inK ps p = false → (X.th p).1 ∉ ids := by
    intro p hp hk hm
    rcases f.id _ hm with ⟨p', h1, h2, h3⟩ | ⟨r, h1, h2⟩
    · have := s.ok.dis p p' hp h2 h3
      subst this
      rw [mem_inK.2 h1] at hk; cases hk
    · obtain ⟨o, ho⟩ := Option.ne_none_iff_exists'.1 hp
      obtain ⟨b, e, ek, xs⟩ := o
      obtain ⟨ys, r1, _⟩ := s.ok.own p _ _ _ _ ho
      rw [r1] at h1
      injection h1 with h1
      obtain ⟨_, _, _, _, h2⟩ := h2
      rw [← h1] at h2; cases h2
  have keep : ∀ id r, X.H[id]? = some r → (Frozen r ∨ X.F id) → (frzTo ids X.H)[id]? = some r := by
    intro id r hr hf
    rw [frzTo_get]
    split
    · rename_i hm
      rcases hf with hf | hf
      · obtain ⟨e, ek, ver, xs, rfl⟩ := hf
        rw [hr]; rfl
      · rcases f.id _ hm with ⟨p', h1, h2, h3⟩ | ⟨r', h1, h2⟩
        · exact (s.ok.nf p' h2 (h3 ▸ hf)).elim
        · rw [hr] at h1; injection h1 with h1; subst h1
          obtain ⟨e, ek, ver, xs, rfl⟩ := h2
          rw [hr]; rfl
    · exact hr
  let Y : Cx := { X with O := fun p => if inK ps p = true then none else X.O p, H := frzTo ids X.H }
  have hO : ∀ p, Y.O p ≠ none → inK ps p = false ∧ X.O p ≠ none := by
    intro p h
    simp only [Y] at h
    cases hk : inK ps p with
    | true => rw [hk] at h; exact (h rfl).elim
    | false => rw [hk] at h; exact ⟨rfl, by simpa using h⟩
  have E : Ext (inK ps) true X Y := by
    refine ⟨Nat.le_refl _, fun _ _ => rfl, ?_, fun _ h => h, keep, ?_⟩
    · intro p hp _
      exact ⟨rfl, by simp only [Y, hp]; rfl⟩
    · intro _ p b e ek xs hk ho
      obtain ⟨ys, r1, r2, r3, r4⟩ := s.ok.own p _ _ _ _ ho
      refine ⟨true, e, ys, ?_, r2, r3, fun _ => rfl, fun h => by cases h⟩
      show (frzTo ids X.H)[(X.th p).1]? = _
      rw [frzTo_get, if_pos (f.pl p (mem_inK.1 hk)).2, r1]
      rfl
  refine ⟨Y, ⟨⟨?_, ?_, ?_, s.ok.rinj, fun i hi => ?_, fun i k hi => by simp only [Y, s.ok.hz i k hi]; split <;> rfl⟩, s.fr.hit E, s.hp.hit' E rfl (fun i _ ek cs h => frzTo_var h ids), ?_⟩, ⟨Nat.le_refl _, fun _ _ => rfl, rfl, keep⟩, rfl, fun p => rfl, rfl⟩
  · intro p b e ek xs h
    obtain ⟨k1, k2⟩ := hO p (by rw [h]; simp)
    have h' : X.O p = some (b, e, ek, xs) := by simpa [Y, k1] using h
    obtain ⟨ys, r1, r2⟩ := s.ok.own p _ _ _ _ h'
    refine ⟨ys, ?_, r2⟩
    show (frzTo ids X.H)[(X.th p).1]? = _
    rw [frzTo_get, if_neg (notIn p k2 k1)]
    exact r1
  · intro p p' h h' he
    exact s.ok.dis p p' (hO p h).2 (hO p' h').2 he
  · intro p h
    exact s.ok.nf p (hO p h).2
  · obtain ⟨a, b, c, d, e, hr⟩ := s.ok.fl i hi
    exact ⟨a, b, c, d, e, keep i _ hr (.inr hi)⟩
  · intro i k
    simp only [Y, s.ht i k]
    split <;> rfl

theorem fillRow_R {X : Cx} {w : WFr} {W : WHeap} {fr : Fr} (s : SR X w W fr) (ek : Option Nat) : ∀ (ps : List (Nat × Opd)) {xs l : List CV} {pls : List Pl} (ids : List Nat),
    fillRowW ek xs (ps.map fun p => (p.1, w.rd p.2)) = some (l, pls) →
    ∃ ids', fillRow ek xs (frzTo ids X.H) (ps.map fun p => (p.1, fr.opd p.2)) = some (l, frzTo (ids ++ ids') X.H) ∧ FzOk X ids' pls := by
  intro ps
  induction ps with
  | nil =>
    intro xs l pls ids h
    injection h with h; injection h with h1 h2; subst h1; subst h2
    exact ⟨[], by simp only [List.map_nil, fillRow, List.append_nil], FzOk.nil X⟩
  | cons p ps ih =>
    obtain ⟨i, x⟩ := p
    intro xs l pls ids h
    simp only [List.map_cons, fillRowW] at h
    split at h
    · rename_i u ps1 hu
      split at h
      · rename_i hc
        split at h
        · rename_i l' qs hl
          injection h with h; injection h with h1 h2; subst h1; subst h2
          have rx := rdR s.fr Pl.tmp x (by intro e; rw [e] at hu; cases hu)
          obtain ⟨c1, c2⟩ := close_R s.ok rx (rd_noOwn w x) hu ids
          obtain ⟨ids', i1, i2⟩ := ih (ids ++ hIds (fr.opd x)) hl
          refine ⟨hIds (fr.opd x) ++ ids', ?_, c2.append i2⟩
          simp only [List.map_cons, fillRow, c1]
          rw [if_pos hc, i1, List.append_assoc]
        · cases h
      · cases h
    · cases h
theorem bsl_sim {fz : Bool} {e : Nat} {ek : Option Nat} {zero : List CV} {n : Nat} {parts : List (Nat × Opd)} {dst : Option Nat} {X : Cx} {w w' : WFr} {W W' : WHeap} {fr : Fr} (s : SR X w W fr)
    (h : wOp0 (.bsl fz e ek zero n parts) dst w W = some (w', W')) : WSim (.bsl fz e ek zero n parts) dst X w W fr w' W' := by
  simp only [wOp0] at h
  split at h
  · rename_i z hz
    split at h
    · rename_i hfz
      split at h
      · rename_i xs ps hr
        rw [hitAll_eq] at h
        injection h with h; injection h with h1 h2; subst h1; subst h2
        obtain ⟨ids, i1, i2⟩ := fillRow_R s ek parts [] hr
        obtain ⟨Y, hY, st, hH, _⟩ := s.freeze i2
        simp only [frzTo, List.nil_append] at i1
        have hlen : xs.length = n := by
          have : ∀ (ps : List (Nat × WV)) (a l : List CV) (q : List Pl), fillRowW ek a ps = some (l, q) → l.length = a.length := by
            intro ps
            induction ps with
            | nil => intro a l q h; injection h with h; injection h with h1 h2; rw [h1]
            | cons p ps ih =>
              intro a l q h
              obtain ⟨i, v⟩ := p
              simp only [fillRowW] at h
              split at h
              · split at h
                · split at h
                  · rename_i hh; injection h with h; injection h with h1 h2; subst h1; have := ih _ _ _ hh; simpa using this
                  · cases h
                · cases h
              · cases h
          have := this _ _ _ _ hr
          simpa using this
        cases fz with
        | true =>
          refine ⟨Y, fr.put dst (.c (.frz ek xs)), ?_, hY.putc dst _, st⟩
          simp only [doOp0, hz]
          rw [if_pos hfz, i1, hH]
          rfl
        | false =>
          obtain ⟨Z, hZ, st', hH'⟩ := hY.fresh e ek xs
          obtain ⟨V, hV, st'', hH''⟩ := hZ.put dst
          refine ⟨V, _, ?_, hV, (st.trans st').trans st''⟩
          simp only [doOp0, hz]
          rw [if_pos hfz, i1, hH'', hH', hH]
          simp only [Bool.false_eq_true, if_false, hlen]
      · cases h
    · cases h
  · cases h
end Go.Proofs.Lz
/- Boxes and stores: what the state with slices as values gives, the evaluator gives. -/
namespace Go.Proofs.Lz

theorem fitsW_R {X : Cx} {q : Nat → Pl} {ek : Option Nat} {v : WV} {h : HV} (r : VRC X q v h) (hf : fitsW ek v = true) : fitsH ek h = true ∧ v ≠ .undef ∧ v ≠ .gone := by
  refine ⟨?_, ⟨by intro e; subst e; (cases ek <;> cases hf), by intro e; subst e; (cases ek <;> cases hf)⟩⟩
  cases v with
  | c u =>
    have r' : h = .c u := r
    subst r'
    cases ek with
    | none => cases u <;> first | rfl | cases hf
    | some n => exact hf
  | agg cs =>
    obtain ⟨hs, rfl, r2⟩ := r
    cases ek with
    | none => cases hf
    | some n =>
      simp only [fitsW, Bool.and_eq_true] at hf
      simp only [fitsH, ← r2.len]
      exact hf.1
  | nils => have r' : h = .nils := r; subst r'; cases ek <;> first | rfl | cases hf
  | own b e ek' xs => obtain ⟨rfl, _⟩ := r; cases ek <;> first | rfl | cases hf
  | view p b off e ek' xs => obtain ⟨rfl, _⟩ := r; cases ek <;> first | rfl | cases hf
  | imm fz ek' xs => obtain ⟨id, ver, off, rfl, _⟩ := r; cases ek <;> first | rfl | cases hf
  | ptr id off => obtain ⟨rfl, _⟩ := r; cases ek <;> first | rfl | cases hf
  | fn f a b => obtain ⟨a', b', rfl, _⟩ := r; cases ek <;> first | rfl | cases hf
  | tup => exact r.elim
  | lbox => exact r.elim
  | _ => cases ek <;> cases hf
theorem fitsW_shape {ek : Option Nat} {v : WV} (hf : fitsW ek v = true) : (∀ vs, v ≠ .tup vs) ∧ ∀ ek' w, v ≠ .lbox ek' w := by
  constructor
  · intro vs e; subst e; cases ek <;> cases hf
  · intro ek' w e; subst e; cases ek <;> cases hf
theorem ownIt_shape {v : WV} (h1 : ∀ vs, v ≠ .tup vs) (h2 : ∀ ek w, v ≠ .lbox ek w) : ownIt v = ownItC v ∧ (∀ vs, ownItC v ≠ .tup vs) ∧ (∀ ek w, ownItC v ≠ .lbox ek w) ∧ noView (ownItC v) = noViewC (ownItC v) := by
  cases v with
  | tup vs => exact (h1 _ rfl).elim
  | lbox ek w => exact (h2 _ _ rfl).elim
  | _ => exact ⟨rfl, fun _ h => (by cases h), fun _ _ h => (by cases h), rfl⟩
theorem fitsW_own {ek : Option Nat} {v : WV} (hf : fitsW ek v = true) : fitsW ek (ownItC v) = true := by
  have key : ∀ v, cellW v = true → cellW (ownIt1 v) = true := by
    intro v h
    cases v with
    | eptr => cases h
    | view => rfl
    | _ => exact h
  cases ek with
  | none =>
    cases v with
    | agg => cases hf
    | c u => exact hf
    | nils => rfl
    | own => rfl
    | view => rfl
    | imm => exact hf
    | ptr => rfl
    | fn => rfl
    | _ => cases hf
  | some n =>
    cases v with
    | c u => exact hf
    | agg cs =>
      simp only [fitsW, ownItC, Bool.and_eq_true, List.all_eq_true, List.length_map, List.mem_map] at hf ⊢
      refine ⟨hf.1, ?_⟩
      rintro x ⟨y, hy, rfl⟩
      exact key y (hf.2 y hy)
    | _ => cases hf
theorem landSl {X : Cx} (hx : XOk X) (d : Nat) : XOk (X.land (decSl d)) ∧ Ext (fun p => (decSl d p).isSome || isTmp p) false X (X.land (decSl d)) ∧ WStp X (X.land (decSl d)) :=
  Cx.land_ok hx (dec := decSl d) (by
      intro p p' x h1 h2
      cases p with
      | sl a b c =>
        cases p' with
        | sl a' b' c' =>
          simp only [decSl] at h1 h2
          split at h1
          · split at h2
            · rename_i e1 e2; subst e1; subst e2; rw [← h2] at h1; injection h1 with h1; injection h1 with h1 h3; subst h1; subst h3; rfl
            · cases h2
          · cases h1
        | _ => cases h2
      | _ => cases h1) (fun i k x h => by cases h)
theorem lbox_sim {ek : Option Nat} {x : Opd} {dst : Option Nat} {X : Cx} {w w' : WFr} {W W' : WHeap} {fr : Fr} (s : SR X w W fr) (h : wOp0 (.lbox ek x) dst w W = some (w', W')) : WSim (.lbox ek x) dst X w W fr w' W' := by
  simp only [wOp0] at h
  split at h
  · rename_i d
    split at h
    · rename_i hf
      split at h
      · rename_i v w1 W1 ht
        injection h with h; injection h with h1 h2; subst h1; subst h2
        obtain ⟨hn, hr⟩ := take_eq ht
        injection hr with hr1 hr2; injection hr2 with hr2 hr3; subst hr1; subst hr2; subst hr3
        obtain ⟨sh1, sh2⟩ := fitsW_shape hf
        have rx := rdR s.fr Pl.tmp x (by intro e; rw [e] at hf; cases ek <;> cases hf)
        obtain ⟨Y, hY, st, hH, hv, hnv, _⟩ := s.take rx (rd_noOwn w x) sh2 hn
        obtain ⟨o1, o2, o3, o4⟩ := ownIt_shape sh1 sh2
        rw [o1] at hv hnv hY ⊢
        rw [o4] at hnv
        have rc := hv.toC o2 o3
        obtain ⟨l1, l2, l3⟩ := landSl hY.ok d
        have E := hide_land l2
        refine ⟨Y.land (decSl d), { env := upd fr.env d (.lbox ek (fr.opd x)), al := noAl }, ?_, ⟨l1, ⟨rfl, ?_⟩, ?_, land_ht (fun i k => rfl)⟩, st.trans l3⟩
        · have hff := (fitsW_R rc (fitsW_own hf)).1
          simp only [doOp0]
          rw [if_pos hff]
          show some (_, X.H) = some (_, Y.H)
          rw [hH]
        · intro t
          rw [decSl_isSlot] at E
          simp only [upd]
          by_cases ht : t = d
          · subst ht
            rw [if_pos rfl, if_pos rfl]
            exact ⟨_, rfl, rc.land l2 (fun k => by simp [decSl]) hnv⟩
          · rw [if_neg ht, if_neg ht]
            exact (hY.fr.hit E).env t
        · exact hY.hp.still E (fun i k => rfl) rfl (fun i _ => rfl)
      · cases h
    · cases h
  · cases h

/-! ### new variables -/
def decHp (id off n : Nat) : Pl → Option (Nat × Nat)
  | .hp j k => if j = id ∧ off ≤ k ∧ k < off + n then some (0, k - off) else none
  | _ => none
theorem decHp_inHp (id off n : Nat) : (fun p => (decHp id off n p).isSome) = inHp id off n := by
  funext p
  cases p with
  | hp j k =>
    simp only [decHp, inHp]
    by_cases h1 : j = id <;> by_cases h2 : off ≤ k <;> by_cases h3 : k < off + n <;> simp [h1, h2, h3]
  | _ => rfl
theorem landHp {X : Cx} (hx : XOk X) (id off n : Nat) (hid : id < X.n) : XOk (X.land (decHp id off n)) ∧ Ext (fun p => (decHp id off n p).isSome || isTmp p) false X (X.land (decHp id off n)) ∧ WStp X (X.land (decHp id off n)) :=
  Cx.land_ok hx (dec := decHp id off n) (by
      intro p p' x h1 h2
      cases p with
      | hp a b =>
        cases p' with
        | hp a' b' =>
          simp only [decHp] at h1 h2
          split at h1
          · split at h2
            · rename_i e1 e2
              obtain ⟨e1, e3, e4⟩ := e1
              obtain ⟨e2, e5, e6⟩ := e2
              subst e1; subst e2
              rw [← h2] at h1
              simp only [Option.some.injEq, Prod.mk.injEq, true_and] at h1
              have : b = b' := by omega
              rw [this]
            · cases h2
          · cases h1
        | _ => cases h2
      | _ => cases h1) (fun i k x h => by
      simp only [decHp] at h
      split at h
      · rename_i e; rw [e.1]; exact hid
      · cases h)
/-- A list landing where the region begins, as far as it goes. -/
theorem VRL.land' {X : Cx} {dec : Pl → Option (Nat × Nat)} (E : Ext (fun p => (dec p).isSome || isTmp p) false X (X.land dec)) {i : Nat} {q' : Nat → Pl} :
    ∀ {l : List WV} {k k' : Nat} {s : List HV}, VRL X (Pl.tmp i) k l s → l.all noView1 = true → (∀ j, j < l.length → dec (q' (k' + j)) = some (i, k + j)) → VRL (X.land dec) q' k' l s := by
  intro l
  induction l with
  | nil => intro k k' s h _ _; cases s with
    | nil => trivial
    | cons => exact h.elim
  | cons v l ih => intro k k' s h nv hd; cases s with
    | nil => exact h.elim
    | cons a s =>
      simp only [List.all_cons, Bool.and_eq_true] at nv
      refine ⟨h.1.land E (hd 0 (by simp)) nv.1, ih h.2 nv.2 ?_⟩
      intro j hj
      have := hd (j + 1) (by simp; omega)
      rw [show k' + (j + 1) = k' + 1 + j by omega, show k + (j + 1) = k + 1 + j by omega] at this
      exact this
theorem flat_noView {v : WV} (h : noViewC v = true) : v.flat.all noView1 = true := by
  cases v with
  | agg cs => exact h
  | c u => cases u <;> simp [WV.flat, noView1]
  | view => cases h
  | eptr => cases h
  | _ => rfl
theorem flat_cellH {ek : Option Nat} {v : WV} (hf : fitsW ek v = true) (nv : noViewC v = true) : v.flat.all cellH = true := by
  have key : ∀ v, cellW v = true → noView1 v = true → cellH v = true := by
    intro v h n
    cases v with
    | c u => rfl
    | view => cases n
    | gone => cases h
    | _ => exact h
  cases v with
  | c u => cases u <;> simp [WV.flat, cellH]
  | agg cs =>
    cases ek with
    | none => cases hf
    | some n =>
      simp only [fitsW, Bool.and_eq_true, List.all_eq_true] at hf
      simp only [noViewC, List.all_eq_true] at nv
      simp only [WV.flat, List.all_eq_true]
      exact fun x hx => key x (hf.2 x hx) (nv x hx)
  | nils => rfl
  | own => rfl
  | imm fz ek' xs => cases ek <;> simp [fitsW, cellW] at hf; subst hf; rfl
  | ptr => rfl
  | fn => rfl
  | view => cases nv
  | eptr => cases nv
  | _ => cases ek <;> cases hf
theorem hbox_sim {ek : Option Nat} {x : Opd} {dst : Option Nat} {X : Cx} {w w' : WFr} {W W' : WHeap} {fr : Fr} (s : SR X w W fr) (h : wOp0 (.hbox ek x) dst w W = some (w', W')) : WSim (.hbox ek x) dst X w W fr w' W' := by
  simp only [wOp0] at h
  split at h
  · rename_i hf
    split at h
    · rename_i v w1 W1 ht
      injection h with h; injection h with h1 h2; subst h1; subst h2
      obtain ⟨hn, hr⟩ := take_eq ht
      injection hr with hr1 hr2; injection hr2 with hr2 hr3; subst hr1; subst hr2; subst hr3
      obtain ⟨sh1, sh2⟩ := fitsW_shape hf
      have rx := rdR s.fr Pl.tmp x (by intro e; rw [e] at hf; cases ek <;> cases hf)
      obtain ⟨Y, hY, st, hH, hv, hnv, _⟩ := s.take rx (rd_noOwn w x) sh2 hn
      obtain ⟨o1, o2, o3, o4⟩ := ownIt_shape sh1 sh2
      rw [o1] at hv hnv hY ⊢
      rw [o4] at hnv
      have rc := hv.toC o2 o3
      have hff := fitsW_own hf
      obtain ⟨f1, f2, f3⟩ := fitsW_R rc hff
      have hlen : Y.n = (hitH false (srcs (w.rd x)) W).length := hY.hp.n
      generalize hW : hitH false (srcs (w.rd x)) W = V at hY hlen ⊢
      generalize hw : hitF (inK (srcs (w.rd x))) false w = u at hY ⊢
      let Y1 : Cx := { Y with n := Y.n + 1, rho := fun i => if i = Y.n then Y.H.length else Y.rho i, H := Y.H ++ [.var ek (fr.opd x).flat] }
      have rlt : ∀ i, i < Y.n → Y.rho i < Y.H.length := by
        intro i hi
        have hlt : i < V.length := by rw [← hlen]; exact hi
        cases hV : V[i] with
        | var ek' cs =>
          have hg : V[i]? = some (.var ek' cs) := by rw [List.getElem?_eq_getElem hlt, hV]
          obtain ⟨⟨hs, c1, _⟩, _⟩ := hY.hp.cells i ek' cs hg
          exact (List.getElem?_eq_some_iff.1 c1).1
      have E1 : Ext (fun _ => false) false Y Y1 := ⟨Nat.le_succ _, fun i hi => by
          show (if i = Y.n then _ else _) = Y.rho i
          rw [if_neg (Nat.ne_of_lt hi)], fun _ _ _ => ⟨rfl, rfl⟩, fun _ h => h, fun id r hr _ => app_other hr, fun h => by cases h⟩
      have x1 : XOk Y1 := by
        refine ⟨?_, hY.ok.dis, hY.ok.nf, ?_, ?_, fun i k hi => hY.ok.hz i k (Nat.le_of_succ_le hi)⟩
        · intro p b e ek' xs hp
          obtain ⟨ys, r1, r2⟩ := hY.ok.own p b e ek' xs hp
          exact ⟨ys, app_other r1, r2⟩
        · intro i j hi hj he
          simp only [Y1] at he hi hj
          by_cases h1 : i = Y.n
          · by_cases h2 : j = Y.n
            · rw [h1, h2]
            · rw [if_pos h1, if_neg h2] at he
              have := rlt j (by omega)
              omega
          · by_cases h2 : j = Y.n
            · rw [if_neg h1, if_pos h2] at he
              have := rlt i (by omega)
              omega
            · rw [if_neg h1, if_neg h2] at he
              exact hY.ok.rinj i j (by omega) (by omega) he
        · intro i hi
          obtain ⟨a, b, c, d, e, hr⟩ := hY.ok.fl i hi
          exact ⟨a, b, c, d, e, app_other hr⟩
      obtain ⟨l1, l2, l3⟩ := landHp x1 Y.n 0 (ownItC (w.rd x)).flat.length (Nat.lt_succ_self _)
      have s1 : WStp Y Y1 := ⟨E1.n, E1.rho, rfl, E1.rows⟩
      have E0 : Ext (fun _ => false) false Y.hide (Y1.land (decHp Y.n 0 (ownItC (w.rd x)).flat.length)) := by
        refine ⟨Nat.le_succ _, fun i hi => E1.rho i hi, ?_, fun _ h => h, fun id r hr _ => app_other hr, fun h => by cases h⟩
        intro p _ ho
        have hnt : isTmp p = false := by
          cases h : isTmp p with
          | false => rfl
          | true => simp only [Cx.hide, h, if_true] at ho; exact (ho rfl).elim
        have hd : decHp Y.n 0 (ownItC (w.rd x)).flat.length p = none := by
          cases p with
          | hp i k =>
            simp only [decHp]
            split
            · rename_i e
              simp only [Cx.hide, isTmp, Bool.false_eq_true, if_false, e.1, hY.ok.hz Y.n k (Nat.le_refl _)] at ho
              exact (ho rfl).elim
            · rfl
          | _ => rfl
        have := l2.pl p (by simp [hd, hnt]) (by simpa [Cx.hide, hnt] using ho)
        exact ⟨this.1, by rw [this.2]; simp [Cx.hide, hnt, Y1]⟩
      have hp' : HpR (Y1.land (decHp Y.n 0 (ownItC (w.rd x)).flat.length)) (V ++ [.var ek (ownItC (w.rd x)).flat]) := by
        refine ⟨by show Y.n + 1 = _; simp [hlen], ?_⟩
        intro i ek' cs hi
        by_cases hlt : i < V.length
        · rw [List.getElem?_append_left hlt] at hi
          obtain ⟨⟨hs, c1, c2⟩, c3⟩ := hY.hp.cells i ek' cs hi
          have hin : i < Y.n := by rw [hlen]; exact hlt
          refine ⟨⟨hs, ?_, c2.still E0 (fun _ => rfl) c3⟩, c3⟩
          show (Y.H ++ _)[if i = Y.n then _ else _]? = _
          rw [if_neg (Nat.ne_of_lt hin)]
          exact app_other c1
        · have hge : V.length ≤ i := Nat.le_of_not_lt hlt
          rw [List.getElem?_append_right hge] at hi
          have : i - V.length = 0 := by
            cases hk : i - V.length with
            | zero => rfl
            | succ k => rw [hk] at hi; simp at hi
          rw [this] at hi
          simp only [List.getElem?_cons_zero, Option.some.injEq, WO.var.injEq] at hi
          obtain ⟨rfl, rfl⟩ := hi
          have hie : i = Y.n := by omega
          subst hie
          refine ⟨⟨(fr.opd x).flat, ?_, ?_⟩, flat_cellH hff hnv⟩
          · show (Y.H ++ _)[if Y.n = Y.n then _ else _]? = _
            rw [if_pos rfl]
            simp
          · have r1 : VRL Y1 (Pl.tmp 0) 0 (ownItC (w.rd x)).flat (fr.opd x).flat := by
              have := (flat_R rc f2 f3).hit E1
              rw [hitL_no] at this
              exact this
            exact r1.land' l2 (q' := Pl.hp Y.n) (k' := 0) (flat_noView hnv) (by
              intro j hj
              simp only [decHp, Nat.zero_add]
              rw [if_pos ⟨trivial, Nat.zero_le _, hj⟩]
              rfl)
      have sz : SR (Y1.land (decHp Y.n 0 (ownItC (w.rd x)).flat.length)) u (V ++ [.var ek (ownItC (w.rd x)).flat]) fr := by
        refine ⟨l1, ?_, hp', land_ht (fun i k => rfl)⟩
        have := hY.fr.hit E0
        rw [hitF_no] at this
        exact this
      refine ⟨Y1.land (decHp Y.n 0 (ownItC (w.rd x)).flat.length), fr.put dst (.ptr X.H.length 0), ?_, ?_, (st.trans s1).trans l3⟩
      · simp only [doOp0]
        rw [if_pos f1]
        show some (_, X.H ++ _) = some (_, Y.H ++ _)
        rw [hH]
      · refine sz.put (q := Pl.tmp) ?_ rfl
        refine ⟨?_, by show V.length < Y.n + 1; omega⟩
        show HV.ptr X.H.length 0 = HV.ptr (if V.length = Y.n then Y.H.length else _) 0
        rw [if_pos hlen.symm, hH]
    · cases h
  · cases h
end Go.Proofs.Lz
