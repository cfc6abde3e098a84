/- Operations on slots: what the state with slices as values gives, the evaluator gives. -/
import Derived.Test.YtmjofajbfondhaaLzWTake
namespace Go.Proofs.Lz

/-! ### shapes -/
def lboxV : WV → Bool
  | .lbox _ _ => true
  | _ => false
theorem VR.lbox_iff {X : Cx} {q : Nat → Nat → Pl} {v : WV} {h : HV} (r : VR X q v h) : lboxV v = lboxH h := by
  cases v with
  | lbox ek w => obtain ⟨h', rfl, _⟩ := r; rfl
  | tup vs => obtain ⟨hs, rfl, _⟩ := r; rfl
  | agg cs => obtain ⟨hs, rfl, _⟩ := r; rfl
  | c v => have r' : h = .c v := r; subst r'; rfl
  | nils => have r' : h = .nils := r; subst r'; rfl
  | skipv => have r' : h = .skipv := r; subst r'; rfl
  | undef => have r' : lboxH h = false := r; rw [r']; rfl
  | gone => have r' : lboxH h = false := r.1; rw [r']; rfl
  | own b e ek xs => obtain ⟨rfl, _⟩ := r; rfl
  | view p b off e ek xs => obtain ⟨rfl, _⟩ := r; rfl
  | imm fz ek xs => obtain ⟨id, ver, off, rfl, _⟩ := r; rfl
  | ptr id off => obtain ⟨rfl, _⟩ := r; rfl
  | eptr p i off ek x => obtain ⟨rfl, _⟩ := r; rfl
  | iptr fz ek x off => obtain ⟨id, ver, i, rfl, _⟩ := r; rfl
  | fn f a b => obtain ⟨a', b', rfl, _⟩ := r; rfl
theorem place_eq {X : Cx} {w : WFr} {fr : Fr} (f : FrR X w fr) (x : Opd) : w.place x = fr.place x := by
  have key : ∀ i : Nat, ∀ (α : Type) (a b : α), (match w.env i with | .lbox _ _ => a | _ => b) = (match fr.env i with | .lbox _ _ => a | _ => b) := by
    intro i α a b
    have := (f.env i).lbox_iff
    revert this
    cases w.env i <;> cases fr.env i <;> simp [lboxH, lboxV]
  cases x with
  | k => rfl
  | t i =>
    simp only [WFr.place, Fr.place, f.al]
    cases w.al i with
    | none => exact key i _ _ _
    | some p => exact key p.1 _ _ _

theorem rdR {X : Cx} {w : WFr} {fr : Fr} (f : FrR X w fr) (q : Nat → Nat → Pl) (x : Opd) (h : w.rd x ≠ .gone) : VR X q (w.rd x) (fr.opd x) := by
  cases x with
  | t i => exact (f.env i).rd
  | k v =>
    cases v with
    | agg cs =>
      simp only [WFr.rd, ofHV] at h ⊢
      split at h
      · rename_i hc
        rw [if_pos hc]
        refine ⟨cs, rfl, ?_⟩
        have : ∀ (l : List HV) (k : Nat), l.all isC = true → VRL X (q 0) k (l.map ofHV1) l := by
          intro l
          induction l with
          | nil => intro k _; trivial
          | cons a l ih =>
            intro k hl
            simp only [List.all_cons, Bool.and_eq_true] at hl
            refine ⟨?_, ih (k + 1) hl.2⟩
            cases a <;> first | rfl | cases hl.1
        exact this cs 0 hc
      · exact (h rfl).elim
    | c u => exact (rfl : HV.c u = .c u)
    | nils => exact (rfl : HV.nils = .nils)
    | lbox ek u => exact (h rfl).elim
    | _ => exact (show lboxH _ = false from rfl)
theorem rd_c {X : Cx} {w : WFr} {fr : Fr} (f : FrR X w fr) {x : Opd} {a : CV} (h : w.rd x = .c a) : fr.opd x = .c a := by
  have := rdR f Pl.tmp x (by rw [h]; simp)
  rw [h] at this
  exact this
theorem okW_ne {v : WV} (h : okW v = true) : v ≠ .gone := by intro e; subst e; cases h
theorem SR.put {X : Cx} {w : WFr} {W : WHeap} {fr : Fr} (s : SR X w W fr) {dst : Option Nat} {v : WV} {a : HV} {q : Nat → Nat → Pl} (hv : VR X q v a) (ho : hasOwn v = false) : SR X (w.put dst v) W (fr.put dst a) :=
  ⟨s.ok, s.fr.put hv ho, s.hp, s.ht⟩
theorem SR.putc {X : Cx} {w : WFr} {W : WHeap} {fr : Fr} (s : SR X w W fr) (dst : Option Nat) (v : CV) : SR X (w.put dst (.c v)) W (fr.put dst (.c v)) :=
  s.put (q := Pl.tmp) (rfl : HV.c v = .c v) (by cases v <;> rfl)
/-- What an operation must come to. -/
def WSim (o : IOp) (dst : Option Nat) (X : Cx) (w : WFr) (W : WHeap) (fr : Fr) (w' : WFr) (W' : WHeap) : Prop :=
  ∃ Y fr', doOp0 o dst fr X.H = some (fr', Y.H) ∧ SR Y w' W' fr' ∧ WStp X Y
theorem WSim.here {o : IOp} {dst : Option Nat} {X : Cx} {w : WFr} {W : WHeap} {fr : Fr} {w' : WFr} {W' : WHeap} {fr' : Fr} (h : doOp0 o dst fr X.H = some (fr', X.H)) (s : SR X w' W' fr') : WSim o dst X w W fr w' W' :=
  ⟨X, fr', h, s, WStp.refl X⟩
theorem SR.link {X : Cx} {w : WFr} {W : WHeap} {fr : Fr} (s : SR X w W fr) (dst : Option Nat) (b off : Nat) : SR X (w.link dst b off) W (fr.link dst b off) := by
  cases dst with
  | none => exact s
  | some d =>
    refine ⟨s.ok, ⟨by simp only [WFr.link, Fr.link, s.fr.al], ?_⟩, s.hp, s.ht⟩
    intro t
    simp only [WFr.link, Fr.link, upd]
    by_cases h : t = d
    · rw [if_pos h, if_pos h]; exact (rfl : lboxH .undef = false)
    · rw [if_neg h, if_neg h]; exact s.fr.env t
theorem wput_some {dst : Option Nat} {w : WFr} {W : WHeap} {v : Option WV} {r : WFr × WHeap} (h : wput dst w W v = some r) : ∃ u, v = some u ∧ r = (w.put dst u, W) := by
  cases v with
  | none => cases h
  | some u => injection h with h; exact ⟨u, rfl, h.symm⟩
theorem link_sim {dst : Option Nat} {X : Cx} {w w' : WFr} {W W' : WHeap} {fr : Fr} (s : SR X w W fr) {b off : Nat} (h : wlinkTo dst b off w W = some (w', W')) :
    linkTo dst b off fr X.H = some (fr.link dst b off, X.H) ∧ SR X w' W' (fr.link dst b off) := by
  unfold wlinkTo at h
  split at h
  · cases h
  · rename_i hd
    injection h with h; injection h with h1 h2; subst h1; subst h2
    exact ⟨by unfold linkTo; rw [if_neg hd], s.link dst b off⟩
theorem rd_noBox (w : WFr) (x : Opd) : ∀ ek v, w.rd x ≠ .lbox ek v := by
  intro ek v h
  cases x with
  | t i =>
    simp only [WFr.rd] at h
    revert h
    cases w.env i <;> simp [wunbox, peek, peekC, peek1]
  | k u =>
    cases u with
    | agg cs =>
      simp only [WFr.rd, ofHV] at h
      split at h <;> cases h
    | _ => cases h
theorem take_eq {v : WV} {w : WFr} {W : WHeap} {r : WV × WFr × WHeap} (h : Lz.take v w W = some r) : (srcs v).Nodup ∧ r = (ownIt v, hitF (inK (srcs v)) false w, hitH false (srcs v) W) := by
  unfold Lz.take at h
  split at h
  · rename_i hn
    rw [hitAll_eq] at h
    injection h with h
    exact ⟨hn, h.symm⟩
  · cases h

theorem mv_sim {x : Opd} {dst : Option Nat} {X : Cx} {w w' : WFr} {W W' : WHeap} {fr : Fr} (s : SR X w W fr) (h : wOp0 (.mv x) dst w W = some (w', W')) : WSim (.mv x) dst X w W fr w' W' := by
  simp only [wOp0] at h
  rw [place_eq s.fr] at h
  cases hp : fr.place x with
  | some p =>
    obtain ⟨b, off⟩ := p
    rw [hp] at h
    obtain ⟨h1, h2⟩ := link_sim s h
    exact .here (by simp only [doOp0, hp]; exact h1) h2
  | none =>
    rw [hp] at h
    simp only at h
    have d0 : doOp0 (.mv x) dst fr X.H = some (fr.put dst (fr.opd x), X.H) := by simp only [doOp0, hp]
    split at h
    · rename_i hok
      have r := rdR s.fr Pl.tmp x (okW_ne hok)
      have ho := rd_noOwn w x
      have plain : SR X (w.put dst (w.rd x)) W (fr.put dst (fr.opd x)) := s.put r ho
      split at h
      · rename_i d t
        split at h
        · unfold moveW at h
          split at h
          · injection h with h; injection h with h1 h2; subst h1; subst h2
            exact .here d0 plain
          · split at h
            · cases ht : Lz.take (w.rd (.t t)) w W with
              | none => rw [ht] at h; cases h
              | some p =>
                obtain ⟨hn, hr⟩ := take_eq ht
                subst hr
                rw [ht] at h
                simp only at h
                injection h with h; injection h with h1 h2; subst h1; subst h2
                obtain ⟨Y, hY, st, hH, _⟩ := s.take r ho (rd_noBox w _) hn
                obtain ⟨Z, hZ, st', hH'⟩ := hY.putD d
                exact ⟨Z, _, by rw [d0, hH', hH], hZ, st.trans st'⟩
            · injection h with h; injection h with h1 h2; subst h1; subst h2
              exact .here d0 plain
        · injection h with h; injection h with h1 h2; subst h1; subst h2
          exact .here d0 plain
      · injection h with h; injection h with h1 h2; subst h1; subst h2
        exact .here d0 plain
    · cases h

theorem un_sim {op : UnOp} {x : Opd} {dst : Option Nat} {X : Cx} {w w' : WFr} {W W' : WHeap} {fr : Fr} (s : SR X w W fr) (h : wOp0 (.un op x) dst w W = some (w', W')) : WSim (.un op x) dst X w W fr w' W' := by
  simp only [wOp0] at h
  split at h
  · rename_i a ha
    obtain ⟨u, h1, h2⟩ := wput_some h
    cases hu : unC op a with
    | none => rw [hu] at h1; cases h1
    | some v =>
      rw [hu] at h1
      injection h1 with h1; subst h1
      injection h2 with h2 h3; subst h2; subst h3
      exact .here (by simp only [doOp0, rd_c s.fr ha, hu]) (s.putc dst v)
  · cases h
theorem bin_sim {op : BinOp} {x y : Opd} {dst : Option Nat} {X : Cx} {w w' : WFr} {W W' : WHeap} {fr : Fr} (s : SR X w W fr) (h : wOp0 (.bin op x y) dst w W = some (w', W')) : WSim (.bin op x y) dst X w W fr w' W' := by
  simp only [wOp0] at h
  split at h
  · rename_i a b ha hb
    obtain ⟨u, h1, h2⟩ := wput_some h
    cases hu : binC op a b with
    | none => rw [hu] at h1; cases h1
    | some v =>
      rw [hu] at h1
      injection h1 with h1; subst h1
      injection h2 with h2 h3; subst h2; subst h3
      exact .here (by simp only [doOp0, rd_c s.fr ha, rd_c s.fr hb, hu]) (s.putc dst v)
  · cases h
theorem eqs_sim {neg : Bool} {ks : List Nat} {x y : Opd} {dst : Option Nat} {X : Cx} {w w' : WFr} {W W' : WHeap} {fr : Fr} (s : SR X w W fr) (h : wOp0 (.eqs neg ks x y) dst w W = some (w', W')) : WSim (.eqs neg ks x y) dst X w W fr w' W' := by
  simp only [wOp0] at h
  split at h
  · rename_i a b ha hb
    obtain ⟨u, h1, h2⟩ := wput_some h
    cases hu : eqL ks a b with
    | none => rw [hu] at h1; cases h1
    | some v =>
      rw [hu] at h1
      injection h1 with h1; subst h1
      injection h2 with h2 h3; subst h2; subst h3
      exact .here (by simp only [doOp0, rd_c s.fr ha, rd_c s.fr hb, hu]) (s.putc dst _)
  · cases h
theorem eqb_sim {neg : Bool} {x y : Opd} {dst : Option Nat} {X : Cx} {w w' : WFr} {W W' : WHeap} {fr : Fr} (s : SR X w W fr) (h : wOp0 (.eqb neg x y) dst w W = some (w', W')) : WSim (.eqb neg x y) dst X w W fr w' W' := by
  simp only [wOp0] at h
  split at h
  · rename_i a b ha hb
    injection h with h; injection h with h1 h2; subst h1; subst h2
    exact .here (by simp only [doOp0, rd_c s.fr ha, rd_c s.fr hb]) (s.putc dst _)
  · cases h
theorem pick_sim {c a b : Opd} {dst : Option Nat} {X : Cx} {w w' : WFr} {W W' : WHeap} {fr : Fr} (s : SR X w W fr) (h : wOp0 (.pick c a b) dst w W = some (w', W')) : WSim (.pick c a b) dst X w W fr w' W' := by
  simp only [wOp0] at h
  split at h
  · rename_i t ht
    cases t with
    | true =>
      simp only [if_true] at h
      split at h
      · rename_i hok
        injection h with h; injection h with h1 h2; subst h1; subst h2
        exact .here (by simp only [doOp0, rd_c s.fr ht]; rfl) (s.put (rdR s.fr Pl.tmp a (okW_ne hok)) (rd_noOwn w a))
      · cases h
    | false =>
      simp only [Bool.false_eq_true, if_false] at h
      split at h
      · rename_i hok
        injection h with h; injection h with h1 h2; subst h1; subst h2
        exact .here (by simp only [doOp0, rd_c s.fr ht]; rfl) (s.put (rdR s.fr Pl.tmp b (okW_ne hok)) (rd_noOwn w b))
      · cases h
  · cases h
theorem cvs_sim {x : Opd} {dst : Option Nat} {X : Cx} {w w' : WFr} {W W' : WHeap} {fr : Fr} (s : SR X w W fr) (h : wOp0 (.cvs x) dst w W = some (w', W')) : WSim (.cvs x) dst X w W fr w' W' := by
  simp only [wOp0] at h
  split at h
  · rename_i a ha
    injection h with h; injection h with h1 h2; subst h1; subst h2
    exact .here (by simp only [doOp0, rd_c s.fr ha]) (s.putc dst _)
  · cases h
theorem cvt_sim {k : IntKind} {x : Opd} {dst : Option Nat} {X : Cx} {w w' : WFr} {W W' : WHeap} {fr : Fr} (s : SR X w W fr) (h : wOp0 (.cvt k x) dst w W = some (w', W')) : WSim (.cvt k x) dst X w W fr w' W' := by
  simp only [wOp0] at h
  split at h
  · rename_i k' n ha
    injection h with h; injection h with h1 h2; subst h1; subst h2
    exact .here (by simp only [doOp0, rd_c s.fr ha]) (s.putc dst _)
  · cases h
theorem mx_sim {m : Bool} {x y : Opd} {dst : Option Nat} {X : Cx} {w w' : WFr} {W W' : WHeap} {fr : Fr} (s : SR X w W fr) (h : wOp0 (.mx m x y) dst w W = some (w', W')) : WSim (.mx m x y) dst X w W fr w' W' := by
  simp only [wOp0] at h
  split at h
  · rename_i k a k' b ha hb
    injection h with h; injection h with h1 h2; subst h1; subst h2
    exact .here (by simp only [doOp0, rd_c s.fr ha, rd_c s.fr hb]) (s.putc dst _)
  · cases h
theorem wint_int {X : Cx} {w : WFr} {fr : Fr} (f : FrR X w fr) {x : Opd} {n : Int} (h : wint (w.rd x) = some n) : getInt (fr.opd x) = some n := by
  cases hv : w.rd x with
  | c a => rw [hv] at h; rw [rd_c f hv]; cases a <;> first | exact h | cases h
  | _ => rw [hv] at h; cases h
theorem six_sim {x i : Opd} {dst : Option Nat} {X : Cx} {w w' : WFr} {W W' : WHeap} {fr : Fr} (s : SR X w W fr) (h : wOp0 (.six x i) dst w W = some (w', W')) : WSim (.six x i) dst X w W fr w' W' := by
  simp only [wOp0] at h
  split at h
  · rename_i t n ha hb
    split at h
    · rename_i hn
      split at h
      · rename_i b hb'
        injection h with h; injection h with h1 h2; subst h1; subst h2
        exact .here (by simp only [doOp0, rd_c s.fr ha, wint_int s.fr hb, if_pos hn, hb']) (s.putc dst _)
      · cases h
    · cases h
  · cases h
end Go.Proofs.Lz
/- Operations that read: what the state with slices as values gives, the evaluator gives. -/
namespace Go.Proofs.Lz

theorem VR_of_1 {X : Cx} {pl : Pl} {q : Nat → Nat → Pl} {v : WV} {h : HV} (r : VR1 X pl v h) (ho : hasOwn1 v = false) : VR X q v h ∧ hasOwn v = false := by
  cases v with
  | own => cases ho
  | agg => exact r.elim
  | tup => exact r.elim
  | lbox => exact r.elim
  | undef => exact r.elim
  | _ => exact ⟨r, rfl⟩
theorem VRL_c {X : Cx} {q : Nat → Pl} : ∀ (l : List CV) (k : Nat), VRL X q k (l.map .c) (l.map .c) := by
  intro l
  induction l with
  | nil => intro k; trivial
  | cons a l ih => intro k; exact ⟨rfl, ih _⟩
theorem VRL.drop {X : Cx} {q : Nat → Pl} : ∀ (n : Nat) {l : List WV} {k : Nat} {s : List HV}, VRL X q k l s → VRL X q (k + n) (l.drop n) (s.drop n) := by
  intro n
  induction n with
  | zero => intro l k s h; exact h
  | succ n ih =>
    intro l k s h
    cases l with
    | nil => cases s with
      | nil => trivial
      | cons => exact h.elim
    | cons v l => cases s with
      | nil => exact h.elim
      | cons a s => have := ih h.2; rw [show k + (n + 1) = k + 1 + n by omega]; exact this
theorem VRL.take {X : Cx} {q : Nat → Pl} : ∀ (n : Nat) {l : List WV} {k : Nat} {s : List HV}, VRL X q k l s → VRL X q k (l.take n) (s.take n) := by
  intro n
  induction n with
  | zero => intro l k s h; trivial
  | succ n ih =>
    intro l k s h
    cases l with
    | nil => cases s with
      | nil => trivial
      | cons => exact h.elim
    | cons v l => cases s with
      | nil => exact h.elim
      | cons a s => exact ⟨h.1, ih h.2⟩
theorem VRL.len {X : Cx} {q : Nat → Pl} : ∀ {l : List WV} {k : Nat} {s : List HV}, VRL X q k l s → l.length = s.length := by
  intro l
  induction l with
  | nil => intro k s h; cases s with
    | nil => rfl
    | cons => exact h.elim
  | cons v l ih => intro k s h; cases s with
    | nil => exact h.elim
    | cons a s => simp only [List.length_cons, ih h.2]
theorem VRL.append {X : Cx} {q : Nat → Pl} : ∀ {l : List WV} {k : Nat} {s : List HV} {l' : List WV} {s' : List HV}, VRL X q k l s → VRL X q (k + l.length) l' s' → VRL X q k (l ++ l') (s ++ s') := by
  intro l
  induction l with
  | nil => intro k s l' s' h h'; cases s with
    | nil => exact h'
    | cons => exact h.elim
  | cons v l ih => intro k s l' s' h h'; cases s with
    | nil => exact h.elim
    | cons a s => exact ⟨h.1, ih h.2 (by rw [List.length_cons] at h'; rw [show k + 1 + l.length = k + (l.length + 1) by omega]; exact h')⟩
theorem any_drop {α : Type} {f : α → Bool} {l : List α} (n : Nat) (h : l.any f = false) : (l.drop n).any f = false := by
  rw [List.any_eq_false] at h ⊢
  exact fun x hx => h x (List.mem_of_mem_drop hx)
theorem any_take {α : Type} {f : α → Bool} {l : List α} (n : Nat) (h : l.any f = false) : (l.take n).any f = false := by
  rw [List.any_eq_false] at h ⊢
  exact fun x hx => h x (List.mem_of_mem_take hx)

theorem VR1.notC {X : Cx} {pl : Pl} {v : WV} {h : HV} (r : VR1 X pl v h) (hv : ∀ u, v ≠ .c u) : ∀ u, h ≠ .c u := by
  intro u hu
  subst hu
  cases v with
  | c u => exact hv u rfl
  | nils => cases r
  | own => cases r.1
  | view => cases r.1
  | imm => obtain ⟨_, _, _, r1, _⟩ := r; cases r1
  | ptr => cases r.1
  | eptr => cases r.1
  | iptr => obtain ⟨_, _, _, r1, _⟩ := r; cases r1
  | fn => obtain ⟨_, _, r1, _⟩ := r; cases r1
  | skipv => cases r
  | gone => exact r.2 u rfl
  | _ => exact r.elim
theorem closeAll_R {X : Cx} {q : Nat → Pl} : ∀ {l : List WV} {k : Nat} {s : List HV}, VRL X q k l s → closeAllW l = closeAll s := by
  intro l
  induction l with
  | nil => intro k s h; cases s with
    | nil => rfl
    | cons => exact h.elim
  | cons v l ih => intro k s h; cases s with
    | nil => exact h.elim
    | cons a s =>
      have hv := h.1
      by_cases hc : ∃ u, v = .c u
      · obtain ⟨u, rfl⟩ := hc
        have : a = .c u := hv
        subst this
        simp only [closeAllW, closeAll, ih h.2]
        cases closeAll s <;> rfl
      · have n := hv.notC (fun u e => hc ⟨u, e⟩)
        have e1 : closeAllW (v :: l) = none := by
          cases v with
          | c u => exact (hc ⟨u, rfl⟩).elim
          | _ => rfl
        have e2 : closeAll (a :: s) = none := by
          cases a with
          | c u => exact (n u rfl).elim
          | _ => rfl
        rw [e1, e2]
theorem mkAgg_R {X : Cx} {q q' : Nat → Pl} {l : List WV} {k : Nat} {s : List HV} (r : VRL X q k l s) (ho : l.any hasOwn1 = false) : VRC X q' (mkAggW l) (mkAgg s) ∧ hasOwn (mkAggW l) = false := by
  unfold mkAggW mkAgg
  rw [closeAll_R r]
  cases closeAll s with
  | some l => exact ⟨rfl, rfl⟩
  | none => exact ⟨⟨s, rfl, r.any ho⟩, ho⟩
theorem part_R {X : Cx} {q : Nat → Pl} {q' : Nat → Nat → Pl} {ek : Option Nat} {cs : List WV} {hs : List HV} {off k : Nat} {v : WV} (r : VRL X q k cs hs) (ho : cs.any hasOwn1 = false) (h : partW ek cs off = some v) :
    ∃ a, partH ek hs off = some a ∧ VR X q' v a ∧ hasOwn v = false := by
  cases ek with
  | none =>
    obtain ⟨a, h1, h2⟩ := r.get (show cs[off]? = some v from h)
    exact ⟨a, h1, VR_of_1 h2 (any_get ho h)⟩
  | some n =>
    simp only [partW] at h
    split at h
    · rename_i hl
      injection h with h; subst h
      refine ⟨_, by simp only [partH]; rw [← r.len, if_pos hl], ?_⟩
      have := mkAgg_R (q' := q' 0) ((r.drop off).take n) (any_take n (any_drop off ho))
      exact ⟨VR_of_C this.1, this.2⟩
    · cases h

theorem elems_R {X : Cx} (hx : XOk X) {q : Nat → Nat → Pl} {ek : Option Nat} {v : WV} {h : HV} (r : VR X q v h) {l : List CV} (he : elemsW ek v = some l) : elemsH ek h X.H = some l := by
  cases v with
  | nils => have r' : h = .nils := r; subst r'; exact he
  | c u =>
    have r' : h = .c u := r
    subst r'
    cases u with
    | frz ek' xs => cases xs <;> exact he
    | _ => cases he
  | view p b off e ek' xs =>
    obtain ⟨rfl, b', ys, r2, r3, r4, r5⟩ := r
    simp only [elemsW] at he
    split at he
    · rename_i hek
      injection he with he; subst he; subst hek
      obtain ⟨zs, z1, z2, z3, z4⟩ := hx.own p _ _ _ _ r2
      simp only [elemsH, z1]
      rw [if_pos ⟨trivial, trivial, by omega⟩]
      rw [← r4, ← z3, List.drop_take, List.take_take, List.drop_drop]
      congr 2
      simp only [List.length_take, List.length_drop]
      omega
    · cases he
  | imm fz ek' xs =>
    obtain ⟨id, ver, off, rfl, fb, e, ys, r1, r2, r3, r4, r5⟩ := r
    simp only [elemsW] at he
    split at he
    · rename_i hek
      injection he with he; subst he; subst hek
      simp only [elemsH, r1]
      rw [if_pos ⟨trivial, trivial, r2⟩, r3]
    · cases he
  | _ => cases he

theorem len_sim {st : Bool} {x : Opd} {dst : Option Nat} {X : Cx} {w w' : WFr} {W W' : WHeap} {fr : Fr} (s : SR X w W fr) (h : wOp0 (.len st x) dst w W = some (w', W')) : WSim (.len st x) dst X w W fr w' W' := by
  simp only [wOp0] at h
  split at h
  · rename_i n hn
    injection h with h; injection h with h1 h2; subst h1; subst h2
    have key : lenH st (fr.opd x) = some n := by
      have r := rdR s.fr Pl.tmp x (by intro e; rw [e] at hn; cases hn)
      cases hv : w.rd x with
      | c u => rw [rd_c s.fr hv]; rw [hv] at hn; cases u <;> first | exact hn | cases hn
      | nils => rw [hv] at hn r; have : fr.opd x = .nils := r; rw [this]; exact hn
      | view p b off e ek xs => rw [hv] at hn r; rw [r.1]; exact hn
      | imm fz ek xs => rw [hv] at hn r; obtain ⟨id, ver, off, r1, _⟩ := r; rw [r1]; exact hn
      | _ => rw [hv] at hn; cases hn
    exact .here (by simp only [doOp0, key]) (s.putc dst _)
  · cases h
theorem sub_get {α : Type} {ys xs : List α} {off : Nat} (h : (ys.drop off).take xs.length = xs) {i : Nat} {x : α} (hi : xs[i]? = some x) : ys[off + i]? = some x := by
  rw [← h] at hi
  rw [List.getElem?_take] at hi
  split at hi
  · rw [List.getElem?_drop] at hi; exact hi
  · cases hi
theorem ix_sim {ek : Option Nat} {x i : Opd} {dst : Option Nat} {X : Cx} {w w' : WFr} {W W' : WHeap} {fr : Fr} (s : SR X w W fr) (h : wOp0 (.ix ek x i) dst w W = some (w', W')) : WSim (.ix ek x i) dst X w W fr w' W' := by
  simp only [wOp0] at h
  split at h
  · rename_i n hn
    obtain ⟨u, h1, h2⟩ := wput_some h
    injection h2 with h2 h3; subst h2; subst h3
    have key : ∃ a, ixH ek (fr.opd x) n X.H = some a ∧ VR X Pl.tmp u a ∧ hasOwn u = false := by
      have r := rdR s.fr Pl.tmp x (by intro e; rw [e] at h1; cases h1)
      cases hv : w.rd x with
      | c v =>
        rw [rd_c s.fr hv]; rw [hv] at h1
        cases v with
        | frz ek' xs =>
          simp only [ixW] at h1
          split at h1
          · rename_i hc
            split at h1
            · rename_i v hx
              injection h1 with h1; subst h1
              exact ⟨_, by simp only [ixH]; rw [if_pos hc, hx], rfl, rfl⟩
            · cases h1
          · cases h1
        | _ => cases h1
      | view p b off e ek' xs =>
        rw [hv] at h1 r
        obtain ⟨r1, b', ys, r2, r3, r4, r5⟩ := r
        simp only [ixW] at h1
        split at h1
        · rename_i hc
          split at h1
          · rename_i v hx
            injection h1 with h1; subst h1
            obtain ⟨hc1, hc2⟩ := hc
            subst hc1
            obtain ⟨zs, z1, z2, z3, z4⟩ := s.ok.own p _ _ _ _ r2
            have hlt := (List.getElem?_eq_some_iff.1 hx).1
            refine ⟨.eptr (X.th p).1 (X.th p).2.1 ((X.th p).2.2 + off + n.toNat) 0, ?_, ⟨by rw [Nat.add_assoc], b', e, ys, r2, sub_get r4 hx⟩, rfl⟩
            rw [r1]
            simp only [ixH, z1]
            rw [if_pos ⟨trivial, trivial, hc2, by omega⟩]
          · cases h1
        · cases h1
      | imm fz ek' xs =>
        rw [hv] at h1 r
        obtain ⟨id, ver, off, r1, fb, e, ys, r2, r3, r4, r5⟩ := r
        simp only [ixW] at h1
        split at h1
        · rename_i hc
          split at h1
          · rename_i v hx
            injection h1 with h1; subst h1
            obtain ⟨hc1, hc2⟩ := hc
            subst hc1
            have hlt := (List.getElem?_eq_some_iff.1 hx).1
            refine ⟨.eptr id ver (off + n.toNat) 0, ?_, ⟨id, ver, off + n.toNat, rfl, fb, e, ys, r2, sub_get r4 hx, r5⟩, rfl⟩
            rw [r1]
            simp only [ixH, r2]
            rw [if_pos ⟨trivial, trivial, hc2, by omega⟩]
          · cases h1
        · cases h1
      | _ => rw [hv] at h1; cases h1
    obtain ⟨a, k1, k2, k3⟩ := key
    exact .here (by simp only [doOp0, wint_int s.fr hn, k1]) (s.put k2 k3)
  · cases h

theorem optI_R {X : Cx} {w : WFr} {fr : Fr} (f : FrR X w fr) {o : Option Opd} {n : Option Int} (h : woptI w o = some n) : optI fr o = some n := by
  cases o with
  | none => exact h
  | some x =>
    simp only [woptI] at h
    split at h
    · rename_i i hi
      simp only [optI, wint_int f hi]
      exact h
    · cases h
theorem subsub {α : Type} (ys xs : List α) (off l n : Nat) (h : (ys.drop off).take xs.length = xs) (hl : l + n ≤ xs.length) : (ys.drop (off + l)).take n = (xs.drop l).take n := by
  rw [← h, List.drop_take, List.take_take, List.drop_drop]
  congr 1
  omega
theorem slc_sim {st : Bool} {ek : Option Nat} {x : Opd} {lo hi : Option Opd} {dst : Option Nat} {X : Cx} {w w' : WFr} {W W' : WHeap} {fr : Fr} (s : SR X w W fr) (h : wOp0 (.slc st ek x lo hi) dst w W = some (w', W')) : WSim (.slc st ek x lo hi) dst X w W fr w' W' := by
  simp only [wOp0] at h
  split at h
  · rename_i l n hl hn
    obtain ⟨u, h1, h2⟩ := wput_some h
    injection h2 with h2 h3; subst h2; subst h3
    have key : ∃ a, slcH st ek (fr.opd x) l n X.H = some a ∧ VR X Pl.tmp u a ∧ hasOwn u = false := by
      have r := rdR s.fr Pl.tmp x (by intro e; rw [e] at h1; cases h1)
      cases hv : w.rd x with
      | c v =>
        rw [rd_c s.fr hv]; rw [hv] at h1
        cases v with
        | frz ek' xs =>
          simp only [slcW] at h1
          split at h1
          · rename_i hc
            injection h1 with h1; subst h1
            exact ⟨_, by simp only [slcH]; rw [if_pos hc], rfl, rfl⟩
          · cases h1
        | str t =>
          simp only [slcW] at h1
          split at h1
          · rename_i hc
            injection h1 with h1; subst h1
            exact ⟨_, by simp only [slcH]; rw [if_pos hc], rfl, rfl⟩
          · cases h1
        | _ => cases h1
      | nils =>
        rw [hv] at h1 r
        have : fr.opd x = .nils := r
        rw [this]
        simp only [slcW] at h1
        split at h1
        · rename_i hc
          injection h1 with h1; subst h1
          exact ⟨_, by simp only [slcH]; rw [if_pos hc], rfl, rfl⟩
        · cases h1
      | view p b off e ek' xs =>
        rw [hv] at h1 r
        obtain ⟨r1, b', ys, r2, r3, r4, r5⟩ := r
        simp only [slcW] at h1
        split at h1
        · rename_i hc
          injection h1 with h1; subst h1
          obtain ⟨hc1, hc2, hc3, hc4, hc5⟩ := hc
          subst hc1
          obtain ⟨zs, z1, z2, z3, z4⟩ := s.ok.own p _ _ _ _ r2
          have e1 : ((xs.drop (l.getD 0).toNat).take ((n.getD xs.length).toNat - (l.getD 0).toNat)).length = (n.getD xs.length).toNat - (l.getD 0).toNat := by
            simp only [List.length_take, List.length_drop]; omega
          refine ⟨.sl (X.th p).1 (X.th p).2.1 ((X.th p).2.2 + off + (l.getD 0).toNat) ((n.getD xs.length).toNat - (l.getD 0).toNat), ?_, ⟨by rw [e1, Nat.add_assoc], b', ys, r2, by rw [e1]; omega, ?_, ?_⟩, rfl⟩
          · rw [r1]
            simp only [slcH, z1]
            rw [if_pos ⟨trivial, trivial⟩, if_pos ⟨hc2, hc3, hc4, hc5⟩]
          · rw [e1]
            exact subsub ys xs off _ _ r4 (by omega)
          · intro hb
            simp only [Bool.and_eq_true, decide_eq_true_eq] at hb
            obtain ⟨q1, q2⟩ := r5 hb.1
            exact ⟨q1, by rw [q2, hb.2]; rfl⟩
        · cases h1
      | imm fz ek' xs =>
        rw [hv] at h1 r
        obtain ⟨id, ver, off, r1, fb, e, ys, r2, r3, r4, r5⟩ := r
        simp only [slcW] at h1
        split at h1
        · rename_i hc
          injection h1 with h1; subst h1
          obtain ⟨hc1, hc2, hc3, hc4, hc5⟩ := hc
          subst hc1
          have e1 : ((xs.drop (l.getD 0).toNat).take ((n.getD xs.length).toNat - (l.getD 0).toNat)).length = (n.getD xs.length).toNat - (l.getD 0).toNat := by
            simp only [List.length_take, List.length_drop]; omega
          refine ⟨.sl id ver (off + (l.getD 0).toNat) ((n.getD xs.length).toNat - (l.getD 0).toNat), ?_, ⟨id, ver, off + (l.getD 0).toNat, by rw [e1], fb, e, ys, r2, by rw [e1]; omega, ?_, r5⟩, rfl⟩
          · rw [r1]
            simp only [slcH, r2]
            rw [if_pos ⟨trivial, trivial⟩, if_pos ⟨hc2, hc3, hc4, hc5⟩]
          · rw [e1]
            exact subsub ys xs off _ _ r4 (by omega)
        · cases h1
      | _ => rw [hv] at h1; cases h1
    obtain ⟨a, k1, k2, k3⟩ := key
    exact .here (by simp only [doOp0, optI_R s.fr hl, optI_R s.fr hn, k1]) (s.put k2 k3)
  · cases h
theorem b2s_sim {x : Opd} {dst : Option Nat} {X : Cx} {w w' : WFr} {W W' : WHeap} {fr : Fr} (s : SR X w W fr) (h : wOp0 (.b2s x) dst w W = some (w', W')) : WSim (.b2s x) dst X w W fr w' W' := by
  simp only [wOp0] at h
  split at h
  · rename_i l hl
    injection h with h; injection h with h1 h2; subst h1; subst h2
    obtain ⟨t, h1, h2⟩ := Option.bind_eq_some_iff.1 hl
    have r := rdR s.fr Pl.tmp x (by intro e; rw [e] at h1; cases h1)
    have he := elems_R s.ok r h1
    exact .here (by simp only [doOp0, he, Option.bind_some, h2]) (s.putc dst _)
  · cases h
theorem fld_sim {ek : Option Nat} {off : Nat} {x : Opd} {dst : Option Nat} {X : Cx} {w w' : WFr} {W W' : WHeap} {fr : Fr} (s : SR X w W fr) (h : wOp0 (.fld ek off x) dst w W = some (w', W')) : WSim (.fld ek off x) dst X w W fr w' W' := by
  simp only [wOp0] at h
  split at h
  · rename_i cs hcs
    obtain ⟨u, h1, h2⟩ := wput_some h
    injection h2 with h2 h3; subst h2; subst h3
    have r := rdR s.fr Pl.tmp x (by intro e; rw [e] at hcs; cases hcs)
    have ho := rd_noOwn w x
    cases hv : w.rd x with
    | c v =>
      rw [hv] at hcs
      cases v with
      | agg l =>
        injection hcs with hcs; subst hcs
        obtain ⟨a, k1, k2, k3⟩ := part_R (q' := Pl.tmp) (VRL_c (X := X) (q := Pl.tmp 0) l 0) (by simp [hasOwn1]) h1
        exact .here (by simp only [doOp0, rd_c s.fr hv, aggH, k1]) (s.put k2 k3)
      | _ => cases hcs
    | agg l =>
      rw [hv] at hcs r ho
      injection hcs with hcs; subst hcs
      obtain ⟨hs, r1, r2⟩ := r
      obtain ⟨a, k1, k2, k3⟩ := part_R (q' := Pl.tmp) r2 ho h1
      exact .here (by simp only [doOp0, r1, aggH, k1]) (s.put k2 k3)
    | _ => rw [hv] at hcs; cases hcs
  · cases h
theorem ptr_of {X : Cx} {w : WFr} {fr : Fr} (f : FrR X w fr) {x : Opd} {v : WV} (h : w.rd x = v) (hg : v ≠ .gone) : VR X Pl.tmp v (fr.opd x) := by
  have := rdR f Pl.tmp x (by rw [h]; exact hg)
  rw [h] at this
  exact this
theorem faddr_sim {n : Nat} {a : Opd} {dst : Option Nat} {X : Cx} {w w' : WFr} {W W' : WHeap} {fr : Fr} (s : SR X w W fr) (h : wOp0 (.faddr n a) dst w W = some (w', W')) : WSim (.faddr n a) dst X w W fr w' W' := by
  simp only [wOp0] at h
  rw [place_eq s.fr] at h
  cases hp : fr.place a with
  | some p =>
    obtain ⟨b, off⟩ := p
    rw [hp] at h
    obtain ⟨h1, h2⟩ := link_sim s h
    exact .here (by simp only [doOp0, hp]; exact h1) h2
  | none =>
    rw [hp] at h
    simp only at h
    split at h
    · rename_i id off hv
      injection h with h; injection h with h1 h2; subst h1; subst h2
      have r := ptr_of s.fr hv (by simp)
      exact .here (by simp only [doOp0, hp]; rw [r.1]) (s.put (q := Pl.tmp) ⟨rfl, r.2⟩ rfl)
    · rename_i pl i off ek x hv
      injection h with h; injection h with h1 h2; subst h1; subst h2
      have r := ptr_of s.fr hv (by simp)
      exact .here (by simp only [doOp0, hp]; rw [r.1]) (s.put (q := Pl.tmp) ⟨rfl, r.2⟩ rfl)
    · rename_i fz ek x off hv
      injection h with h; injection h with h1 h2; subst h1; subst h2
      obtain ⟨id, ver, i, r1, r2⟩ := ptr_of s.fr hv (by simp)
      exact .here (by simp only [doOp0, hp]; rw [r1]) (s.put (q := Pl.tmp) ⟨id, ver, i, rfl, r2⟩ rfl)
    · rename_i ek x off hv
      injection h with h; injection h with h1 h2; subst h1; subst h2
      exact .here (by simp only [doOp0, hp, rd_c s.fr hv]) (s.putc dst _)
    · cases h
theorem nck_sim {a : Opd} {dst : Option Nat} {X : Cx} {w w' : WFr} {W W' : WHeap} {fr : Fr} (s : SR X w W fr) (h : wOp0 (.nck a) dst w W = some (w', W')) : WSim (.nck a) dst X w W fr w' W' := by
  simp only [wOp0] at h
  rw [place_eq s.fr] at h
  cases hp : fr.place a with
  | some p =>
    obtain ⟨b, off⟩ := p
    rw [hp] at h
    obtain ⟨h1, h2⟩ := link_sim s h
    exact .here (by simp only [doOp0, hp]; exact h1) h2
  | none =>
    rw [hp] at h
    simp only at h
    split at h
    · rename_i id off hv
      injection h with h; injection h with h1 h2; subst h1; subst h2
      have r := ptr_of s.fr hv (by simp)
      exact .here (by simp only [doOp0, hp]; rw [r.1]) (s.put (q := Pl.tmp) ⟨rfl, r.2⟩ rfl)
    · rename_i pl i off ek x hv
      injection h with h; injection h with h1 h2; subst h1; subst h2
      have r := ptr_of s.fr hv (by simp)
      exact .here (by simp only [doOp0, hp]; rw [r.1]) (s.put (q := Pl.tmp) ⟨rfl, r.2⟩ rfl)
    · rename_i fz ek x off hv
      injection h with h; injection h with h1 h2; subst h1; subst h2
      obtain ⟨id, ver, i, r1, r2⟩ := ptr_of s.fr hv (by simp)
      exact .here (by simp only [doOp0, hp]; rw [r1]) (s.put (q := Pl.tmp) ⟨id, ver, i, rfl, r2⟩ rfl)
    · rename_i ek x off hv
      injection h with h; injection h with h1 h2; subst h1; subst h2
      exact .here (by simp only [doOp0, hp, rd_c s.fr hv]) (s.putc dst _)
    · cases h

/-- A component's cells. -/
theorem flat_R {X : Cx} {q : Nat → Pl} {v : WV} {h : HV} (r : VRC X q v h) (h1 : v ≠ .undef) (h2 : v ≠ .gone) : VRL X q 0 v.flat h.flat := by
  cases v with
  | agg cs => obtain ⟨hs, rfl, r2⟩ := r; exact r2
  | undef => exact (h1 rfl).elim
  | gone => exact (h2 rfl).elim
  | tup => exact r.elim
  | lbox => exact r.elim
  | c u =>
    have r' : h = .c u := r
    subst r'
    cases u <;> first | exact VRL_c _ 0 | exact ⟨rfl, trivial⟩
  | nils => have r' : h = .nils := r; subst r'; exact ⟨rfl, trivial⟩
  | skipv => have r' : h = .skipv := r; subst r'; exact ⟨rfl, trivial⟩
  | own b e ek xs => have r' := r; obtain ⟨rfl, _⟩ := r; exact ⟨r', trivial⟩
  | view p b off e ek xs => have r' := r; obtain ⟨rfl, _⟩ := r; exact ⟨r', trivial⟩
  | imm fz ek xs => have r' := r; obtain ⟨id, ver, off, rfl, _⟩ := r; exact ⟨r', trivial⟩
  | ptr id off => have r' := r; obtain ⟨rfl, _⟩ := r; exact ⟨r', trivial⟩
  | eptr p i off ek x => have r' := r; obtain ⟨rfl, _⟩ := r; exact ⟨r', trivial⟩
  | iptr fz ek x off => have r' := r; obtain ⟨id, ver, i, rfl, _⟩ := r; exact ⟨r', trivial⟩
  | fn f a b => have r' := r; obtain ⟨a', b', rfl, _⟩ := r; exact ⟨r', trivial⟩
theorem flat_noOwn {v : WV} (h : hasOwnC v = false) : v.flat.any hasOwn1 = false := by
  cases v with
  | agg cs => exact h
  | own => cases h
  | c u => cases u <;> simp [WV.flat, hasOwn1]
  | _ => rfl
theorem load_sim {ek : Option Nat} {a : Opd} {dst : Option Nat} {X : Cx} {w w' : WFr} {W W' : WHeap} {fr : Fr} (s : SR X w W fr) (h : wOp0 (.load ek a) dst w W = some (w', W')) : WSim (.load ek a) dst X w W fr w' W' := by
  simp only [wOp0] at h
  rw [place_eq s.fr] at h
  cases hp : fr.place a with
  | some p =>
    obtain ⟨b, off⟩ := p
    rw [hp] at h
    simp only at h
    split at h
    · rename_i ek' x hb
      obtain ⟨u, h1, h2⟩ := wput_some h
      injection h2 with h2 h3; subst h2; subst h3
      have r := s.fr.env b
      rw [hb] at r
      obtain ⟨x1, r1, r2⟩ := r
      have r3 : VRC X (Pl.tmp 0) (peekC (Pl.sl b 0) x) x1 := r2.peek
      have ho := peekC_noOwn (Pl.sl b 0) x
      have key : ∃ y, (if off = 0 ∧ ek' = ek then some x1 else partH ek x1.flat off) = some y ∧ VR X Pl.tmp u y ∧ hasOwn u = false := by
        split at h1
        · rename_i hc
          injection h1 with h1; subst h1
          refine ⟨x1, by rw [if_pos hc], VR_of_C r3, ?_⟩
          revert ho
          cases x with
          | tup => exact r2.elim
          | lbox => exact r2.elim
          | _ => exact fun x => x
        · rename_i hc
          rw [if_neg hc]
          by_cases hu : peekC (Pl.sl b 0) x = .undef ∨ peekC (Pl.sl b 0) x = .gone
          · have e : (peekC (Pl.sl b 0) x).flat = [] := by rcases hu with hu | hu <;> rw [hu] <;> rfl
            rw [e] at h1
            cases ek with
            | none => simp [partW] at h1
            | some n =>
              have h2 : off + n ≤ 0 := by
                simp only [partW, List.length_nil] at h1
                by_cases hh : off + n ≤ 0
                · exact hh
                · rw [if_neg hh] at h1; cases h1
              have e1 : off = 0 := by omega
              have e2 : n = 0 := by omega
              subst e1; subst e2
              have h3 : u = .c (.agg []) := by
                simp [partW, mkAggW, closeAllW] at h1
                exact h1.symm
              subst h3
              exact ⟨.c (.agg []), by simp [partH, mkAgg, closeAll], rfl, rfl⟩
          · exact part_R (flat_R r3 (fun e => hu (.inl e)) (fun e => hu (.inr e))) (flat_noOwn ho) h1
      obtain ⟨y, k1, k2, k3⟩ := key
      exact .here (by simp only [doOp0, hp, r1, k1]) (s.put k2 k3)
    · cases h
  | none =>
    rw [hp] at h
    simp only at h
    obtain ⟨u, h1, h2⟩ := wput_some h
    injection h2 with h2 h3; subst h2; subst h3
    have key : ∃ y, loadH ek (fr.opd a) X.H = some y ∧ VR X Pl.tmp u y ∧ hasOwn u = false := by
      cases hv : w.rd a with
      | c v =>
        rw [rd_c s.fr hv]; rw [hv] at h1
        cases v with
        | fptr ek' x off =>
          simp only [loadW] at h1
          cases hr : readC ek' ek x off with
          | none => rw [hr] at h1; cases h1
          | some z =>
            rw [hr] at h1
            injection h1 with h1; subst h1
            exact ⟨_, by simp only [loadH, hr]; rfl, rfl, rfl⟩
        | _ => cases h1
      | ptr id off =>
        have r := ptr_of s.fr hv (by simp)
        rw [hv] at h1
        simp only [loadW] at h1
        cases hw : W'[id]? with
        | none => rw [hw] at h1; cases h1
        | some o =>
          obtain ⟨ek', cs⟩ := o
          rw [hw] at h1
          simp only at h1
          obtain ⟨⟨hs, c1, c2⟩, c3⟩ := s.hp.cells id ek' cs hw
          obtain ⟨y, k1, k2, k3⟩ := part_R (q' := Pl.tmp) (c2.peek (q' := Pl.tmp 0) (k' := 0)) (peekL_noOwn _ cs 0) h1
          exact ⟨y, by rw [r.1]; simp only [loadH, c1, k1], k2, k3⟩
      | eptr p i off ek' x =>
        have r := ptr_of s.fr hv (by simp)
        rw [hv] at h1
        obtain ⟨r1, b', e, ys, r2, r3⟩ := r
        simp only [loadW] at h1
        cases hr : readC ek' ek x off with
        | none => rw [hr] at h1; cases h1
        | some z =>
          rw [hr] at h1
          injection h1 with h1; subst h1
          obtain ⟨zs, z1, z2, z3, z4⟩ := s.ok.own p _ _ _ _ r2
          have hz := sub_get z3 r3
          exact ⟨_, by rw [r1]; simp only [loadH, z1, if_true, hz, hr]; rfl, rfl, rfl⟩
      | iptr fz ek' x off =>
        obtain ⟨id, ver, i, r1, fb, e, ys, r2, r3, r4⟩ := ptr_of s.fr hv (by simp)
        rw [hv] at h1
        simp only [loadW] at h1
        cases hr : readC ek' ek x off with
        | none => rw [hr] at h1; cases h1
        | some z =>
          rw [hr] at h1
          injection h1 with h1; subst h1
          exact ⟨_, by rw [r1]; simp only [loadH, r2, if_true, r3, hr]; rfl, rfl, rfl⟩
      | _ => rw [hv] at h1; cases h1
    obtain ⟨y, k1, k2, k3⟩ := key
    exact .here (by simp only [doOp0, hp, k1]) (s.put k2 k3)
end Go.Proofs.Lz
/- Structs built, function values, appending: what the state with slices as values gives, the evaluator gives. -/
namespace Go.Proofs.Lz

theorem toC_rd {X : Cx} {q : Nat → Nat → Pl} {v : WV} {h : HV} (r : VR X q v h) (h1 : ∀ vs, v ≠ .tup vs) (h2 : ∀ ek w, v ≠ .lbox ek w) (ho : hasOwn v = false) : VRC X (q 0) v h ∧ hasOwnC v = false := by
  refine ⟨r.toC h1 h2, ?_⟩
  cases v with
  | tup vs => exact (h1 _ rfl).elim
  | lbox ek w => exact (h2 _ _ rfl).elim
  | _ => exact ho
theorem fitsB_R {X : Cx} {q : Nat → Nat → Pl} {q' : Nat → Pl} {ek : Option Nat} {v : WV} {h : HV} (r : VR X q v h) (ho : hasOwn v = false) (hf : fitsB ek v = true) :
    fitsH ek h = true ∧ VRL X q' 0 v.flat h.flat ∧ v.flat.any hasOwn1 = false := by
  have h1 : ∀ vs, v ≠ .tup vs := by intro vs e; subst e; cases ek <;> cases hf
  have h2 : ∀ ek w, v ≠ .lbox ek w := by intro ek' w e; subst e; cases ek <;> cases hf
  have h3 : v ≠ .undef := by intro e; subst e; cases ek <;> cases hf
  have h4 : v ≠ .gone := by intro e; subst e; cases ek <;> cases hf
  obtain ⟨rc, oc⟩ := toC_rd r h1 h2 ho
  refine ⟨?_, (flat_R rc h3 h4).any (flat_noOwn oc), flat_noOwn oc⟩
  cases v with
  | c u =>
    have r' : h = .c u := r
    subst r'
    cases ek with
    | none => cases u <;> first | rfl | cases hf
    | some n => exact hf
  | agg cs =>
    obtain ⟨hs, rfl, r2⟩ := r
    cases ek with
    | none => cases hf
    | some n =>
      simp only [fitsB, Bool.and_eq_true] at hf
      simp only [fitsH, ← r2.len]
      exact hf.1
  | nils => have r' : h = .nils := r; subst r'; cases ek <;> first | rfl | cases hf
  | own => cases ho
  | view p b off e ek' xs => obtain ⟨rfl, _⟩ := r; cases ek <;> first | rfl | cases hf
  | imm fz ek' xs => obtain ⟨id, ver, off, rfl, _⟩ := r; cases ek <;> first | rfl | cases hf
  | ptr id off => obtain ⟨rfl, _⟩ := r; cases ek <;> first | rfl | cases hf
  | fn f a b => obtain ⟨a', b', rfl, _⟩ := r; cases ek <;> first | rfl | cases hf
  | _ => cases ek <;> cases hf
theorem fitsW_B {ek : Option Nat} {v : WV} (h : fitsW ek v = true) : fitsB ek v = true := by
  have key : ∀ v, cellW v = true → cellB v = true := by
    intro v hv
    cases v with
    | imm fz ek xs => cases fz <;> rfl
    | _ => exact hv
  cases ek with
  | none => exact key v h
  | some n =>
    cases v with
    | c u => exact h
    | agg cs =>
      simp only [fitsW, fitsB, Bool.and_eq_true, List.all_eq_true] at h ⊢
      exact ⟨h.1, fun x hx => key x (h.2 x hx)⟩
    | _ => cases h
theorem setPart_R {X : Cx} {q : Nat → Pl} {cs new : List WV} {hs nh : List HV} (r : VRL X q 0 cs hs) (ho : cs.any hasOwn1 = false) (rn : VRL X q 0 new nh) (hn : new.any hasOwn1 = false) (off : Nat) :
    VRL X q 0 (setPartW cs off new) (setPart hs off nh) ∧ (setPartW cs off new).any hasOwn1 = false := by
  have e := rn.len
  refine ⟨?_, by simp [setPartW, any_take off ho, hn, any_drop (off + new.length) ho]⟩
  have := ((r.take off).append (rn.any hn (k' := 0 + (cs.take off).length))).append ((r.drop (off + new.length)).any (any_drop _ ho) (k' := 0 + (cs.take off ++ new).length))
  simp only [setPartW, setPart, ← e]
  exact this
theorem fill_R {X : Cx} {w : WFr} {fr : Fr} (f : FrR X w fr) {q : Nat → Pl} : ∀ (ps : List (Nat × Nat × Opd)) {cs cs' : List WV} {hs : List HV}, VRL X q 0 cs hs → cs.any hasOwn1 = false →
    fillW cs (ps.map fun p => (p.1, p.2.1, w.rd p.2.2)) = some cs' → ∃ hs', fillH hs (ps.map fun p => (p.1, p.2.1, fr.opd p.2.2)) = some hs' ∧ VRL X q 0 cs' hs' ∧ cs'.any hasOwn1 = false := by
  intro ps
  induction ps with
  | nil => intro cs cs' hs r ho h; injection h with h; subst h; exact ⟨hs, rfl, r, ho⟩
  | cons p ps ih =>
    obtain ⟨off, n, x⟩ := p
    intro cs cs' hs r ho h
    simp only [List.map_cons, fillW] at h
    split at h
    · rename_i hc
      have hg : w.rd x ≠ .gone := by
        intro e; rw [e] at hc
        have := hc.1
        simp [fitsWN, fitsB, cellB, cellW] at this
      have rx := rdR f Pl.tmp x hg
      have ox := rd_noOwn w x
      have key : fitsN n (fr.opd x) = true ∧ VRL X q 0 (w.rd x).flat (fr.opd x).flat ∧ (w.rd x).flat.any hasOwn1 = false := by
        have h1 := hc.1
        simp only [fitsWN, Bool.or_eq_true, Bool.and_eq_true] at h1
        rcases h1 with h1 | h1
        · obtain ⟨a, b, c⟩ := fitsB_R (q' := q) rx ox h1
          exact ⟨by simp only [fitsN, a, Bool.true_or], b, c⟩
        · obtain ⟨a, b, c⟩ := fitsB_R (q' := q) rx ox h1.2
          exact ⟨by simp only [fitsN, a, h1.1, Bool.and_true, Bool.or_true], b, c⟩
      obtain ⟨k1, k2, k3⟩ := key
      obtain ⟨s1, s2⟩ := setPart_R r ho k2 k3 off
      obtain ⟨hs', i1, i2, i3⟩ := ih s1 s2 h
      refine ⟨hs', ?_, i2, i3⟩
      simp only [List.map_cons, fillH]
      rw [if_pos ⟨k1, by rw [← r.len]; exact hc.2⟩]
      exact i1
    · cases h
theorem zero_R {X : Cx} {q : Nat → Pl} : ∀ (l : List HV) (k : Nat), l.all isC = true → VRL X q k (l.map ofHV1) l := by
  intro l
  induction l with
  | nil => intro k _; trivial
  | cons a l ih =>
    intro k hl
    simp only [List.all_cons, Bool.and_eq_true] at hl
    refine ⟨?_, ih (k + 1) hl.2⟩
    cases a <;> first | rfl | cases hl.1
theorem build_sim {zero : List HV} {parts : List (Nat × Nat × Opd)} {dst : Option Nat} {X : Cx} {w w' : WFr} {W W' : WHeap} {fr : Fr} (s : SR X w W fr) (h : wOp0 (.build zero parts) dst w W = some (w', W')) : WSim (.build zero parts) dst X w W fr w' W' := by
  simp only [wOp0] at h
  split at h
  · rename_i hz
    split at h
    · rename_i cs hcs
      injection h with h; injection h with h1 h2; subst h1; subst h2
      obtain ⟨hs', k1, k2, k3⟩ := fill_R s.fr parts (zero_R (q := Pl.tmp 0) zero 0 hz) (ofHVL_noOwn zero) hcs
      have := mkAgg_R (q' := Pl.tmp 0) k2 k3
      exact .here (by simp only [doOp0, k1]) (s.put (VR_of_C (q := Pl.tmp) this.1) this.2)
    · cases h
  · cases h
theorem plain_R {X : Cx} {w : WFr} {fr : Fr} (f : FrR X w fr) : ∀ (l : List Opd), (l.map w.rd).all plainW = true → PlainR X (l.map w.rd) (l.map fr.opd) := by
  intro l
  induction l with
  | nil => intro _; trivial
  | cons x l ih =>
    intro h
    simp only [List.map_cons, List.all_cons, Bool.and_eq_true] at h
    have h2 := ih h.2
    have rx := rdR f Pl.tmp x (by intro e; rw [e] at h; cases h.1)
    simp only [List.map_cons]
    cases hv : w.rd x with
    | c u => exact ⟨rd_c f hv, h2⟩
    | nils => rw [hv] at rx; exact ⟨rx, h2⟩
    | ptr id off => rw [hv] at rx; exact ⟨rx, h2⟩
    | _ => rw [hv] at h; cases h.1
theorem PlainR.close {X : Cx} : ∀ {l : List WV} {s : List HV}, PlainR X l s → closeAllW l = closeAll s := by
  intro l
  induction l with
  | nil => intro s h; cases s with
    | nil => rfl
    | cons => exact h.elim
  | cons v l ih =>
    intro s h
    cases s with
    | nil => cases v <;> exact h.elim
    | cons a s =>
      cases v with
      | c v =>
        have h' : a = .c v ∧ PlainR X l s := h
        obtain ⟨rfl, h2⟩ := h'
        simp only [closeAllW, closeAll, ih h2]
        cases closeAll s <;> rfl
      | nils => have h' : a = .nils ∧ PlainR X l s := h; obtain ⟨rfl, h2⟩ := h'; rfl
      | ptr id off => obtain ⟨⟨h1, h2⟩, h3⟩ := h; subst h1; rfl
      | _ => exact h.elim
theorem mkf_sim {f : Nat} {first cap : List Opd} {dst : Option Nat} {X : Cx} {w w' : WFr} {W W' : WHeap} {fr : Fr} (s : SR X w W fr) (h : wOp0 (.mkf f first cap) dst w W = some (w', W')) : WSim (.mkf f first cap) dst X w W fr w' W' := by
  simp only [wOp0] at h
  split at h
  · rename_i hc
    injection h with h; injection h with h1 h2; subst h1; subst h2
    have p1 := plain_R s.fr first hc.1
    have p2 := plain_R s.fr cap hc.2
    refine .here (fr' := _) rfl ?_
    rw [p1.close, p2.close]
    cases closeAll (first.map fr.opd) with
    | none => exact s.put (q := Pl.tmp) ⟨_, _, rfl, p1, p2⟩ rfl
    | some a =>
      cases closeAll (cap.map fr.opd) with
      | none => exact s.put (q := Pl.tmp) ⟨_, _, rfl, p1, p2⟩ rfl
      | some b => exact s.putc dst _
  · cases h
theorem ext_sim {x : Opd} {i : Nat} {dst : Option Nat} {X : Cx} {w w' : WFr} {W W' : WHeap} {fr : Fr} (s : SR X w W fr) (h : wOp0 (.ext x i) dst w W = some (w', W')) : WSim (.ext x i) dst X w W fr w' W' := by
  simp only [wOp0] at h
  split at h
  · rename_i t
    split at h
    · rename_i vs hvs
      split at h
      · rename_i v hv
        split at h
        · rename_i v' w1 W1 ht
          injection h with h; injection h with h1 h2; subst h1; subst h2
          obtain ⟨hn, hr⟩ := take_eq ht
          injection hr with hr1 hr2; injection hr2 with hr2 hr3; subst hr1; subst hr2; subst hr3
          have r := s.fr.env t
          rw [hvs] at r
          obtain ⟨hs, r1, r2⟩ := r
          obtain ⟨a, g1, g2⟩ := r2.get hv
          have r3 : VRC X (Pl.tmp 0) (peekC (Pl.sl t i) v) a := by
            rw [Nat.zero_add] at g2
            exact g2.peek
          have hb : ∀ ek z, peekC (Pl.sl t i) v ≠ .lbox ek z := by
            intro ek z e
            rw [e] at r3
            exact r3.elim
          have ht' : ∀ vs, peekC (Pl.sl t i) v ≠ .tup vs := by
            intro vs e
            rw [e] at r3
            exact r3.elim
          have ho : hasOwn (peekC (Pl.sl t i) v) = false := by
            have := peekC_noOwn (Pl.sl t i) v
            revert this hb ht'
            cases peekC (Pl.sl t i) v with
            | tup vs => intro hb ht' _; exact (ht' _ rfl).elim
            | lbox ek z => intro hb ht' _; exact (hb _ _ rfl).elim
            | _ => intro hb ht' h; exact h
          obtain ⟨Y, hY, st, hH, _⟩ := s.take (VR_of_C (q := Pl.tmp) r3) ho hb hn
          have d0 : doOp0 (.ext (.t t) i) dst fr X.H = some (fr.put dst a, X.H) := by
            simp only [doOp0, Fr.opd, r1, unbox, g1]
          cases dst with
          | none =>
            refine ⟨Y.hide, fr, ?_, ?_, ?_⟩
            · rw [d0]; show some (fr, X.H) = some (fr, Y.H); rw [hH]
            · exact ⟨hY.ok.hide, hY.fr, hY.hp, fun i k => rfl⟩
            · exact ⟨st.n, st.rho, st.F, st.rows⟩
          | some d =>
            obtain ⟨Z, hZ, st', hH'⟩ := hY.putD d
            exact ⟨Z, _, by rw [d0, hH', hH], hZ, st.trans st'⟩
        · cases h
      · cases h
    · cases h
  · cases h

/-! ### a slice in hand, new or longer -/
theorem SR.grab {X : Cx} {w : WFr} {W : WHeap} {fr : Fr} (s : SR X w W fr) {K : List Pl} {v' : WV} {h : HV} {t : Nat → Nat → Nat × Nat × Nat} {H' : Heap}
    (rows : ∀ i k b e ek xs, ownAt v' i k = some (b, e, ek, xs) → RowOk H' (t i k) b e ek xs ∧ ¬ X.F (t i k).1)
    (out : ∀ i k o p, ownAt v' i k = some o → X.O p ≠ none → inK K p = false → (X.th p).1 ≠ (t i k).1)
    (dist : ∀ i k i' k' o o', ownAt v' i k = some o → ownAt v' i' k' = some o' → (t i k).1 = (t i' k').1 → i = i' ∧ k = k')
    (same : ∀ p, X.O p ≠ none → inK K p = false → H'[(X.th p).1]? = X.H[(X.th p).1]?)
    (keep : ∀ id r, X.H[id]? = some r → (Frozen r ∨ X.F id) → H'[id]? = some r)
    (vars : ∀ i, i < X.n → ∀ ek cs, X.H[X.rho i]? = some (.var ek cs) → H'[X.rho i]? = some (.var ek cs))
    (hv : VR (X.grab (inK K) v' t H') Pl.tmp v' h) (nv : noView v' = true) (hyes : hasOwn v' = true) :
    Hand (X.grab (inK K) v' t H') (hitF (inK K) false w) (hitH false K W) fr v' h ∧ WStp X (X.grab (inK K) v' t H') := by
  obtain ⟨g1, g2, g3⟩ := Cx.grab_ok (H' := H') (K := inK K) (v' := v') (t := t) s.ok rows (fun i k o p a b _ c => out i k o p a b c) dist (fun p a _ b => same p a b) keep
  have E : Ext (inK K) false X (X.grab (inK K) v' t H').hide := by
    refine ⟨g2.n, g2.rho, ?_, g2.F, g2.rows, fun h => by cases h⟩
    intro p hp hop
    have hnt : isTmp p = false := by
      cases p with
      | tmp i k => exact (hop (s.ht i k)).elim
      | _ => rfl
    have := g2.pl p (by simp [hp, hnt]) hop
    refine ⟨this.1, ?_⟩
    simp only [Cx.hide, hnt, Bool.false_eq_true, if_false]
    exact this.2
  refine ⟨⟨g1, s.fr.hit E, s.hp.hit' E rfl vars, fun _ => ⟨hv, nv⟩, fun ho => by rw [hyes] at ho; cases ho⟩, g3⟩
end Go.Proofs.Lz
