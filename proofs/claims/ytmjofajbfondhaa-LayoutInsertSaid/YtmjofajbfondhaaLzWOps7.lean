/- Stores: what the state with slices as values gives, the evaluator gives. -/
import Derived.Test.YtmjofajbfondhaaLzWOps5
namespace Go.Proofs.Lz

def decSlP (b off n : Nat) : Pl → Option (Nat × Nat)
  | .sl s i k => if s = b ∧ i = 0 ∧ off ≤ k ∧ k < off + n then some (0, k - off) else none
  | _ => none
theorem decSlP_inSl (b off n : Nat) : (fun p => (decSlP b off n p).isSome) = inSl b off n := by
  funext p
  cases p with
  | sl s i k =>
    simp only [decSlP, inSl]
    by_cases h1 : s = b <;> by_cases h2 : off ≤ k <;> by_cases h3 : k < off + n <;> by_cases h4 : i = 0 <;> simp [h1, h2, h3, h4]
  | _ => rfl
theorem landSlP {X : Cx} (hx : XOk X) (b off n : Nat) : XOk (X.land (decSlP b off n)) ∧ Ext (fun p => (decSlP b off n p).isSome || isTmp p) false X (X.land (decSlP b off n)) ∧ WStp X (X.land (decSlP b off n)) :=
  Cx.land_ok hx (dec := decSlP b off n) (by
      intro p p' x h1 h2
      cases p with
      | sl a i k =>
        cases p' with
        | sl a' i' k' =>
          simp only [decSlP] at h1 h2
          split at h1
          · split at h2
            · rename_i e1 e2
              obtain ⟨e1, e3, e4, e7⟩ := e1
              obtain ⟨e2, e5, e6, e8⟩ := e2
              subst e1; subst e2; subst e3; subst e5
              rw [← h2] at h1
              simp only [Option.some.injEq, Prod.mk.injEq, true_and] at h1
              have : k = k' := by omega
              rw [this]
            · cases h2
          · cases h1
        | _ => cases h2
      | _ => cases h1) (fun i k x h => by cases h)
theorem VRL.still2 {K : Pl → Bool} {fz : Bool} {X Y : Cx} (E : Ext K fz X Y) {q : Nat → Pl} : ∀ {l : List WV} {k : Nat} {s : List HV}, VRL X q k l s → l.all noView1 = true → (∀ j, j < l.length → K (q (k + j)) = false) → VRL Y q k l s := by
  intro l
  induction l with
  | nil => intro k s h _ _; cases s with
    | nil => trivial
    | cons => exact h.elim
  | cons v l ih => intro k s h hc hk; cases s with
    | nil => exact h.elim
    | cons a s =>
      simp only [List.all_cons, Bool.and_eq_true] at hc
      refine ⟨?_, ih h.2 hc.2 ?_⟩
      · have hv := h.1.hit E
        have hk0 := hk 0 (by simp)
        rw [Nat.add_zero] at hk0
        revert hv
        cases v with
        | own b e ek xs => simp only [hit1, hk0, Bool.false_eq_true, if_false]; exact fun x => x
        | view => cases hc.1
        | eptr => cases hc.1
        | _ => exact fun x => x
      · intro j hj
        have := hk (j + 1) (by simp; omega)
        rw [show k + (j + 1) = k + 1 + j by omega] at this
        exact this
theorem cellH_noView {l : List WV} (h : l.all cellH = true) : l.all noView1 = true := by
  simp only [List.all_eq_true] at h ⊢
  intro x hx
  have := h x hx
  cases x with
  | view => cases this
  | eptr => cases this
  | _ => rfl
theorem VRC_of_1 {X : Cx} {q : Nat → Pl} {v : WV} {h : HV} (r : VR1 X (q 0) v h) : VRC X q v h := by
  cases v with
  | agg => exact r.elim
  | undef => exact r.elim
  | _ => exact r
theorem unflat_R {X : Cx} {q : Nat → Pl} {ek : Option Nat} {cs : List WV} {hs : List HV} {v : WV} (r : VRL X q 0 cs hs) (h : unflatW ek cs = some v) : ∃ a, unflatH ek hs = some a ∧ VRC X q v a := by
  cases ek with
  | none =>
    obtain ⟨a, h1, h2⟩ := r.get (show cs[0]? = some v from h)
    exact ⟨a, h1, VRC_of_1 h2⟩
  | some n =>
    injection h with h; subst h
    refine ⟨_, rfl, ?_⟩
    unfold mkAggW mkAgg
    rw [closeAll_R r]
    cases closeAll hs with
    | some l => exact rfl
    | none => exact ⟨hs, rfl, r⟩
theorem all_take {α : Type} {f : α → Bool} {l : List α} (n : Nat) (h : l.all f = true) : (l.take n).all f = true := by
  rw [List.all_eq_true] at h ⊢
  exact fun x hx => h x (List.mem_of_mem_take hx)
theorem all_drop {α : Type} {f : α → Bool} {l : List α} (n : Nat) (h : l.all f = true) : (l.drop n).all f = true := by
  rw [List.all_eq_true] at h ⊢
  exact fun x hx => h x (List.mem_of_mem_drop hx)

theorem storeL_sim {ek : Option Nat} {a x : Opd} {dst : Option Nat} {X : Cx} {w w' : WFr} {W W' : WHeap} {fr : Fr} (s : SR X w W fr) {b off : Nat} (hp : fr.place a = some (b, off)) (h : wOp0 (.store ek a x) dst w W = some (w', W')) : WSim (.store ek a x) dst X w W fr w' W' := by
  simp only [wOp0] at h
  rw [place_eq s.fr, hp] at h
  simp only at h
  split at h
  · rename_i hf
    split at h
    · cases h
    · rename_i v w1 W1 ht
      obtain ⟨hn, hr⟩ := take_eq ht
      injection hr with hr1 hr2; injection hr2 with hr2 hr3; subst hr1; subst hr2; subst hr3
      obtain ⟨sh1, sh2⟩ := fitsW_shape hf
      have rx := rdR s.fr Pl.tmp x (by intro e; rw [e] at hf; cases ek <;> cases hf)
      obtain ⟨Y, hY, st, hH, hv, hnv, _⟩ := s.take rx (rd_noOwn w x) sh2 hn
      obtain ⟨o1, o2, o3, o4⟩ := ownIt_shape sh1 sh2
      rw [o1] at hv hnv hY h
      rw [o4] at hnv
      have rc := hv.toC o2 o3
      obtain ⟨f1, f2, f3⟩ := fitsW_R rc (fitsW_own hf)
      split at h
      · rename_i ek' x0 hb
        have rb := hY.fr.env b
        rw [hb] at rb
        obtain ⟨x1, e1, r0⟩ := rb
        split at h
        · rename_i hc
          injection h with h; injection h with h1 h2; subst h1; subst h2
          obtain ⟨l1, l2, l3⟩ := landSl hY.ok b
          have E := hide_land l2
          refine ⟨Y.land (decSl b), { fr with env := upd fr.env b (.lbox ek' (fr.opd x)) }, ?_, ⟨l1, ⟨hY.fr.al, ?_⟩, hY.hp.still E (fun i k => rfl) rfl (fun i _ => rfl), land_ht (fun i k => rfl)⟩, st.trans l3⟩
          · simp only [doOp0, hp, e1]
            rw [if_pos f1, if_pos hc]
            show some (_, X.H) = some (_, Y.H)
            rw [hH]
          · intro t
            rw [decSl_isSlot] at E
            simp only [upd]
            by_cases ht : t = b
            · subst ht
              rw [if_pos rfl, if_pos rfl]
              exact ⟨_, rfl, rc.land l2 (fun k => by simp [decSl]) hnv⟩
            · rw [if_neg ht, if_neg ht]
              exact (hY.fr.hit E).env t
        · rename_i hc
          split at h
          · rename_i hl
            obtain ⟨hl1, hl2, hl3⟩ := hl
            split at h
            · rename_i x' hx'
              split at h
              · rename_i hf'
                injection h with h; injection h with h1 h2; subst h1; subst h2
                obtain ⟨l1, l2, l3⟩ := landSlP hY.ok b off (ownItC (w.rd x)).flat.length
                have E := hide_land l2
                have u0 : x0 ≠ .undef := by intro e; rw [e] at hl3; cases hl3
                have g0 : x0 ≠ .gone := by intro e; rw [e] at hl3; cases hl3
                have rf := flat_R r0 u0 g0
                have rn := flat_R rc f2 f3
                have en : (ownItC (w.rd x)).flat.length = (fr.opd x).flat.length := rn.len
                have e0 := rf.len
                have nvx := flat_noView hl2
                have p1 := (rf.take off).still2 E (all_take off nvx) (by
                  intro j hj
                  simp only [List.length_take] at hj
                  simp only [decSlP]
                  rw [if_neg (by omega)]
                  rfl)
                have p2 := rn.land' l2 (q' := Pl.sl b 0) (k' := off) (flat_noView hnv) (by
                  intro j hj
                  simp only [decSlP]
                  rw [if_pos ⟨trivial, trivial, by omega, by omega⟩]
                  congr 2
                  omega)
                have p3 := (rf.drop (off + (ownItC (w.rd x)).flat.length)).still2 E (all_drop _ nvx) (by
                  intro j hj
                  simp only [decSlP]
                  rw [if_neg (by omega)]
                  rfl)
                have lt : (x0.flat.take off).length = off := by simp only [List.length_take]; omega
                have p12 := p1.append (by rw [lt, Nat.zero_add]; exact p2)
                have p123 := p12.append (l' := x0.flat.drop (off + (ownItC (w.rd x)).flat.length)) (s' := x1.flat.drop (off + (ownItC (w.rd x)).flat.length)) (by
                  rw [List.length_append, lt, Nat.zero_add]
                  rw [Nat.zero_add] at p3
                  exact p3)
                obtain ⟨y, y1, y2⟩ := unflat_R (v := x') p123 hx'
                have fy := (fitsW_R y2 hf').1
                refine ⟨Y.land (decSlP b off (ownItC (w.rd x)).flat.length), { fr with env := upd fr.env b (.lbox ek' y) }, ?_, ⟨l1, ⟨hY.fr.al, ?_⟩, hY.hp.still E (fun i k => rfl) rfl (fun i _ => rfl), land_ht (fun i k => rfl)⟩, st.trans l3⟩
                · simp only [doOp0, hp, e1]
                  rw [if_pos f1, if_neg hc, if_pos (by omega)]
                  have ey : unflatH ek' (setPart x1.flat off (fr.opd x).flat) = some y := by rw [← y1]; simp only [setPart, en]
                  rw [ey]
                  simp only
                  rw [if_pos fy]
                  show some (_, X.H) = some (_, Y.H)
                  rw [hH]
                · intro t
                  rw [decSlP_inSl] at E
                  simp only [upd]
                  by_cases ht : t = b
                  · subst ht
                    rw [if_pos rfl, if_pos rfl]
                    exact ⟨_, rfl, y2⟩
                  · rw [if_neg ht, if_neg ht]
                    exact (hY.fr.hit E).env t
              · cases h
            · cases h
          · cases h
      · cases h
  · cases h

/-! ### stores into variables -/
theorem var_upd {P : Cx} (x : XOk P) {r : Nat} {ek : Option Nat} {hs hs' : List HV} (h : P.H[r]? = some (.var ek hs)) :
    XOk { P with H := P.H.set r (.var ek hs') } ∧ Ext (fun _ => false) false P { P with H := P.H.set r (.var ek hs') } ∧ WStp P { P with H := P.H.set r (.var ek hs') } := by
  have rowne : ∀ (j : Nat) (fz : Bool) (e : Nat) (ek' : Option Nat) (ver : Nat) (xs : List CV), P.H[j]? = some (HO.row fz e ek' ver xs) → (P.H.set r (.var ek hs'))[j]? = some (HO.row fz e ek' ver xs) := by
    intro j fz e ek' ver xs hj
    rw [set_other]
    · exact hj
    · intro e; subst e; rw [h] at hj; cases hj
  have keep : ∀ (j : Nat) (o : HO), P.H[j]? = some o → (Frozen o ∨ P.F j) → (P.H.set r (.var ek hs'))[j]? = some o := by
    intro j o ho hf
    rcases hf with hf | hf
    · obtain ⟨e, ek', ver, xs, rfl⟩ := hf
      exact rowne _ _ _ _ _ _ ho
    · obtain ⟨a, b, c, d, e, hr⟩ := x.fl j hf
      rw [hr] at ho
      injection ho with ho
      subst ho
      exact rowne _ _ _ _ _ _ hr
  refine ⟨⟨?_, x.dis, x.nf, x.rinj, ?_, x.hz⟩, ⟨Nat.le_refl _, fun _ _ => rfl, fun _ _ _ => ⟨rfl, rfl⟩, fun _ h => h, keep, fun h => by cases h⟩, ⟨Nat.le_refl _, fun _ _ => rfl, rfl, keep⟩⟩
  · intro p b e ek' xs hp
    obtain ⟨ys, r1, r2⟩ := x.own p b e ek' xs hp
    exact ⟨ys, rowne _ _ _ _ _ _ r1, r2⟩
  · intro i hi
    obtain ⟨a, b, c, d, e, hr⟩ := x.fl i hi
    exact ⟨a, b, c, d, e, rowne _ _ _ _ _ _ hr⟩
theorem HpR.upd {K : Pl → Bool} {X Y : Cx} (E : Ext K false X Y) (hx : XOk X) {V : WHeap} (h : HpR X V) {id : Nat} {ek : Option Nat} {cs cs' : List WV} {hs hs' : List HV} (hid : V[id]? = some (.var ek cs)) (hn : Y.n = X.n)
    (hk : ∀ i k, i ≠ id → K (.hp i k) = false) (hH : Y.H = X.H.set (X.rho id) (.var ek hs')) (hc : X.H[X.rho id]? = some (.var ek hs)) (r : VRL Y (Pl.hp id) 0 cs' hs') (c : cs'.all cellH = true) : HpR Y (V.set id (.var ek cs')) := by
  have hlt := (List.getElem?_eq_some_iff.1 hid).1
  have hltn : id < X.n := by rw [h.n]; exact hlt
  refine ⟨by rw [hn, h.n, List.length_set], ?_⟩
  intro i ek2 cs2 hi
  by_cases he : i = id
  · subst he
    rw [List.getElem?_set_self hlt] at hi
    injection hi with hi; injection hi with h1 h2; subst h1; subst h2
    refine ⟨⟨hs', ?_, r⟩, c⟩
    rw [E.rho i hltn, hH]
    exact List.getElem?_set_self (List.getElem?_eq_some_iff.1 hc).1
  · rw [set_other (fun e => he e.symm)] at hi
    obtain ⟨⟨gs, c1, c2⟩, c3⟩ := h.cells i ek2 cs2 hi
    have hin : i < X.n := by rw [h.n]; exact (List.getElem?_eq_some_iff.1 hi).1
    refine ⟨⟨gs, ?_, c2.still E (fun k => hk i k he) c3⟩, c3⟩
    rw [E.rho i hin, hH, set_other]
    · exact c1
    · intro e; exact he (hx.rinj _ _ hin hltn e.symm)
theorem any_all_own {l : List WV} (h : l.any hasOwn1 = false) : ∀ x ∈ l, hasOwn1 x = false := by
  intro x hx
  have := List.any_eq_false.1 h x hx
  simpa using this
theorem storeP_sim {ek : Option Nat} {id off : Nat} {x : Opd} {X : Cx} {w w' : WFr} {W W' : WHeap} {fr : Fr} (s : SR X w W fr) {p : HV} (hp : p = .ptr (X.rho id) off) (hidX : id < X.n) (h : storeW ek (.ptr id off) (w.rd x) w W = some (w', W')) :
    ∃ Y, storeH ek p (fr.opd x) X.H = some Y.H ∧ SR Y w' W' fr ∧ WStp X Y := by
  simp only [storeW] at h
  split at h
  · rename_i hf
    split at h
    · cases h
    · rename_i v w1 W1 ht
      obtain ⟨hn, hr⟩ := take_eq ht
      injection hr with hr1 hr2; injection hr2 with hr2 hr3; subst hr1; subst hr2; subst hr3
      obtain ⟨sh1, sh2⟩ := fitsW_shape hf
      have rx := rdR s.fr Pl.tmp x (by intro e; rw [e] at hf; cases ek <;> cases hf)
      obtain ⟨Y, hY, st, hH, hv, hnv, _⟩ := s.take rx (rd_noOwn w x) sh2 hn
      obtain ⟨o1, o2, o3, o4⟩ := ownIt_shape sh1 sh2
      rw [o1] at hv hnv hY h
      rw [o4] at hnv
      have rc := hv.toC o2 o3
      have hff := fitsW_own hf
      obtain ⟨f1, f2, f3⟩ := fitsW_R rc hff
      generalize hitH false (srcs (w.rd x)) W = V at h hY
      generalize hitF (inK (srcs (w.rd x))) false w = u at h hY
      split at h
      · rename_i ek' cs hid
        split at h
        · rename_i hl
          injection h with h; injection h with h1 h2; subst h1; subst h2
          obtain ⟨⟨hs, c1, c2⟩, c3⟩ := hY.hp.cells id ek' cs hid
          have hn0 : Y.n = V.length := hY.hp.n
          have hidn : id < Y.n := by rw [hn0]; exact (List.getElem?_eq_some_iff.1 hid).1
          have rn := flat_R rc f2 f3
          have en := rn.len
          have e0 := c2.len
          have rhoe : X.rho id = Y.rho id := (st.rho id hidX).symm
          have nvf := flat_noView hnv
          have chf := flat_cellH hff hnv
          have lt : (cs.take off).length = off := by simp only [List.length_take]; omega
          have chs : (setPartW cs off (ownItC (w.rd x)).flat).all cellH = true := by
            simp only [setPartW, List.all_append, all_take off c3, chf, all_drop _ c3, Bool.and_self]
          have hst : ∀ Z : Cx, Z.H = Y.H.set (Y.rho id) (.var ek' (setPart hs off (fr.opd x).flat)) → storeH ek p (fr.opd x) X.H = some Z.H := by
            intro Z hZ
            have c1' : X.H[X.rho id]? = some (.var ek' hs) := by rw [rhoe, ← hH]; exact c1
            rw [hp, hZ]
            simp only [storeH, c1']
            rw [if_pos ⟨f1, by omega⟩, rhoe, hH]
          cases ho : (ownItC (w.rd x)).flat.any hasOwn1 with
          | true =>
            simp only [if_true]
            obtain ⟨l1, l2, l3⟩ := landHp hY.ok id off (ownItC (w.rd x)).flat.length hidn
            have E := hide_land l2
            have c1' : (Y.land (decHp id off (ownItC (w.rd x)).flat.length)).H[Y.rho id]? = some (.var ek' hs) := c1
            obtain ⟨m1, m2, m3⟩ := var_upd l1 (hs' := setPart hs off (fr.opd x).flat) c1'
            have EZ : Ext (fun p => (decHp id off (ownItC (w.rd x)).flat.length p).isSome) false Y.hide { (Y.land (decHp id off (ownItC (w.rd x)).flat.length)) with H := Y.H.set (Y.rho id) (.var ek' (setPart hs off (fr.opd x).flat)) } :=
              ⟨Nat.le_refl _, fun _ _ => rfl, fun p a b => E.pl p a b, fun _ h => h, fun i r a b => m2.rows i r a b, fun h => by cases h⟩
            refine ⟨{ (Y.land (decHp id off (ownItC (w.rd x)).flat.length)) with H := Y.H.set (Y.rho id) (.var ek' (setPart hs off (fr.opd x).flat)) }, hst _ rfl, ⟨m1, ?_, ?_, fun i k => (show (Y.land (decHp id off (ownItC (w.rd x)).flat.length)).O (.tmp i k) = none from land_ht (fun _ _ => rfl) i k)⟩, (st.trans l3).trans m3⟩
            · have := hY.fr.hit EZ
              rw [decHp_inHp] at this
              exact this
            · refine hY.hp.upd EZ hY.ok.hide hid rfl ?_ rfl c1 ?_ chs
              · intro i k hi
                simp only [decHp]
                rw [if_neg (fun h => hi h.1)]
                rfl
              · have p1 := (c2.take off).still2 EZ (all_take off (cellH_noView c3)) (by
                  intro j hj
                  simp only [List.length_take] at hj
                  simp only [decHp]
                  rw [if_neg (by omega)]
                  rfl)
                have p2a := rn.land' l2 (q' := Pl.hp id) (k' := off) nvf (by
                  intro j hj
                  simp only [decHp]
                  rw [if_pos ⟨trivial, by omega, by omega⟩]
                  congr 2
                  omega)
                have p2 := p2a.hit m2
                rw [hitL_no] at p2
                have p3 := (c2.drop (off + (ownItC (w.rd x)).flat.length)).still2 EZ (all_drop _ (cellH_noView c3)) (by
                  intro j hj
                  simp only [decHp]
                  rw [if_neg (by omega)]
                  rfl)
                have p12 := p1.append (by rw [lt, Nat.zero_add]; exact p2)
                have p123 := p12.append (l' := cs.drop (off + (ownItC (w.rd x)).flat.length)) (s' := hs.drop (off + (ownItC (w.rd x)).flat.length)) (by
                  rw [List.length_append, lt, Nat.zero_add]
                  rw [Nat.zero_add] at p3
                  exact p3)
                have e : setPart hs off (fr.opd x).flat = hs.take off ++ (fr.opd x).flat ++ hs.drop (off + (ownItC (w.rd x)).flat.length) := by simp only [setPart, ← en]
                exact Eq.mpr (congrArg (VRL _ (Pl.hp id) 0 _) e) p123
          | false =>
            simp only [Bool.false_eq_true, if_false]
            have c1' : Y.hide.H[Y.rho id]? = some (.var ek' hs) := c1
            obtain ⟨m1, m2, m3⟩ := var_upd hY.ok.hide (hs' := setPart hs off (fr.opd x).flat) c1'
            refine ⟨{ Y.hide with H := Y.H.set (Y.rho id) (.var ek' (setPart hs off (fr.opd x).flat)) }, hst _ rfl, ⟨m1, ?_, ?_, fun i k => rfl⟩, (st.trans (show WStp Y Y.hide from ⟨Nat.le_refl _, fun _ _ => rfl, rfl, fun _ _ h _ => h⟩)).trans m3⟩
            · have := hY.fr.hit m2
              rw [hitF_no] at this
              exact this
            · refine hY.hp.upd m2 hY.ok.hide hid rfl (fun _ _ _ => rfl) rfl c1 ?_ chs
              have vh : VR Y.hide Pl.tmp (ownItC (w.rd x)) (fr.opd x) := hY.vf (by
                have : hasOwnC (ownItC (w.rd x)) = false := by
                  revert ho
                  cases ownItC (w.rd x) with
                  | agg cs => exact fun x => x
                  | own => intro h; cases h
                  | c u => intro _; rfl
                  | _ => intro _; rfl
                revert this o2 o3
                cases ownItC (w.rd x) with
                | tup vs => intro o2 o3 _; exact (o2 _ rfl).elim
                | lbox ek w => intro o2 o3 _; exact (o3 _ _ rfl).elim
                | _ => intro _ _ h; exact h)
              have rnh := flat_R (vh.toC o2 o3) f2 f3
              have q1 := c2.hit m2
              rw [hitL_no] at q1
              have q2 := rnh.hit m2
              rw [hitL_no] at q2
              have p12 := (q1.take off).append (q2.any ho (q' := Pl.hp id) (k' := 0 + (cs.take off).length))
              have p123 := p12.append (l' := cs.drop (off + (ownItC (w.rd x)).flat.length)) (s' := hs.drop (off + (ownItC (w.rd x)).flat.length)) (by
                rw [List.length_append, lt]
                exact q1.drop _)
              have e : setPart hs off (fr.opd x).flat = hs.take off ++ (fr.opd x).flat ++ hs.drop (off + (ownItC (w.rd x)).flat.length) := by simp only [setPart, ← en]
              exact Eq.mpr (congrArg (VRL _ (Pl.hp id) 0 _) e) p123
        · cases h
      · cases h
  · cases h
end Go.Proofs.Lz
/- Stores into an element of a slice, and all operations together. -/
namespace Go.Proofs.Lz

def isP (pl : Pl) : Pl → Bool := fun p => decide (p = pl)
theorem blind1_hit {pl q : Pl} (h : q ≠ pl) (v : WV) : hit1 (isP pl) false q v = blind1 pl v := by
  cases v with
  | own b e ek xs => simp [hit1, isP, h, blind1]
  | view p b off e ek xs => simp only [hit1, isP, blind1, decide_eq_true_eq]
  | eptr p i off ek x => simp only [hit1, isP, blind1, decide_eq_true_eq]
  | _ => rfl
theorem blindL_hit {pl : Pl} {q : Nat → Pl} (h : ∀ k, q k ≠ pl) : ∀ (l : List WV) (k : Nat), hitL (isP pl) false q k l = l.map (blind1 pl) := by
  intro l
  induction l with
  | nil => intro k; rfl
  | cons v l ih => intro k; simp only [hitL, List.map_cons, blind1_hit (h k), ih]
theorem blindC_hit {pl : Pl} {q : Nat → Pl} (h : ∀ k, q k ≠ pl) (v : WV) : hitC (isP pl) false q v = blindC pl v := by
  cases v with
  | agg cs => simp only [hitC, blindC, blindL_hit h]
  | _ => simp only [hitC, blindC, blind1_hit (h 0)]
theorem blindT_hit {pl : Pl} {q : Nat → Nat → Pl} (h : ∀ i k, q i k ≠ pl) : ∀ (l : List WV) (k : Nat), hitT (isP pl) false q k l = l.map (blindC pl) := by
  intro l
  induction l with
  | nil => intro k; rfl
  | cons v l ih => intro k; simp only [hitT, List.map_cons, blindC_hit (h k), ih]
theorem blind_hit {pl : Pl} {q : Nat → Nat → Pl} (h : ∀ i k, q i k ≠ pl) (v : WV) : hit (isP pl) false q v = blind pl v := by
  cases v with
  | tup vs => simp only [hit, blind, blindT_hit h]
  | lbox ek w => simp only [hit, blind, blindC_hit (h 0)]
  | _ => simp only [hit, blind, blindC_hit (h 0)]

/-- The place of one element changes. -/
def Cx.reel (Y : Cx) (pl : Pl) (o : Bool × Nat × Option Nat × List CV) (H' : Heap) : Cx :=
  { Y with O := fun p => if p = pl then some o else Y.O p, H := H' }
theorem set_sub {α : Type} (zs ys : List α) (o i : Nat) (x : α) (h : (zs.drop o).take ys.length = ys) : ((zs.set (o + i) x).drop o).take (ys.set i x).length = ys.set i x := by
  rw [List.drop_set, if_neg (by omega), List.length_set, show o + i - o = i by omega, List.take_set, h]
theorem Cx.reel_ok {Y : Cx} (hx : XOk Y) {pl : Pl} {b : Bool} {e : Nat} {ek : Option Nat} {ys zs : List CV} {i : Nat} {x' : CV} (ho : Y.O pl = some (b, e, ek, ys)) (hz : Y.H[(Y.th pl).1]? = some (.row false e ek (Y.th pl).2.1 zs))
    (h1 : (Y.th pl).2.2 + ys.length ≤ zs.length) (h2 : (zs.drop (Y.th pl).2.2).take ys.length = ys) (h3 : b = true → (Y.th pl).2.2 = 0) :
    let Z := Y.reel pl (b, e, ek, ys.set i x') (Y.H.set (Y.th pl).1 (.row false e ek (Y.th pl).2.1 (zs.set ((Y.th pl).2.2 + i) x')))
    XOk Z ∧ Ext (isP pl) false Y Z ∧ WStp Y Z := by
  intro Z
  have hlt := (List.getElem?_eq_some_iff.1 hz).1
  have hne : ∀ p, Z.O p ≠ none → Y.O p ≠ none := by
    intro p h
    by_cases hp : p = pl
    · subst hp; rw [ho]; simp
    · simpa [Z, Cx.reel, hp] using h
  have other : ∀ p, Y.O p ≠ none → p ≠ pl → (Y.th pl).1 ≠ (Y.th p).1 := fun p hp hn he => hn (hx.dis p pl hp (by rw [ho]; simp) he.symm)
  have keep : ∀ (id : Nat) (r : HO), Y.H[id]? = some r → (Frozen r ∨ Y.F id) → (Y.H.set (Y.th pl).1 (.row false e ek (Y.th pl).2.1 (zs.set ((Y.th pl).2.2 + i) x')))[id]? = some r := by
    intro id r hr hf
    rw [set_other]
    · exact hr
    · intro he
      subst he
      rw [hz] at hr
      injection hr with hr
      rcases hf with hf | hf
      · obtain ⟨_, _, _, _, hf⟩ := hf; rw [← hr] at hf; cases hf
      · exact hx.nf pl (by rw [ho]; simp) hf
  refine ⟨⟨?_, fun p p' h h' he => hx.dis p p' (hne p h) (hne p' h') he, fun p h => hx.nf p (hne p h), hx.rinj, ?_, ?_⟩, ⟨Nat.le_refl _, fun _ _ => rfl, ?_, fun _ h => h, keep, fun h => by cases h⟩, ⟨Nat.le_refl _, fun _ _ => rfl, rfl, keep⟩⟩
  · intro p b' e' ek' xs h
    by_cases hp : p = pl
    · subst hp
      simp only [Z, Cx.reel, if_true, Option.some.injEq, Prod.mk.injEq] at h
      obtain ⟨rfl, rfl, rfl, rfl⟩ := h
      refine ⟨zs.set ((Y.th p).2.2 + i) x', ?_, ?_, set_sub _ _ _ _ _ h2, h3⟩
      · show (Y.H.set _ _)[(Y.th p).1]? = _
        exact List.getElem?_set_self hlt
      · show (Y.th p).2.2 + _ ≤ _
        simp only [List.length_set]
        exact h1
    · have h' : Y.O p = some (b', e', ek', xs) := by simpa [Z, Cx.reel, hp] using h
      obtain ⟨ws, r1, r2⟩ := hx.own p _ _ _ _ h'
      refine ⟨ws, ?_, r2⟩
      show (Y.H.set _ _)[(Y.th p).1]? = _
      rw [set_other (other p (by rw [h']; simp) hp)]
      exact r1
  · intro j hj
    obtain ⟨a, b', c, d, f, hr⟩ := hx.fl j hj
    exact ⟨a, b', c, d, f, keep j _ hr (.inr hj)⟩
  · intro j k hj
    have hn := hx.hz j k hj
    show (if Pl.hp j k = pl then _ else _) = none
    rw [if_neg]
    · exact hn
    · intro he; subst he; rw [ho] at hn; cases hn
  · intro p hp _
    have hne : p ≠ pl := by simpa [isP] using hp
    exact ⟨rfl, by show (if p = pl then _ else _) = _; rw [if_neg hne]⟩

/-- What an element's change does to a list of cells. -/
theorem setElL_R {Y Z : Cx} {q : Nat → Pl} {pl : Pl} {b : Bool} {e : Nat} {ek : Option Nat} {ys : List CV} {i : Nat} {f : CV → Option CV} {x x' : CV}
    (E : Ext (isP pl) false Y Z) (hT : Z.th pl = Y.th pl) (ho : Y.O pl = some (b, e, ek, ys)) (hO : Z.O pl = some (b, e, ek, ys.set i x')) (hx : ys[i]? = some x) (hf : f x = some x') :
    ∀ {l l' : List WV} {k j : Nat} {s : List HV}, VRL Y q k l s → setElL i f j l = some l' → q (k + j) = pl → (∀ m, q m = pl → m = k + j) → VRL Z q k (l'.map (blind1 pl)) s := by
  intro l
  induction l with
  | nil => intro l' k j s _ h; cases j <;> cases h
  | cons v l ih =>
    intro l' k j s r h hq hu
    cases s with
    | nil => exact r.elim
    | cons a s =>
      cases j with
      | zero =>
        simp only [setElL] at h
        split at h
        · rename_i v' hv'
          injection h with h; subst h
          have hrest : ∀ (l : List WV) (m : Nat) (s : List HV), k < m → VRL Y q m l s → VRL Z q m (l.map (blind1 pl)) s := by
            intro l
            induction l with
            | nil => intro m s _ r; cases s with
              | nil => trivial
              | cons => exact r.elim
            | cons w l ih =>
              intro m s hm r
              cases s with
              | nil => exact r.elim
              | cons a s =>
                have : q m ≠ pl := fun e => by have := hu m e; omega
                have t := r.1.hit E
                rw [blind1_hit this] at t
                exact ⟨t, ih (m + 1) s (by omega) r.2⟩
          refine ⟨?_, hrest l (k + 1) s (by omega) r.2⟩
          rw [Nat.add_zero] at hq
          cases v with
          | own b1 e1 ek1 xs1 =>
            obtain ⟨r1, r2⟩ := r.1
            rw [hq, ho] at r2
            simp only [Option.some.injEq, Prod.mk.injEq] at r2
            obtain ⟨rfl, rfl, rfl, rfl⟩ := r2
            simp only [setEl1, hx, hf, Option.some.injEq] at hv'
            subst hv'
            rw [hq] at r1
            exact ⟨by rw [hq, hT]; simpa using r1, by rw [hq]; exact hO⟩
          | _ => cases hv'
        · cases h
      | succ j =>
        simp only [setElL] at h
        split at h
        · rename_i l2 hl2
          injection h with h; subst h
          have hne : q k ≠ pl := fun e => by have := hu k e; omega
          have t := r.1.hit E
          rw [blind1_hit hne] at t
          exact ⟨t, ih r.2 hl2 (by rw [← hq]; congr 1; omega) (fun m hm => by rw [hu m hm]; omega)⟩
        · cases h
theorem setElC_R {Y Z : Cx} {q : Nat → Pl} {pl : Pl} {b : Bool} {e : Nat} {ek : Option Nat} {ys : List CV} {i k : Nat} {f : CV → Option CV} {x x' : CV}
    (E : Ext (isP pl) false Y Z) (hT : Z.th pl = Y.th pl) (ho : Y.O pl = some (b, e, ek, ys)) (hO : Z.O pl = some (b, e, ek, ys.set i x')) (hx : ys[i]? = some x) (hf : f x = some x')
    {v v' : WV} {h : HV} (r : VRC Y q v h) (hs : setElC i k f v = some v') (hq : q k = pl) (hu : ∀ m, q m = pl → m = k) : VRC Z q (blindC pl v') h := by
  have scal : ∀ v, (∀ cs, v ≠ .agg cs) → VRC Y q v h → (if k = 0 then setEl1 i f v else none) = some v' → VRC Z q (blindC pl v') h := by
    intro v _ r hs
    split at hs
    · rename_i hk
      subst hk
      cases v with
      | own b1 e1 ek1 xs1 =>
        obtain ⟨r1, r2⟩ := r
        rw [hq, ho] at r2
        simp only [Option.some.injEq, Prod.mk.injEq] at r2
        obtain ⟨rfl, rfl, rfl, rfl⟩ := r2
        simp only [setEl1, hx, hf, Option.some.injEq] at hs
        subst hs
        rw [hq] at r1
        exact ⟨by rw [hq, hT]; simpa using r1, by rw [hq]; exact hO⟩
      | _ => cases hs
    · cases hs
  by_cases hv : ∃ cs, v = .agg cs
  · obtain ⟨cs, rfl⟩ := hv
    obtain ⟨hs', r1, r2⟩ := r
    simp only [setElC] at hs
    split at hs
    · rename_i cs' hcs
      injection hs with hs; subst hs
      exact ⟨hs', r1, setElL_R E hT ho hO hx hf r2 hcs (by rw [Nat.zero_add]; exact hq) (fun m hm => by rw [hu m hm, Nat.zero_add])⟩
    · cases hs
  · refine scal v (fun cs e => hv ⟨cs, e⟩) r ?_
    revert hs
    cases v with
    | agg cs => exact (hv ⟨cs, rfl⟩).elim
    | _ => exact fun h => h
theorem setElC_own {i k : Nat} {f : CV → Option CV} {Y : Cx} {q : Nat → Pl} {v v' : WV} {h : HV} (r : VRC Y q v h) (hs : setElC i k f v = some v') : ∃ b e ek ys x x', Y.O (q k) = some (b, e, ek, ys) ∧ ys[i]? = some x ∧ f x = some x' := by
  have e1 : ∀ {pl : Pl} {v v' : WV} {h : HV}, VR1 Y pl v h → setEl1 i f v = some v' → ∃ b e ek ys x x', Y.O pl = some (b, e, ek, ys) ∧ ys[i]? = some x ∧ f x = some x' := by
    intro pl v v' h r hs
    cases v with
    | own b e ek xs =>
      simp only [setEl1] at hs
      split at hs
      · rename_i x hx
        split at hs
        · rename_i x' hx'
          exact ⟨b, e, ek, xs, x, x', r.2, hx, hx'⟩
        · cases hs
      · cases hs
    | _ => cases hs
  have eL : ∀ {l l' : List WV} {k0 j : Nat} {s : List HV}, VRL Y q k0 l s → setElL i f j l = some l' → ∃ b e ek ys x x', Y.O (q (k0 + j)) = some (b, e, ek, ys) ∧ ys[i]? = some x ∧ f x = some x' := by
    intro l
    induction l with
    | nil => intro l' k0 j s _ h; cases j <;> cases h
    | cons v l ih =>
      intro l' k0 j s r h
      cases s with
      | nil => exact r.elim
      | cons a s =>
        cases j with
        | zero =>
          simp only [setElL] at h
          split at h
          · rename_i v' hv'; exact e1 r.1 hv'
          · cases h
        | succ j =>
          simp only [setElL] at h
          split at h
          · rename_i l2 hl2
            have := ih r.2 hl2
            rw [show k0 + 1 + j = k0 + (j + 1) by omega] at this
            exact this
          · cases h
  by_cases hv : ∃ cs, v = .agg cs
  · obtain ⟨cs, rfl⟩ := hv
    obtain ⟨hs', r1, r2⟩ := r
    simp only [setElC] at hs
    split at hs
    · rename_i cs' hcs
      have := eL r2 hcs
      rw [Nat.zero_add] at this
      exact this
    · cases hs
  · have hs2 : (if k = 0 then setEl1 i f v else none) = some v' := by
      revert hs
      cases v with
      | agg cs => exact (hv ⟨cs, rfl⟩).elim
      | _ => exact fun h => h
    split at hs2
    · rename_i hk
      subst hk
      cases v with
      | own b e ek xs => exact e1 (v := .own b e ek xs) r hs2
      | _ => cases hs2
    · cases hs2

theorem setElC_shape {i k : Nat} {f : CV → Option CV} {v v' : WV} (h : setElC i k f v = some v') : (∀ vs, v' ≠ .tup vs) ∧ ∀ ek w, v' ≠ .lbox ek w := by
  have e1 : ∀ {v v' : WV}, setEl1 i f v = some v' → (∀ vs, v' ≠ .tup vs) ∧ ∀ ek w, v' ≠ .lbox ek w := by
    intro v v' h
    cases v with
    | own b e ek xs =>
      simp only [setEl1] at h
      split at h
      · split at h
        · injection h with h; subst h; exact ⟨fun _ e => (by cases e), fun _ _ e => (by cases e)⟩
        · cases h
      · cases h
    | _ => cases h
  by_cases hv : ∃ cs, v = .agg cs
  · obtain ⟨cs, rfl⟩ := hv
    simp only [setElC] at h
    split at h
    · injection h with h; subst h; exact ⟨fun _ e => (by cases e), fun _ _ e => (by cases e)⟩
    · cases h
  · have hs2 : (if k = 0 then setEl1 i f v else none) = some v' := by
      revert h
      cases v with
      | agg cs => exact (hv ⟨cs, rfl⟩).elim
      | _ => exact fun h => h
    split at hs2
    · exact e1 hs2
    · cases hs2
theorem setElS_cases {i k : Nat} {f : CV → Option CV} {v v' : WV} (h : setElS i k f v = some v') :
    (∃ ek c c', v = .lbox ek c ∧ v' = .lbox ek c' ∧ setElC i k f c = some c') ∨ ((∀ vs, v ≠ .tup vs) ∧ (∀ ek w, v ≠ .lbox ek w) ∧ setElC i k f v = some v' ∧ (∀ vs, v' ≠ .tup vs) ∧ ∀ ek w, v' ≠ .lbox ek w) := by
  by_cases hb : ∃ ek c, v = .lbox ek c
  · obtain ⟨ek, c, rfl⟩ := hb
    simp only [setElS] at h
    split at h
    · rename_i c' hc'
      injection h with h; subst h
      exact .inl ⟨ek, c, c', rfl, rfl, hc'⟩
    · cases h
  · have h' : setElC i k f v = some v' := by
      revert h
      cases v with
      | lbox ek c => exact (hb ⟨ek, c, rfl⟩).elim
      | _ => exact fun h => h
    refine .inr ⟨?_, fun ek w e => hb ⟨ek, w, e⟩, h', setElC_shape h'⟩
    intro vs e
    subst e
    simp only [setElC, setEl1] at h'
    split at h' <;> cases h'
theorem blind_C {pl : Pl} {v : WV} (h1 : ∀ vs, v ≠ .tup vs) (h2 : ∀ ek w, v ≠ .lbox ek w) : blind pl v = blindC pl v := by
  cases v with
  | tup vs => exact (h1 _ rfl).elim
  | lbox ek w => exact (h2 _ _ rfl).elim
  | _ => rfl
/-- An element of the slice at a place, changed in the state and in the memory. -/
theorem setElP_R {Y : Cx} {w w2 : WFr} {W W2 : WHeap} {fr : Fr} (s : SR Y w W fr) {pl : Pl} {i : Nat} {f : CV → Option CV} (h : setElP pl i f w W = some (w2, W2)) :
    ∃ b e ek ys zs x x', Y.O pl = some (b, e, ek, ys) ∧ ys[i]? = some x ∧ f x = some x' ∧ Y.H[(Y.th pl).1]? = some (.row false e ek (Y.th pl).2.1 zs) ∧ zs[(Y.th pl).2.2 + i]? = some x ∧
      ∃ Z, SR Z (blindF pl w2) W2 fr ∧ WStp Y Z ∧ Z.H = Y.H.set (Y.th pl).1 (.row false e ek (Y.th pl).2.1 (zs.set ((Y.th pl).2.2 + i) x')) := by
  unfold setElP at h
  split at h
  · rename_i t k
    split at h
    · rename_i v' hv'
      injection h with h; injection h with h1 h2; subst h1; subst h2
      have key : ∃ b e ek ys x x', Y.O (.sl t 0 k) = some (b, e, ek, ys) ∧ ys[i]? = some x ∧ f x = some x' := by
        have r := s.fr.env t
        rcases setElS_cases hv' with ⟨ek2, c, c', e1, e2, e3⟩ | ⟨n1, n2, e3, n3, n4⟩
        · rw [e1] at r
          obtain ⟨h', r1, r2⟩ := r
          exact setElC_own r2 e3
        · exact setElC_own (r.toC n1 n2) e3
      obtain ⟨b, e, ek, ys, x, x', ho, hx, hf⟩ := key
      obtain ⟨zs, z1, z2, z3, z4⟩ := s.ok.own _ _ _ _ _ ho
      obtain ⟨m1, m2, m3⟩ := Cx.reel_ok s.ok (i := i) (x' := x') ho z1 z2 z3 z4
      refine ⟨b, e, ek, ys, zs, x, x', ho, hx, hf, z1, sub_get z3 hx, _, ⟨m1, ⟨s.fr.al, ?_⟩, s.hp.still m2 (fun i k => by simp [isP]) rfl (fun i hi => ?_), ?_⟩, m3, rfl⟩
      · intro t'
        show VR _ (Pl.sl t') (blind _ (upd w.env t v' t')) _
        simp only [upd]
        by_cases ht : t' = t
        · subst ht
          rw [if_pos rfl]
          have hO : (Y.reel (Pl.sl t' 0 k) (b, e, ek, ys.set i x') (Y.H.set (Y.th (Pl.sl t' 0 k)).1 (.row false e ek (Y.th (Pl.sl t' 0 k)).2.1 (zs.set ((Y.th (Pl.sl t' 0 k)).2.2 + i) x')))).O (Pl.sl t' 0 k) = some (b, e, ek, ys.set i x') := by simp [Cx.reel]
          have hu : ∀ m, Pl.sl t' 0 m = Pl.sl t' 0 k → m = k := fun m hm => by injection hm
          have r := s.fr.env t'
          rcases setElS_cases hv' with ⟨ek2, c, c', e1, e2, e3⟩ | ⟨n1, n2, e3, n3, n4⟩
          · rw [e1] at r
            obtain ⟨h', r1, r2⟩ := r
            rw [e2]
            exact ⟨h', r1, setElC_R m2 rfl ho hO hx hf r2 e3 rfl hu⟩
          · have := setElC_R m2 rfl ho hO hx hf (r.toC n1 n2) e3 rfl hu
            rw [blind_C n3 n4]
            exact VR_of_C this
        · rw [if_neg ht]
          have := (s.fr.env t').hit m2
          rw [blind_hit (fun a b => fun e => ht (by injection e))] at this
          exact this
      · obtain ⟨o, ho'⟩ : ∃ o, W[i]? = some o := ⟨_, List.getElem?_eq_getElem (by rw [← s.hp.n]; exact hi)⟩
        obtain ⟨ek', cs⟩ := o
        obtain ⟨⟨hs, c1, _⟩, _⟩ := s.hp.cells i ek' cs ho'
        show (Y.H.set _ _)[_]? = _
        rw [set_other]
        intro he
        rw [← he, z1] at c1
        cases c1
      · intro a c
        simp [Cx.reel, s.ht a c]
    · cases h
  · rename_i id k
    split at h
    · rename_i ek0 cs hid
      split at h
      · rename_i cs' hcs
        injection h with h; injection h with h1 h2; subst h1; subst h2
        obtain ⟨⟨hs, c1, c2⟩, c3⟩ := s.hp.cells id ek0 cs hid
        have key : ∃ b e ek ys x x', Y.O (.hp id k) = some (b, e, ek, ys) ∧ ys[i]? = some x ∧ f x = some x' := by
          have := setElC_own (i := i) (k := k) (f := f) (Y := Y) (q := Pl.hp id) (v := .agg cs) (v' := .agg cs') (h := .agg hs) ⟨hs, rfl, c2⟩ (by simp only [setElC, hcs])
          exact this
        obtain ⟨b, e, ek, ys, x, x', ho, hx, hf⟩ := key
        obtain ⟨zs, z1, z2, z3, z4⟩ := s.ok.own _ _ _ _ _ ho
        obtain ⟨m1, m2, m3⟩ := Cx.reel_ok s.ok (i := i) (x' := x') ho z1 z2 z3 z4
        have hlt := (List.getElem?_eq_some_iff.1 hid).1
        have varne : ∀ (j : Nat) (ek' : Option Nat) (gs : List HV), Y.H[j]? = some (HO.var ek' gs) → (Y.H.set (Y.th (Pl.hp id k)).1 (.row false e ek (Y.th (Pl.hp id k)).2.1 (zs.set ((Y.th (Pl.hp id k)).2.2 + i) x')))[j]? = some (HO.var ek' gs) := by
          intro j ek' gs hj
          rw [set_other]
          · exact hj
          · intro he; rw [← he, z1] at hj; cases hj
        refine ⟨b, e, ek, ys, zs, x, x', ho, hx, hf, z1, sub_get z3 hx, _, ⟨m1, ⟨s.fr.al, ?_⟩, ⟨by rw [List.length_set]; exact s.hp.n, ?_⟩, ?_⟩, m3, rfl⟩
        · intro t'
          have := (s.fr.env t').hit m2
          rw [blind_hit (fun a b => fun e => by cases e)] at this
          exact this
        · intro j ek' ds hj
          by_cases hji : j = id
          · subst hji
            rw [List.getElem?_set_self hlt] at hj
            injection hj with hj; injection hj with h1 h2; subst h1; subst h2
            have hO : (Y.reel (Pl.hp j k) (b, e, ek, ys.set i x') (Y.H.set (Y.th (Pl.hp j k)).1 (.row false e ek (Y.th (Pl.hp j k)).2.1 (zs.set ((Y.th (Pl.hp j k)).2.2 + i) x')))).O (Pl.hp j k) = some (b, e, ek, ys.set i x') := by simp [Cx.reel]
            have r := setElL_R (k := 0) m2 rfl ho hO hx hf c2 hcs (by rw [Nat.zero_add]) (fun m hm => by injection hm with _ hm; rw [hm, Nat.zero_add])
            have nb : ∀ l : List WV, l.all cellH = true → l.map (blind1 (Pl.hp j k)) = l := by
              intro l
              induction l with
              | nil => intro _; rfl
              | cons v l ih =>
                intro hl
                simp only [List.all_cons, Bool.and_eq_true] at hl
                rw [List.map_cons, ih hl.2]
                congr 1
                cases v with
                | view => cases hl.1
                | eptr => cases hl.1
                | _ => rfl
            have hall : ∀ (l l' : List WV) (m : Nat), setElL i f m l = some l' → l.all cellH = true → l'.all cellH = true := by
              intro l
              induction l with
              | nil => intro l' m hm; cases m <;> cases hm
              | cons v l ih =>
                intro l' m hm hl
                simp only [List.all_cons, Bool.and_eq_true] at hl
                cases m with
                | zero =>
                  simp only [setElL] at hm
                  split at hm
                  · rename_i v' hv'
                    injection hm with hm; subst hm
                    simp only [List.all_cons, Bool.and_eq_true]
                    refine ⟨?_, hl.2⟩
                    cases v with
                    | own b2 e2 ek2 xs2 =>
                      simp only [setEl1] at hv'
                      split at hv'
                      · split at hv'
                        · injection hv' with hv'; subst hv'; rfl
                        · cases hv'
                      · cases hv'
                    | _ => cases hv'
                  · cases hm
                | succ m =>
                  simp only [setElL] at hm
                  split at hm
                  · rename_i l2 hl2
                    injection hm with hm; subst hm
                    simp only [List.all_cons, Bool.and_eq_true]
                    exact ⟨hl.1, ih _ _ hl2 hl.2⟩
                  · cases hm
            have hc' := hall _ _ _ hcs c3
            rw [nb _ hc'] at r
            exact ⟨⟨hs, varne _ _ _ c1, r⟩, hc'⟩
          · rw [set_other (fun e => hji e.symm)] at hj
            obtain ⟨⟨gs, d1, d2⟩, d3⟩ := s.hp.cells j ek' ds hj
            exact ⟨⟨gs, varne _ _ _ d1, d2.still m2 (fun m => by simp only [isP, decide_eq_false_iff_not]; intro e; injection e with e; exact hji e) d3⟩, d3⟩
        · intro a c
          simp [Cx.reel, s.ht a c]
      · cases h
    · cases h
  · cases h

theorem storeE_sim {ek : Option Nat} {pl : Pl} {i off : Nat} {ek' : Option Nat} {xx : CV} {x : Opd} {X : Cx} {w w' : WFr} {W W' : WHeap} {fr : Fr} (s : SR X w W fr) {p : HV} (hp : VR1 X (.tmp 0 0) (.eptr pl i off ek' xx) p)
    (h : storeW ek (.eptr pl i off ek' xx) (w.rd x) w W = some (w', W')) : ∃ Y, storeH ek p (fr.opd x) X.H = some Y.H ∧ SR Y w' W' fr ∧ WStp X Y := by
  simp only [storeW] at h
  split at h
  · rename_i u ps hc
    rw [hitAll_eq] at h
    simp only at h
    split at h
    · rename_i w2 W2 hs
      injection h with h; injection h with h1 h2; subst h1; subst h2
      have rx := rdR s.fr Pl.tmp x (by intro e; rw [e] at hc; cases hc)
      obtain ⟨c1, c2⟩ := close_R s.ok rx (rd_noOwn w x) hc []
      obtain ⟨Y, hY, st, hH, hO, hT⟩ := s.freeze c2
      obtain ⟨b, e, ek2, ys, zs, x1, x', o1, o2, o3, o4, o5, Z, hZ, st', hH'⟩ := setElP_R hY hs
      obtain ⟨rfl, b0, e0, ys0, q1, q2⟩ := hp
      have hX : X.O pl = some (b, e, ek2, ys) := by
        rw [hO] at o1
        split at o1
        · cases o1
        · exact o1
      rw [hX] at q1
      simp only [Option.some.injEq, Prod.mk.injEq] at q1
      obtain ⟨rfl, rfl, rfl, rfl⟩ := q1
      rw [o2] at q2
      injection q2 with q2
      subst q2
      refine ⟨Z, ?_, hZ, st.trans st'⟩
      rw [hT] at o4 o5 hH'
      simp only [frzTo, List.nil_append] at c1
      rw [hH] at o4 hH'
      simp only [storeH, c1, o4]
      unfold putEl at o3
      split at o3
      · rename_i hf
        rw [if_pos ⟨trivial, hf⟩]
        simp only [o5]
        split at o3
        · rename_i hw
          injection o3 with o3
          rw [if_pos hw, hH', o3]
        · rename_i hw
          rw [if_neg hw]
          split at o3
          · rename_i hl
            rw [if_pos hl]
            split at o3
            · rename_i x2 hx2
              split at o3
              · rename_i hf2
                injection o3 with o3
                subst o3
                simp only [hx2]
                rw [if_pos hf2, hH']
              · cases o3
            · cases o3
          · cases o3
      · cases o3
    · cases h
  · cases h
theorem store_sim {ek : Option Nat} {a x : Opd} {dst : Option Nat} {X : Cx} {w w' : WFr} {W W' : WHeap} {fr : Fr} (s : SR X w W fr) (h : wOp0 (.store ek a x) dst w W = some (w', W')) : WSim (.store ek a x) dst X w W fr w' W' := by
  cases hp : fr.place a with
  | some p => obtain ⟨b, off⟩ := p; exact storeL_sim s hp h
  | none =>
    simp only [wOp0] at h
    rw [place_eq s.fr, hp] at h
    simp only at h
    split at h
    · rename_i hd
      have key : ∃ Y, storeH ek (fr.opd a) (fr.opd x) X.H = some Y.H ∧ SR Y w' W' fr ∧ WStp X Y := by
        cases hv : w.rd a with
        | ptr id off =>
          rw [hv] at h
          have r := ptr_of s.fr hv (by simp)
          exact storeP_sim s r.1 r.2 h
        | eptr pl i off ek' xx =>
          rw [hv] at h
          have r := ptr_of s.fr hv (by simp)
          exact storeE_sim s r h
        | _ => rw [hv] at h; cases h
      obtain ⟨Y, k1, k2, k3⟩ := key
      exact ⟨Y, fr, by simp only [doOp0, hp, k1], k2, k3⟩
    · cases h
/-- Every operation. -/
theorem wOp0_sim {o : IOp} {dst : Option Nat} {X : Cx} {w w' : WFr} {W W' : WHeap} {fr : Fr} (s : SR X w W fr) (h : wOp0 o dst w W = some (w', W')) : WSim o dst X w W fr w' W' := by
  cases o with
  | mv => exact mv_sim s h
  | un => exact un_sim s h
  | bin => exact bin_sim s h
  | eqs => exact eqs_sim s h
  | eqb => exact eqb_sim s h
  | pick => exact pick_sim s h
  | load => exact load_sim s h
  | store => exact store_sim s h
  | faddr => exact faddr_sim s h
  | nck => exact nck_sim s h
  | fld => exact fld_sim s h
  | ix => exact ix_sim s h
  | six => exact six_sim s h
  | slc => exact slc_sim s h
  | len => exact len_sim s h
  | app => exact app_sim s h
  | build => exact build_sim s h
  | bsl => exact bsl_sim s h
  | lbox => exact lbox_sim s h
  | hbox => exact hbox_sim s h
  | b2s => exact b2s_sim s h
  | cvs => exact cvs_sim s h
  | call => cases h
  | callv => cases h
  | mkf => exact mkf_sim s h
  | ext => exact ext_sim s h
  | cvt => exact cvt_sim s h
  | mx => exact mx_sim s h
end Go.Proofs.Lz
