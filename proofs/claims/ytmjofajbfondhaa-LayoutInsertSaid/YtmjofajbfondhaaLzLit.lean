/- Slice literals; bytes made a string. -/
import Derived.Test.YtmjofajbfondhaaLzApp
set_option linter.unusedVariables false
set_option linter.unusedSimpArgs false
namespace Go.Proofs.Lz
section
variable {P : Program} {fb N : Nat} {w : World} {F : Nat → Prop} {H : Heap} {m : LMap} {lb : Nat → Nat} {fr : Fr} {a : Act} {o : Oper}
variable {K : Act → World → Prop} {Q : Exit → Act → World → Prop}

theorem zero_cells (z : Array Value) (n : Nat) (hz : 0 < z.size) : ((Array.range (n * z.size)).map (z[· % z.size]!)).toList = (List.replicate n z.toList).flatten := by
  rw [Array.toList_map, Array.toList_range]
  induction n with
  | zero => simp
  | succ n ih =>
    rw [Nat.succ_mul, List.range_add, List.map_append, ih, List.replicate_succ', List.flatten_append, List.map_map]
    congr 1
    simp only [List.flatten_cons, List.flatten_nil, List.append_nil]
    apply List.ext_getElem
    · simp
    · intro i h1 h2
      have hi : i < z.size := by simpa using h2
      simp only [List.getElem_map, List.getElem_range, Function.comp]
      have : (n * z.size + i) % z.size = i := by rw [Nat.mul_comm, Nat.mul_add_mod, Nat.mod_eq_of_lt hi]
      rw [this, getElem!_pos z i hi]
      simp

theorem rrow_replicate {ek : Option Nat} {x : CV} {v : Value} (hx : RC w F x v) (hs : Shape ek v) (n : Nat) : RRow w F ek (List.replicate n x) (List.replicate n v.cells.toList).flatten := by
  induction n with
  | zero => simp [RRow]
  | succ n ih =>
    rw [List.replicate_succ, List.replicate_succ, List.flatten_cons]
    unfold RRow
    exact ⟨v, _, rfl, hs, hx, ih⟩

theorem row_fill {ek : Option Nat} (hpos : 0 < ekSize ek) : ∀ {parts : List (Nat × Operand)} {ips : List (Nat × Opd)} {F : Nat → Prop} {H H' : Heap} {xs xs' : List CV} {us : List Value}, RHeap w F H m → RFr fb N w F H m lb fr a → rowParts parts = some ips → RRow w F ek xs us →
    fillRow ek xs H (ips.map fun p => (p.1, fr.opd p.2)) = some (xs', H') →
    ∃ (F' : Nat → Prop) (us' : List Value), RHeap w F' H' m ∧ Stp w.heap.size F F' H H' m m w w ∧ Instr.fill (fun i => some (i * ekSize ek, ekSize ek)) us.toArray (parts.map fun (i, x) => (i, a.eval x)) = some us'.toArray ∧ RRow w F' ek xs' us' ∧ xs'.length = xs.length := by
  intro parts
  induction parts with
  | nil =>
    intro ips F H H' xs xs' us hh hf hp hr hfill
    simp [rowParts] at hp; subst hp
    simp [fillRow] at hfill
    obtain ⟨rfl, rfl⟩ := hfill
    exact ⟨F, us, hh, Stp.refl .., by simp [Instr.fill], hr, rfl⟩
  | cons p parts ih =>
    intro ips F H H' xs xs' us hh hf hp hr hfill
    obtain ⟨i, x⟩ := p
    unfold rowParts at hp
    cases e2 : opdOf x with
    | none => rw [e2] at hp; cases hp
    | some ix =>
      cases e3 : rowParts parts with
      | none => rw [e2, e3] at hp; cases hp
      | some rest =>
        rw [e2, e3] at hp
        injection hp with hp; subst hp
        simp only [List.map_cons] at hfill ⊢
        unfold fillRow at hfill
        cases hc : closeV (fr.opd ix) H with
        | none => rw [hc] at hfill; cases hfill
        | some q =>
          obtain ⟨u, H1⟩ := q
          rw [hc] at hfill
          dsimp only at hfill
          split at hfill
          · rename_i hcond
            obtain ⟨hi, hfit⟩ := hcond
            obtain ⟨hx, _⟩ := opd_rel hf e2
            obtain ⟨F1, g1, g2, g3, _⟩ := closeV_rel hh hx hc
            obtain ⟨hsh, hfl, hone⟩ := fits_shape hfit g3
            have hr1 := RRow.keep g2.g.keeps _ _ _ hr
            have hr2 := rrow_set g3 hsh hr1 hi
            have hul := rrow_length hr
            have hse : (i + 1) * ekSize ek ≤ us.length := by rw [hul]; exact Nat.mul_le_mul_right _ hi
            rw [Nat.succ_mul] at hse
            have hsz : (a.eval x).cells.size = ekSize ek := by simpa using ek_len hsh
            obtain ⟨F2, us2, k1, k2, k3, k4, k5⟩ := ih g1 (hf.step g2) e3 hr2 hfill
            refine ⟨F2, us2, k1, g2.trans k2, ?_, k4, by simpa using k5⟩
            unfold Instr.fill
            simp only []
            have hno : (decide ((a.eval x).cells.size ≠ ekSize ek) || decide (i * ekSize ek + (a.eval x).cells.size > us.toArray.size)) = false := by
              rw [hsz, List.size_toArray, Bool.or_eq_false_iff]
              exact ⟨by simp, decide_eq_false (by omega)⟩
            rw [hno]
            simp only [Bool.false_eq_true, if_false]
            have hfl2 := foldl_list (i * ekSize ek) (a.eval x).cells us.toArray (by rw [hsz, List.size_toArray]; omega)
            have : (a.eval x).cells.zipIdx.foldl (fun cs (x : Value × Nat) => cs.setIfInBounds (i * ekSize ek + x.2) x.1) us.toArray = (putCells us (i * ekSize ek) (a.eval x).cells.toList).toArray := by
              apply Array.ext'
              rw [hfl2]
              simp [putCells]
            rw [← k3]
            congr 1
          · cases hfill

theorem run_bsl {t e : TypeId} {len : Nat} {ek : Option Nat} {i : TypeInfo} {z : Value} {us : List Value} (ht : P.underlying t = some (.slice e)) (he : ekOf P e = some ek) (hi : P.info? e = some i) (hz : i.zero = some z) (hzs : z.cells.size = ekSize ek) (hlen : ¬ len * ekSize ek = 0)
    (hlim : ¬ len * ekSize ek > 2 ^ 24) (parts : Array (Nat × Value)) (hf : Instr.fill (fun i => some (i * ekSize ek, ekSize ek)) (List.replicate len z.cells.toList).flatten.toArray parts.toList = some us.toArray) :
    (Instr.buildSlice t len parts).run P w = .ok (.slice (some ⟨w.heap.size, 0, none⟩) len len) (w.alloc (.cells us.toArray e (0, 0))) := by
  have hpos := (ek_size he).2
  have hisz : i.size = ekSize ek := by have := (ek_size he).1; simpa [hi] using this
  have hr0 : (Array.range (len * ekSize ek)).map (z.cells[· % z.cells.size]!) = (List.replicate len z.cells.toList).flatten.toArray := by
    apply Array.ext'
    have := zero_cells z.cells len (by rw [hzs]; exact hpos)
    rw [hzs] at this
    simpa [hzs] using this
  rw [← hr0] at hf
  generalize ekSize ek = sz at *
  subst hisz
  exact run_buildSlice w t e len parts us.toArray i z ht hi hz hlim hlen hf

theorem sim_bsl {t e : TypeId} {len : Nat} {parts : Array (Nat × Operand)} {ek : Option Nat} {i : TypeInfo} {z : Value} {zc : List CV} {ips : List (Nat × Opd)} {fz : Bool} (ho : o.op = .buildSlice t len parts) (ht : P.underlying t = some (.slice e)) (he : ekOf P e = some ek)
    (hi : P.info? e = some i) (hz : i.zero = some z) (hzs : z.cells.size = ekSize ek) (hzc : cvsOf z.cells.toList = some zc) (hp : rowParts parts.toList = some ips) (hsmall : len * ekSize ek ≤ 16777216) (hs : RS fb N w F H m lb fr a) (hN : ∀ d, o.dst = some d → d < N)
    {fr' : Fr} {H' : Heap} (hd : doOp0 (.bsl fz e ek zc len ips) o.dst fr H = some (fr', H')) (h : Next fb N w F H m fr' H' K) : o.wp P a w K Q := by
  have hpos := (ek_size he).2
  have hisz : i.size = ekSize ek := by have := (ek_size he).1; simpa [hi] using this
  unfold doOp0 at hd
  dsimp only at hd
  cases hu : unflat ek zc with
  | none => rw [hu] at hd; cases hd
  | some zv =>
    rw [hu] at hd
    dsimp only at hd
    split at hd
    · rename_i hfit
      cases hf : fillRow ek (List.replicate len zv) H (ips.map fun p => (p.1, fr.opd p.2)) with
      | none => rw [hf] at hd; cases hd
      | some q =>
        obtain ⟨xs, H1⟩ := q
        rw [hf] at hd
        dsimp only at hd
        -- the zero's cells
        have hzr : RCs w F zc z.cells.toList ∧ ∀ u ∈ z.cells.toList, u.oneCell' = true := by
          have key : ∀ (l : List Value) (cs : List CV), cvsOf l = some cs → RCs w F cs l ∧ ∀ u ∈ l, u.oneCell' = true := by
            intro l
            induction l with
            | nil => intro cs hc; simp [cvsOf] at hc; subst hc; exact ⟨rcs_nil.2 rfl, by simp⟩
            | cons y l ih =>
              intro cs hc
              unfold cvsOf at hc
              cases c1 : cvOf y with
              | none => rw [c1] at hc; cases hc
              | some c =>
                cases c2 : cvsOf l with
                | none => rw [c1, c2] at hc; cases hc
                | some cs' =>
                  rw [c1, c2] at hc
                  injection hc with hc; subst hc
                  obtain ⟨i1, i2⟩ := ih cs' c2
                  exact ⟨rcs_cons.2 ⟨y, l, rfl, RC_cvOf c1, i1⟩, fun u hu => by
                    rcases List.mem_cons.1 hu with rfl | hu
                    · exact one_cvOf c1
                    · exact i2 u hu⟩
          exact key _ _ hzc
        obtain ⟨zv', r1, r2, r3⟩ := unflat_relC (ek := ek) hzr.1 hzr.2 (by simpa using hzs) hu
        have hrow0 := rrow_replicate r1 r3 len
        rw [r2] at hrow0
        obtain ⟨F1, us, k1, k2, k3, k4, k5⟩ := row_fill hpos hs.heap hs.fr hp hrow0 hf
        have hxl : xs.length = len := by simpa using k5
        have hul := rrow_length k4
        rw [hxl] at hul
        have hrun0 : (Instr.buildSlice t len (parts.map fun (i, x) => (i, a.eval x))).run P w = .ok (.slice (some ⟨w.heap.size, 0, none⟩) len len) (w.alloc (.cells us.toArray e (0, 0))) := by
          have hpl : (parts.map fun (i, x) => (i, a.eval x)).toList = parts.toList.map fun (i, x) => (i, a.eval x) := by simp
          have hlim : ¬ len * ekSize ek > 2 ^ 24 := by omega
          by_cases hlen : len * ekSize ek = 0
          · have hl0 : len = 0 := by
              rcases Nat.mul_eq_zero.1 hlen with h0 | h0
              · exact h0
              · omega
            subst hl0
            simp only [List.replicate_zero, List.flatten_nil] at k3
            simp only [Instr.buildSlice, Sem.run_bind, run_underlying ht, Result.andThen_ok, run_sizeOf he, Nat.zero_mul, if_true, Sem.run_pure, hpl]
            rw [if_neg (by omega)]
            simp only [Sem.run_bind, Sem.run_pure, Result.andThen_ok]
            have e0 : ∀ f : Nat → Value, Array.map f (Array.range 0) = #[] := fun f => by apply Array.ext'; simp
            rw [e0]
            rw [k3]
            simp [newRow]
          · have hk3 : Instr.fill (fun i => some (i * ekSize ek, ekSize ek)) (List.replicate len z.cells.toList).flatten.toArray (parts.map fun (i, x) => (i, a.eval x)).toList = some us.toArray := by
              rw [hpl]
              exact k3
            clear hf k3 hrow0
            exact run_bsl (us := us) (P := P) (w := w) ht he hi hz hzs hlen hlim _ hk3
        have hrun : (execOp a.eval o).run P w = .ok (.value (.slice (some ⟨w.heap.size, 0, none⟩) len len)) (w.alloc (.cells us.toArray e (0, 0))) := by
          simp only [execOp, ho, Sem.run_bind, hrun0, Result.andThen_ok, Sem.run_pure]
        cases fz with
        | true =>
          simp only [if_true] at hd
          injection hd with hd
          injection hd with q1 q2
          subst q1; subst q2
          have hkeep : Keeps F1 (fun b => F1 b ∨ b = w.heap.size) w (w.alloc (.cells us.toArray e (0, 0))) := ⟨fun b hb => .inl hb, fun b hb => heap_alloc_old w _ b (k1.fthere b hb)⟩
          have hg : Grows F1 (fun b => F1 b ∨ b = w.heap.size) H1 H1 m m w (w.alloc (.cells us.toArray e (0, 0))) :=
            ⟨hkeep, fun _ _ cs h => ⟨rfl, cs, h, rfl⟩, fun _ fz e ek ver xs h => ⟨fz, ver, xs, h, Nat.le_refl _, fun _ => ⟨rfl, rfl⟩⟩⟩
          have hlt : ∀ j, j < H1.length → (m j).blk < w.heap.size := fun j hj => k1.there j H1[j] (List.getElem?_eq_getElem hj)
          have hh2 : RHeap (w.alloc (.cells us.toArray e (0, 0))) (fun b => F1 b ∨ b = w.heap.size) H1 m :=
            k1.same hg (fun _ _ => rfl) (fun id hid => heap_alloc_old w _ _ (hlt id hid)) (by rw [alloc_size]; omega) (fun b hb => by
              rcases hb with hb | hb
              · exact .inl hb
              · subst hb
                exact .inr ⟨by rw [alloc_size]; omega, fun id hid => Nat.ne_of_lt (hlt id hid)⟩)
          have st : Stp w.heap.size F1 (fun b => F1 b ∨ b = w.heap.size) H1 H1 m m w (w.alloc (.cells us.toArray e (0, 0))) :=
            ⟨hg, by rw [alloc_size]; omega, rfl, rfl, rfl, fun b hb hid => ⟨heap_alloc_old w _ b hb, hid, fun hf => by
              rcases hf with hf | hf
              · exact hf
              · omega⟩⟩
          refine next_put' hs hN (k2.trans st) hh2 ?_ (by simp) h hrun
          rw [rh_c]; unfold RC
          refine ⟨_, _, by rw [hxl], by rw [hxl]; exact Nat.le_refl _, fun _ => ⟨w.heap.size, 0, us, rfl, .inr rfl, ?_, RRow.keep hkeep _ _ _ k4⟩⟩
          exact range_of_cells (rest := []) (by simpa using heap_alloc_new w (.cells us.toArray e (0, 0)))
        | false =>
          simp only [Bool.false_eq_true, if_false] at hd
          injection hd with hd
          injection hd with q1 q2
          subst q1; subst q2
          have st1 := stp_new k1 (.cells us.toArray e (0, 0)) (.row false e ek 0 xs) len
          have hh1 := rheap_new k1 (vs := us) (e := e) (ho := .row false e ek 0 xs) (cap := len) (fun ek' cs he => by cases he) (fun fz e' ek' ver xs' he' => by
            injection he' with y1 y2 y3 y4 y5
            subst y1; subst y2; subst y3; subst y4; subst y5
            have hcap : len ≤ maxLen := by
              have : len ≤ len * ekSize ek := Nat.le_mul_of_pos_right _ hpos
              simp only [maxLen]; omega
            exact ⟨rfl, rfl, us, [], by simp, RRow.keep st1.g.keeps _ _ _ k4, by simp [hul], hcap, hpos⟩)
          refine next_put' hs hN (k2.trans st1) hh1 (u := .slice (some ⟨w.heap.size, 0, none⟩) len len) ?_ (by simp) h hrun
          unfold RH
          refine ⟨_, _, rfl, ⟨false, e, ek, 0, xs, by simp, Nat.le_refl _⟩, fun fz e2 ek2 xs2 hH2 => ?_⟩
          simp at hH2
          obtain ⟨y1, y2, y3, y4⟩ := hH2
          subst y4; subst y3
          exact ⟨by omega, by simp [upd], Nat.le_refl _, fun _ => by simp [upd]⟩
    · cases hd

/-! ### a string out of bytes -/
theorem bytes_cells : ∀ {xs : List CV} {us : List Value} {l : List UInt8}, RRow w F none xs us → bytesC xs = some l → ∃ ns : List Int, us = ns.map (Value.int .u8) ∧ l = ns.map fun n => UInt8.ofNat n.toNat := by
  intro xs
  induction xs with
  | nil => intro us l h hb; unfold RRow at h; subst h; simp [bytesC] at hb; subst hb; exact ⟨[], rfl, rfl⟩
  | cons c cs ih =>
    intro us l h hb
    unfold RRow at h
    obtain ⟨v, ws, rfl, h1, h2, h3⟩ := h
    cases c with
    | int k n =>
      cases k <;> simp only [bytesC] at hb <;> try (cases hb)
      cases hq : bytesC cs with
      | none => rw [hq] at hb; cases hb
      | some l' =>
        rw [hq] at hb
        injection hb with hb; subst hb
        obtain ⟨ns, rfl, rfl⟩ := ih h3 hq
        rw [rc_int] at h2
        subst h2
        exact ⟨n :: ns, rfl, rfl⟩
    | _ => simp [bytesC] at hb
end
end Go.Proofs.Lz
