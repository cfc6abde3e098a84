/- Every operation that the small code has. -/
import Derived.Test.YtmjofajbfondhaaLzCall2
set_option linter.unusedVariables false
set_option linter.unusedSimpArgs false
namespace Go.Proofs.Lz
section
variable {P : Program} {fb N : Nat} {w : World} {F : Nat → Prop} {H : Heap} {m : LMap} {lb : Nat → Nat} {fr : Fr} {a : Act} {o : Oper}
variable {K : Act → World → Prop} {Q : Exit → Act → World → Prop}

theorem run_box {t : TypeId} {v : Value} : (Instr.box t v).run P w = .ok (.pointer (some ⟨w.heap.size, 0, none⟩)) (w.alloc (.cells v.cells t (0, 0))) := by
  simp [Instr.box, newVar, newRow]
theorem run_alloc {t : TypeId} {z : Value} (hz : zeroOf P t = some z) : (Instr.alloc t true (.tuple #[])).run P w = .ok (.pointer (some ⟨w.heap.size, 0, none⟩)) (w.alloc (.cells z.cells t (0, 0))) := by
  unfold zeroOf at hz
  cases hi : P.info? t with
  | none => simp [hi] at hz
  | some i =>
    simp [hi] at hz
    simp [Instr.alloc, zeroValue, typeInfo, hi, hz, newVar, newRow]

theorem opd_k {x : HV} {v : Value} (hx : hvOf v = some x) : RH w F H m (fr.opd (.k x)) v := (RH_hvOf hx).1

theorem cvsOf_length : ∀ {l : List Value} {cs : List CV}, cvsOf l = some cs → cs.length = l.length := by
  intro l
  induction l with
  | nil => intro cs h; simp [cvsOf] at h; subst h; rfl
  | cons v l ih =>
    intro cs h
    unfold cvsOf at h
    cases h1 : cvOf v with
    | none => rw [h1] at h; cases h
    | some c =>
      cases h2 : cvsOf l with
      | none => rw [h1, h2] at h; cases h
      | some cs' => rw [h1, h2] at h; injection h with h; subst h; simp [ih h2]

theorem doOp_eq {E : Env} {call : CallF} {io : IOp} {dst : Option Nat} (h1 : ∀ f as, io ≠ .call f as) (h2 : ∀ x as, io ≠ .callv x as) : doOp E call io dst fr H = doOp0 io dst fr H := by
  unfold doOp
  split
  · exact absurd rfl (h1 _ _)
  · exact absurd rfl (h2 _ _)
  · rfl

theorem sim_op {E : Env} {call : CallF} (hok : CallOk P call) {all : List Oper} {lvl : Nat} {io : IOp} (hc : compOp P all lvl o = some io) (hs : RS fb N w F H m lb fr a) (hN : ∀ d, o.dst = some d → d < N)
    {fr' : Fr} {H' : Heap} (hd : doOp E call io o.dst fr H = some (fr', H')) (h : Next fb N w F H m fr' H' K) : o.wp P a w K Q := by
  unfold compOp at hc
  split at hc
  · rename_i x ho
    simp only [Option.map_eq_some_iff] at hc
    obtain ⟨ix, hx, rfl⟩ := hc
    exact sim_mv (.inl ho) hx hs hN hd h
  · rename_i x ho
    simp only [Option.map_eq_some_iff] at hc
    obtain ⟨ix, hx, rfl⟩ := hc
    exact sim_mv (.inr ho) hx hs hN hd h
  · rename_i c x y ho
    split at hc
    · rename_i ic ix iy h1 h2 h3
      injection hc with hc; subst hc
      exact sim_pick ho h1 h2 h3 hs hN hd h
    · cases hc
  · rename_i e ho
    split at hc
    · rename_i z ek h1 h2
      cases hz : zeroOf P e with
      | none => rw [hz] at h1; cases h1
      | some zv =>
        rw [hz] at h1
        simp only [Option.bind_some] at h1
        injection hc with hc
        have hrun : (execOp a.eval o).run P w = .ok (.value (.pointer (some ⟨w.heap.size, 0, none⟩))) (w.alloc (.cells zv.cells e (0, 0))) := by
          simp only [execOp, ho, Sem.run_bind, run_alloc hz, Result.andThen_ok, Sem.run_pure]
        split at hc
        · subst hc; exact sim_lbox hrun (opd_k h1) hs hN hd h
        · subst hc; exact sim_hbox hrun (opd_k h1) hs hN hd h
    · cases hc
  · rename_i e x ho
    split at hc
    · rename_i ix ek h1 h2
      injection hc with hc
      have hrun : (execOp a.eval o).run P w = .ok (.value (.pointer (some ⟨w.heap.size, 0, none⟩))) (w.alloc (.cells (a.eval x).cells e (0, 0))) := by
        simp only [execOp, ho, Sem.run_bind, run_box, Result.andThen_ok, Sem.run_pure]
      split at hc
      · subst hc; exact sim_lbox hrun (opd_rel hs.fr h1).1 hs hN hd h
      · subst hc; exact sim_hbox hrun (opd_rel hs.fr h1).1 hs hN hd h
    · cases hc
  · rename_i t parts ho
    split at hc
    · rename_i fs z h1 h2
      split at hc
      · rename_i pl h3
        simp only [Option.map_eq_some_iff] at hc
        obtain ⟨ips, h4, rfl⟩ := hc
        exact sim_build ho h1 h2 h3 h4 hs hN hd h
      · cases hc
    · cases hc
  · rename_i t len parts ho
    split at hc
    · rename_i e h1
      split at hc
      · rename_i ek z ps h2 h3 h4
        split at hc
        · rename_i hlim
          injection hc with hc; subst hc
          cases hi : P.info? e with
          | none => simp [zeroOf, hi] at h3
          | some i =>
            cases hz : i.zero with
            | none => simp [zeroOf, hi, hz] at h3
            | some zv =>
              simp only [zeroOf, hi, hz, Option.bind_some] at h3
              exact sim_bsl ho h1 h2 hi hz (by have := cvsOf_length h3; rw [hlim.2] at this; simpa using this.symm) h3 h4 hlim.1 hs hN hd h
        · cases hc
      · cases hc
    · cases hc
  · rename_i t x ho
    split at hc
    · rename_i ek ix h1 h2
      injection hc with hc; subst hc
      exact sim_load ho h1 h2 hs hN hd h
    · cases hc
  · rename_i t x y ho
    split at hc
    · rename_i ek ix iy h0 h1 h2 h3
      injection hc with hc; subst hc
      exact sim_store ho h0 h1 h2 h3 hs hd h
    · cases hc
  · rename_i x ho
    simp only [Option.map_eq_some_iff] at hc
    obtain ⟨ix, hx, rfl⟩ := hc
    exact sim_nck ho hx hs hN hd h
  · rename_i op xt x y yt ho
    split at hc
    · rename_i ix iy h1 h2
      split at hc
      · split at hc
        · rename_i hu
          injection hc with hc; subst hc
          exact sim_eqb ho (.inl rfl) hu h1 h2 hs hN hd h
        · injection hc with hc; subst hc
          exact sim_bin ho h1 h2 hs hN hd h
        · injection hc with hc; subst hc
          exact sim_bin ho h1 h2 hs hN hd h
        · rename_i fs hu
          split at hc
          · cases hc
          · rename_i hg
            simp only [Option.map_eq_some_iff] at hc
            obtain ⟨ks, hk, rfl⟩ := hc
            exact sim_eqs ho (.inl rfl) hu (by simpa using hg) hk h1 h2 hs hN hd h
        · cases hc
      · split at hc
        · rename_i hu
          injection hc with hc; subst hc
          exact sim_eqb ho (.inr rfl) hu h1 h2 hs hN hd h
        · injection hc with hc; subst hc
          exact sim_bin ho h1 h2 hs hN hd h
        · injection hc with hc; subst hc
          exact sim_bin ho h1 h2 hs hN hd h
        · rename_i fs hu
          split at hc
          · cases hc
          · rename_i hg
            simp only [Option.map_eq_some_iff] at hc
            obtain ⟨ks, hk, rfl⟩ := hc
            exact sim_eqs ho (.inr rfl) hu (by simpa using hg) hk h1 h2 hs hN hd h
        · cases hc
      · cases hc
      · cases hc
      · injection hc with hc; subst hc
        exact sim_bin ho h1 h2 hs hN hd h
    · cases hc
  · rename_i op xt x ho
    simp only [Option.map_eq_some_iff] at hc
    obtain ⟨ix, hx, rfl⟩ := hc
    exact sim_un ho hx hs hN hd h
  · rename_i s d x ho
    split at hc
    · rename_i k1 k h1 h2
      simp only [Option.map_eq_some_iff] at hc
      obtain ⟨ix, hx, rfl⟩ := hc
      exact sim_cvt ho h1 h2 hx hs hN hd h
    · rename_i h1 h2
      simp only [Option.map_eq_some_iff] at hc
      obtain ⟨ix, hx, rfl⟩ := hc
      exact sim_cvs ho h1 h2 hx hs hN hd h
    · cases hc
  · rename_i f first cap ho
    split at hc
    · rename_i i1 i2 h1 h2
      injection hc with hc; subst hc
      exact sim_mkf ho h1 h2 hs hN hd h
    · cases hc
  · rename_i t x lo hi ho
    split at hc
    · rename_i ix il ih h1 h2 h3 h4
      injection hc with hc; subst hc
      exact sim_slc ho (.inl ⟨rfl, h1⟩) h2 h3 h4 hs hN hd h
    · rename_i e ix il ih h1 h2 h3 h4
      simp only [Option.map_eq_some_iff] at hc
      obtain ⟨ek, he, rfl⟩ := hc
      exact sim_slc ho (.inr ⟨rfl, e, h1, he⟩) h2 h3 h4 hs hN hd h
    · cases hc
  · rename_i s x f ho
    split at hc
    · rename_i fs h1
      split at hc
      · rename_i fd h2
        split at hc
        · rename_i ek ix h3 h4
          injection hc with hc; subst hc
          exact sim_faddr ho h1 h2 h3 h4 hs hN hd h
        · cases hc
      · cases hc
    · cases hc
  · rename_i s x f ho
    split at hc
    · rename_i fs h1
      split at hc
      · rename_i fd h2
        split at hc
        · rename_i ek ix h3 h4
          injection hc with hc; subst hc
          exact sim_fld ho h1 h2 h3 h4 hs hN hd h
        · cases hc
      · cases hc
    · cases hc
  · rename_i t x i ho
    split at hc
    · rename_i e h1
      split at hc
      · rename_i ek ix ii h2 h3 h4
        injection hc with hc; subst hc
        exact sim_ix ho h1 h2 h3 h4 hs hN hd h
      · cases hc
    · cases hc
  · rename_i t x i ho
    split at hc
    · rename_i ix ii h1 h2 h3
      injection hc with hc; subst hc
      exact sim_six ho h1 h2 h3 hs hN hd h
    · cases hc
  · rename_i x i ho
    simp only [Option.map_eq_some_iff] at hc
    obtain ⟨ix, hx, rfl⟩ := hc
    exact sim_ext ho hx hs hN hd h
  · rename_i b args ts ho
    have harr : ∀ {l : List Operand}, args.toList = l → args = l.toArray := fun e => by rw [← e]
    have harr2 : ∀ {l : List TypeId}, ts.toList = l → ts = l.toArray := fun e => by rw [← e]
    split at hc
    · rename_i x t e1 e2
      rw [harr e1, harr2 e2] at ho
      split at hc
      · rename_i ix h1 h2
        injection hc with hc; subst hc
        exact sim_len (ty := o.type) ho (.inl ⟨rfl, h1⟩) h2 hs hN hd h
      · rename_i e ix h1 h2
        injection hc with hc; subst hc
        exact sim_len (ty := o.type) ho (.inr ⟨rfl, e, h1⟩) h2 hs hN hd h
      · cases hc
    · rename_i s x t u e1 e2
      rw [harr e1, harr2 e2] at ho
      split at hc
      · rename_i e e' is ix h1 h2 h3 h4
        split at hc
        · rename_i htu
          subst htu
          split at hc
          · rename_i ek n z h5 h6 h7
            split at hc
            · rename_i hz
              injection hc with hc; subst hc
              cases hi : P.info? e with
              | none => simp [zeroOf, hi] at h7
              | some i =>
                simp [zeroOf, hi] at h7
                simp [bytesOf', hi] at h6
                subst h6
                exact sim_app ho h1 h5 hi h7 hz h3 h4 hs hN hd h
            · cases hc
          · cases hc
        · cases hc
      · cases hc
    · rename_i x y e1
      rw [harr e1] at ho
      split at hc
      · rename_i ix iy h1 h2
        injection hc with hc; subst hc
        exact sim_mx (isMax := true) ho h1 h2 hs hN hd h
      · cases hc
    · rename_i x y e1
      rw [harr e1] at ho
      split at hc
      · rename_i ix iy h1 h2
        injection hc with hc; subst hc
        exact sim_mx (isMax := false) ho h1 h2 hs hN hd h
      · cases hc
    · cases hc
  · rename_i f args ts ho
    simp only [Option.map_eq_some_iff] at hc
    obtain ⟨ias, hx, rfl⟩ := hc
    exact sim_call hok ho hx hs hN hd h
  · rename_i t args ts ho
    simp only [Option.map_eq_some_iff] at hc
    obtain ⟨ias, hx, rfl⟩ := hc
    exact sim_callv hok ho hx hs hN hd h
  · cases hc
end
end Go.Proofs.Lz
