/- Every order that a drawn region may be run in gives what the text's order gives. -/
import Derived.Test.YtmjofajbfondhaaLzDraw2
set_option linter.unusedVariables false
set_option linter.unusedSimpArgs false
namespace Go.Proofs.Lz
section
variable {E : Env} {call : CallF}

theorem doD_doOp {c : Cls} {o : IOp} {dst : Option Nat} {fr : Fr} {H : Heap} {p : Fr × Heap} (h : doD E call c o dst fr H = some p) : doOp E call o dst fr H = some p := by
  have key : ∀ {b : Prop} [Decidable b] {x : Option (Fr × Heap)}, (if b then x else none) = some p → x = some p := by
    intro b _ x h
    split at h
    · exact h
    · cases h
  have key' : ∀ {b : Prop} [Decidable b] {x : Option (Fr × Heap)}, (if b then none else x) = some p → x = some p := by
    intro b _ x h
    split at h
    · cases h
    · exact h
  cases c with
  | pure => cases o <;> first | exact key h | (simp only [doD, pureOp, if_true] at h; exact h) | (simp [doD, pureOp] at h; done)
  | rdb => cases o <;> first | exact key h | (simp [doD] at h; done)
  | wrb => cases o <;> first | exact key h | (simp [doD] at h; done)
  | wr => cases o <;> first | exact key' h | exact h | (simp [doD] at h; done)
  | hb => cases o <;> first | exact h | (simp [doD] at h; done)
  | rd =>
    cases o with
    | load ek a => exact key' h
    | ix ek x i => exact h
    | slc st ek x lo hi => exact h
    | call f args =>
      simp only [doD] at h
      have h := key h
      rename_i h0
      have hm : E.md f = .P := by
        split at h0
        · assumption
        · cases h0
      cases hc : callWith E call f (args.map fr.opd) H with
      | none => rw [hc] at h; cases h
      | some q =>
        obtain ⟨v, H'⟩ := q
        rw [hc] at h
        dsimp only at h
        split at h
        · rename_i hn
          obtain ⟨rfl, _⟩ := callP_ext hm hc hn
          simp only [doOp, putCall, hc]
          exact h
        · cases h
    | _ => simp [doD] at h

theorem stpD_stp {c : Cls} {o : IOper} {fr : Fr} {H : Heap} {p : Fr × Heap} (h : stpD E call c o fr H = some p) : stp E call o fr H = some p := by
  unfold stpD at h
  split at h
  · cases hs : stpG E call c o fr H with
    | none => rw [hs] at h; cases h
    | some q =>
      rw [hs] at h
      obtain ⟨f1, h1⟩ := q
      dsimp only at h
      split at h
      · injection h with h; subst h
        unfold stpG at hs
        unfold stp
        cases hg : o.guard with
        | none => rw [hg] at hs; exact doD_doOp hs
        | some g =>
          obtain ⟨s, want⟩ := g
          rw [hg] at hs
          dsimp only at hs ⊢
          cases he : fr.env s with
          | c v =>
            cases v with
            | bool b =>
              rw [he] at hs
              dsimp only at hs ⊢
              by_cases hw : b = want
              · rw [if_pos hw] at hs ⊢; exact doD_doOp hs
              · rw [if_neg hw] at hs ⊢; exact hs
            | _ => rw [he] at hs; cases hs
          | skipv => rw [he] at hs; exact hs
          | _ => rw [he] at hs; cases hs
      · cases h
  · cases h

def evIdxD (E : Env) (call : CallF) (l : List (Cls × IOper)) : List Nat → Fr → Heap → Option (Fr × Heap)
  | [], fr, H => some (fr, H)
  | i :: r, fr, H => match l[i]? with
    | none => evIdxD E call l r fr H
    | some x => match stpD E call x.1 x.2 fr H with
      | some (fr', H') => evIdxD E call l r fr' H'
      | none => none

theorem evIdxD_range : ∀ (done rest : List (Cls × IOper)) (fr : Fr) (H : Heap), evIdxD E call (done ++ rest) ((List.range rest.length).map (done.length + ·)) fr H = evOpsD E call rest fr H := by
  intro done rest
  induction rest generalizing done with
  | nil => intro fr H; rfl
  | cons o rest ih =>
    intro fr H
    obtain ⟨c, o⟩ := o
    simp only [List.length_cons, List.range_succ_eq_map, List.map_cons, List.map_map, Nat.add_zero]
    unfold evIdxD evOpsD
    have h1 : (done ++ (c, o) :: rest)[done.length]? = some (c, o) := by simp
    rw [h1]
    dsimp only
    cases hs : stpD E call c o fr H with
    | none => rfl
    | some p =>
      dsimp only
      have := ih (done ++ [(c, o)]) p.1 p.2
      simp only [List.append_assoc, List.singleton_append, List.length_append, List.length_singleton] at this
      rw [← this]
      congr 1
      apply List.map_congr_left
      intro x _
      simp only [Function.comp]
      omega

def PairOk (l : List (Cls × IOper)) (a i : Nat) : Prop := ∀ x y, l[a]? = some x → l[i]? = some y → memOk x.1 y.1 = true ∧ apartS x.2 y.2 = true

theorem front {l : List (Cls × IOper)} {i : Nat} {y : Cls × IOper} (hy : l[i]? = some y) : ∀ (A B : List Nat) {fr : Fr} {H : Heap} {res : Fr × Heap}, (∀ a ∈ A, PairOk l a i) → evIdxD E call l (A ++ i :: B) fr H = some res →
    ∃ fr1 H1, stpD E call y.1 y.2 fr H = some (fr1, H1) ∧ evIdxD E call l (A ++ B) fr1 H1 = some res := by
  intro A
  induction A with
  | nil =>
    intro B fr H res _ h
    simp only [List.nil_append] at h ⊢
    unfold evIdxD at h
    rw [hy] at h
    dsimp only at h
    cases hs : stpD E call y.1 y.2 fr H with
    | none => rw [hs] at h; cases h
    | some p => rw [hs] at h; exact ⟨p.1, p.2, rfl, h⟩
  | cons a A ih =>
    intro B fr H res hp h
    simp only [List.cons_append] at h ⊢
    unfold evIdxD at h
    cases hx : l[a]? with
    | none =>
      rw [hx] at h
      dsimp only at h
      obtain ⟨fr1, H1, k1, k2⟩ := ih B (fun b hb => hp b (List.mem_cons_of_mem _ hb)) h
      refine ⟨fr1, H1, k1, ?_⟩
      unfold evIdxD
      rw [hx]
      exact k2
    | some x =>
      rw [hx] at h
      dsimp only at h
      cases hs : stpD E call x.1 x.2 fr H with
      | none => rw [hs] at h; cases h
      | some p =>
        obtain ⟨fr', H'⟩ := p
        rw [hs] at h
        dsimp only at h
        obtain ⟨fr1, H1, k1, k2⟩ := ih B (fun b hb => hp b (List.mem_cons_of_mem _ hb)) h
        obtain ⟨q1, q2⟩ := hp a (by simp) x y hx hy
        obtain ⟨fr2, H2, m1, m2⟩ := swap q1 q2 hs k1
        refine ⟨fr2, H2, m1, ?_⟩
        unfold evIdxD
        rw [hx]
        dsimp only
        rw [m2]
        exact k2
end

/-! ### which come before -/
def ClosedL (ops : List Oper) (L : Nat → Prop) : Prop := ∀ j o, L j → ops[j]? = some o → ∀ e ∈ o.after.toList, Region.binds .any e = true → L e.on
def PredsIn (ops : List Oper) (L : Nat → Prop) (j : Nat) : Prop := ∀ o, ops[j]? = some o → ∀ e ∈ o.after.toList, Region.binds .any e = true → L e.on
def GoodAt (ops : List Oper) (j a : Nat) : Prop := ∀ L, ClosedL ops L → PredsIn ops L j → L a

theorem ancM_spec {acc : List Nat} : ∀ {es : List Edge} {a : Nat}, (ancM acc es).testBit a = true → ∃ e ∈ es, Region.binds .any e = true ∧ (e.on = a ∨ (acc.getD e.on 0).testBit a = true) := by
  intro es
  induction es with
  | nil => intro a h; simp [ancM] at h
  | cons e es ih =>
    intro a h
    unfold ancM at h
    split at h
    · rename_i hb
      rw [Nat.testBit_or, Nat.testBit_or, Bool.or_eq_true, Bool.or_eq_true] at h
      rcases h with (h | h) | h
      · exact ⟨e, by simp, hb, .inl (by rw [Nat.testBit_two_pow] at h; simpa using h)⟩
      · exact ⟨e, by simp, hb, .inr h⟩
      · obtain ⟨e', h1, h2⟩ := ih h
        exact ⟨e', List.mem_cons_of_mem _ h1, h2⟩
    · obtain ⟨e', h1, h2⟩ := ih h
      exact ⟨e', List.mem_cons_of_mem _ h1, h2⟩

theorem anc_spec (ops : List Oper) : ∀ (rest done : List Oper) (acc : List Nat), done ++ rest = ops → acc.length = done.length → (∀ j a, (acc.getD j 0).testBit a = true → GoodAt ops j a) → ∀ j a, ((anc rest acc).getD j 0).testBit a = true → GoodAt ops j a := by
  intro rest
  induction rest with
  | nil => intro done acc _ _ h; exact h
  | cons o rest ih =>
    intro done acc hd hl h
    refine ih (done ++ [o]) _ (by simpa using hd) (by simp [hl]) ?_
    intro j a hb
    by_cases hj : j < acc.length
    · have : (acc ++ [ancM acc o.after.toList]).getD j 0 = acc.getD j 0 := by
        rw [List.getD_eq_getElem?_getD, List.getD_eq_getElem?_getD, List.getElem?_append_left hj]
      rw [this] at hb
      exact h j a hb
    · by_cases hj2 : j = acc.length
      · subst hj2
        have : (acc ++ [ancM acc o.after.toList]).getD acc.length 0 = ancM acc o.after.toList := by
          rw [List.getD_eq_getElem?_getD]; simp
        rw [this] at hb
        obtain ⟨e, he, hbi, hq⟩ := ancM_spec hb
        have ho : ops[acc.length]? = some o := by rw [← hd, hl]; simp
        intro L hcl hpr
        have h1 : L e.on := hpr o ho e he hbi
        rcases hq with hq | hq
        · rw [← hq]; exact h1
        · refine h e.on a hq L hcl ?_
          intro o' ho' e' he' hb'
          exact hcl e.on o' h1 ho' e' he' hb'
      · have : (acc ++ [ancM acc o.after.toList]).getD j 0 = 0 := by
          rw [List.getD_eq_getElem?_getD, List.getElem?_eq_none (by simp; omega)]; rfl
        rw [this] at hb
        simp at hb

theorem edgesOk_spec : ∀ (ops : List Oper) (k : Nat), edgesOk k ops = true → ∀ j o, ops[j]? = some o → ∀ e ∈ o.after.toList, Region.binds .any e = true → e.on < k + j := by
  intro ops
  induction ops with
  | nil => intro k _ j o h; simp at h
  | cons x ops ih =>
    intro k hk j o hj e he hb
    unfold edgesOk at hk
    rw [Bool.and_eq_true, List.all_eq_true] at hk
    cases j with
    | zero =>
      simp at hj; subst hj
      have := hk.1 e he
      simp [hb] at this
      omega
    | succ j =>
      simp only [List.getElem?_cons_succ] at hj
      have := ih (k + 1) hk.2 j o hj e he hb
      omega

theorem split_filter {p : Nat → Bool} {i : Nat} : ∀ (L : List Nat), L.Pairwise (· < ·) → i ∈ L → p i = true → ∃ A B, L.filter p = A ++ i :: B ∧ L.filter (fun k => p k && k != i) = A ++ B ∧ ∀ a ∈ A, a < i ∧ p a = true := by
  intro L
  induction L with
  | nil => intro _ h; simp at h
  | cons x xs ih =>
    intro hp hi hpi
    rw [List.pairwise_cons] at hp
    by_cases hx : x = i
    · subst hx
      refine ⟨[], xs.filter p, by simp [hpi], ?_, by simp⟩
      simp only [List.nil_append, List.filter_cons, hpi, bne_self_eq_false, Bool.and_false, Bool.false_eq_true, if_false]
      apply List.filter_congr
      intro y hy
      have := hp.1 y hy
      have : (y != x) = true := by simp; omega
      rw [this, Bool.and_true]
    · have hi' : i ∈ xs := by
        rcases List.mem_cons.1 hi with h | h
        · exact absurd h.symm hx
        · exact h
      obtain ⟨A, B, h1, h2, h3⟩ := ih hp.2 hi' hpi
      have hlt := hp.1 i hi'
      by_cases hpx : p x = true
      · refine ⟨x :: A, B, by simp [hpx, h1], ?_, ?_⟩
        · have : (x != i) = true := by simp [hx]
          simp only [List.filter_cons, hpx, this, Bool.and_self, if_true, h2, List.cons_append]
        · intro a ha
          rcases List.mem_cons.1 ha with rfl | ha
          · exact ⟨hlt, hpx⟩
          · exact h3 a ha
      · refine ⟨A, B, by simp [hpx, h1], ?_, h3⟩
        simp only [List.filter_cons, hpx, Bool.false_and, Bool.false_eq_true, if_false, h2]
end Go.Proofs.Lz
