/- Layout, the reference's Insert in plain Lean: its steps are the program's. -/
import Derived.Test.YtmjofajbfondhaaLzRefZ
set_option linter.unusedSimpArgs false
set_option linter.unusedVariables false
namespace Go.Proofs.TryL
open Go.Proofs.Lz
theorem ex_wait (s : St) (w : List UInt8) : (s.wait w).expect = s.expect := by unfold St.wait; split <;> rfl
theorem ex_begin (s : St) (t : Tok) : (begin s t).2.expect = false := by
  cases he : s.expect with
  | false => simp [begin, he]
  | true =>
    have key : ∀ m : Int, (if m < t.col then (true, (({ s with expect := false } : St).ins [123]).push ⟨.im, t.col, s.word, false⟩) else (false, ((({ s with expect := false } : St).ins [123]).ins [125]).wait s.word)).2.expect = false := by
      intro m
      split
      · rfl
      · exact ex_wait _ _
    unfold begin
    simp only [he, Bool.true_eq_false, if_false]
    split
    · rfl
    · split
      · rfl
      · exact key _
theorem ex_lines (t : Tok) : ∀ (n : Nat) (s s' : St), lines t n s = some s' → s'.expect = s.expect := by
  intro n
  induction n with
  | zero => intro s s' h; simp only [lines, Option.some.injEq] at h; subst h; rfl
  | succ n ih =>
    intro s s' h
    unfold lines at h
    split at h
    · injection h with h; subst h; rfl
    · split at h
      · injection h with h; subst h; rfl
      · split at h
        · injection h with h; subst h; rfl
        · split at h
          · injection h with h; subst h; rfl
          · split at h
            · cases h
            · rw [ih _ _ h, ex_wait]; rfl
theorem ex_item (s : St) (t : Tok) : (item s t).expect = s.expect := by
  unfold item
  split
  · rfl
  · split <;> rfl
theorem ex_closing {s s' : St} {fm : Fm} (h : closing s fm = some s') : s'.expect = s.expect := by
  unfold closing at h
  split at h
  · cases h
  · split at h
    · cases h
    · split at h
      · injection h with h; subst h; rw [ex_wait]; rfl
      · cases h
theorem ex_comma : ∀ (n : Nat) (s : St), (comma n s).expect = s.expect := by
  intro n
  induction n with
  | zero => intro s; rfl
  | succ n ih =>
    intro s
    unfold comma
    split
    · rfl
    · split
      · rfl
      · split
        · rfl
        · split
          · rfl
          · rw [ih, ex_wait]; rfl
theorem ex_ending {s s' : St} {w : List UInt8} {lt th : Bool} (h : ending s w lt th = some s') : s'.expect = s.expect := by
  unfold ending at h
  split at h
  · cases h
  · split at h
    · cases h
    · split at h
      · cases h
      · injection h with h; subst h
        split <;> rfl
theorem ex_mark (s : St) (b : Bool) : (mark s b).expect = s.expect := by
  unfold mark
  split
  · rfl
  · split
    · rfl
    · split <;> rfl
theorem ex_tokenR {s s' : St} {t : Tok} {w : List UInt8} (h : tokenR s t w = some s') : s'.expect = s.expect := by
  unfold tokenR at h
  rcases ite_some h with ⟨-, h⟩ | ⟨-, h⟩
  · injection h with h; subst h; rfl
  rcases ite_some h with ⟨-, h⟩ | ⟨-, h⟩
  · injection h with h; subst h; rfl
  rcases ite_some h with ⟨-, h⟩ | ⟨-, h⟩
  · injection h with h; subst h; rfl
  rcases ite_some h with ⟨-, h⟩ | ⟨-, h⟩
  · exact ex_closing h
  rcases ite_some h with ⟨-, h⟩ | ⟨-, h⟩
  · exact ex_closing h
  rcases ite_some h with ⟨-, h⟩ | ⟨-, h⟩
  · exact ex_closing h
  rcases ite_some h with ⟨-, h⟩ | ⟨-, h⟩
  · injection h with h; subst h; exact ex_comma _ _
  rcases ite_some h with ⟨-, h⟩ | ⟨-, h⟩
  · injection h with h; subst h; exact ex_mark _ _
  rcases ite_some h with ⟨-, h⟩ | ⟨-, h⟩
  · injection h with h; subst h; exact ex_mark _ _
  rcases ite_some h with ⟨-, h⟩ | ⟨-, h⟩
  · injection h with h; subst h; rfl
  rcases ite_some h with ⟨-, h⟩ | ⟨-, h⟩
  · exact ex_ending h
  rcases ite_some h with ⟨-, h⟩ | ⟨-, h⟩
  · exact ex_ending h
  rcases ite_some h with ⟨-, h⟩ | ⟨-, h⟩
  · exact ex_ending h
  rcases ite_some h with ⟨-, h⟩ | ⟨-, h⟩
  · exact ex_ending h
  injection h with h; subst h; rfl
/-- The word before, as the reference keeps it. -/
def befR (s : St) : List UInt8 := if s.expect = true then s.word else []
theorem bef_step {s s' : St} {t b : Tok} {i : Nat} (h : stepI s t b i = some s') : befR s' = bword t := by
  unfold stepI at h
  split at h
  · cases h
  · rename_i s2 hs
    have h2 : s2.expect = false := by
      split at hs
      · rw [ex_lines _ _ _ _ hs, ex_begin]
      · injection hs with hs; subst hs; exact ex_begin _ _
    rw [token_eq] at h
    cases hr : tokenR (item s2 t) t (bword b) with
    | none => rw [hr] at h; cases h
    | some s3 =>
      rw [hr] at h
      simp only [Option.map_some, Option.some.injEq] at h
      subst h
      have h3 : s3.expect = false := by rw [ex_tokenR hr, ex_item, h2]
      unfold befR bword St.add
      cases ho : opens t <;> simp [h3]
theorem add_eq (s : St) (t : Tok) : s.add t = { (if opens t = true then ({ s with expect := true, word := t.text } : St) else s) with out := s.out ++ [t] } := by
  unfold St.add
  split <;> rfl
/-- Rule 4, class by class. -/
theorem token_Q (s : St) (t : Tok) (w : List UInt8) : (tokenQ s t w).map (fun s => ({ s with out := s.out ++ [t] } : St)) = (tokenR s t w).map fun s => s.add t := by
  by_cases h8 : t.op = 8
  · have e : tokenR s t w = spR s t w := by
      simp only [tokenR, spR, special, isW, h8]
      simp
    have ho : opens t = false := by simp [opens, isW, h8]
    have ha : ∀ s : St, s.add t = { s with out := s.out ++ [t] } := by intro s; simp [St.add, ho]
    simp only [tokenQ, if_pos h8, e, ha]
  · by_cases h9 : t.op = 9
    · have e : tokenR s t w = wdR s t := by
        simp only [tokenR, wdR, special, isW, h9, seek_eq]
        simp
      have ha : ∀ s : St, s.add t = { (opR s t) with out := (opR s t).out ++ [t] } := by
        intro s
        rw [add_eq]
        by_cases ho : t.text = wWhere ∨ t.text = wLet ∨ t.text = wDo ∨ t.text = wOf
        · have : opens t = true := by simp only [opens, isW, h9]; simpa [or_assoc] using ho
          simp [opR, ho, this]
        · have : opens t = false := by
            cases hq : opens t with
            | false => rfl
            | true => exact absurd (by simpa [opens, isW, h9, or_assoc] using hq) ho
          simp [opR, ho, this]
      simp only [tokenQ, if_neg h8, if_pos h9, e, ha, Option.map_map]
      rfl
    · have ho : opens t = false := by simp [opens, isW, h9]
      have ha : ∀ s : St, s.add t = { s with out := s.out ++ [t] } := by intro s; simp [St.add, ho]
      by_cases h10 : t.op = 10
      · have e : tokenR s t w = some (if t.text = [61] then mark s true else s) := by
          simp only [tokenR, special, isW, h10]
          by_cases hx : t.text = [61] <;> simp [hx]
        simp only [tokenQ, if_neg h8, if_neg h9, if_pos h10, e, ha]
      · have e : tokenR s t w = some s := by
          simp [tokenR, special, isW, h8, h9, h10]
        simp only [tokenQ, if_neg h8, if_neg h9, if_neg h10, e, ha]
theorem step_eq {s : St} {t b : Tok} {i : Nat} {l : Ln} (hf : l.first = decide (i = 0)) (hl : 0 < i → l.line = b.line) (hb : befR s = bword b) : stepR s t l = stepI s t b i := by
  unfold stepR stepI
  have hc : ((begin s t).1 = false ∧ l.first = false ∧ l.line < t.line) = ((begin s t).1 = false ∧ 0 < i ∧ b.line < t.line) := by
    apply propext
    rw [hf]
    constructor
    · rintro ⟨h1, h2, h3⟩
      have : 0 < i := by simp at h2; omega
      exact ⟨h1, this, by rw [← hl this]; exact h3⟩
    · rintro ⟨h1, h2, h3⟩
      exact ⟨h1, by simp; omega, by rw [hl h2]; exact h3⟩
  have hb' : (if s.expect = true then s.word else []) = bword b := hb
  simp only [hc, hb', token_eq, token_Q]
  split <;> rename_i e <;> simp only [e]
/-! the last test: an implicit block with a bracket above it -/
theorem open1_true {s : St} {i k : Nat} {a c : El} (hik : i < k) (hi : s.stack[i]? = some a) (ha : a.form = .im) (hk : s.stack[k]? = some c) (hc : isPB c = true) : open1 s = true := by
  unfold open1
  have hil : i < s.stack.length := (List.getElem?_eq_some_iff.1 hi).1
  cases hf : s.stack.findIdx? isIm with
  | none =>
    rw [List.findIdx?_eq_none_iff] at hf
    have := hf a (List.mem_of_getElem? hi)
    simp [isIm, ha] at this
  | some j =>
    simp only
    rw [List.findIdx?_eq_some_iff_getElem] at hf
    obtain ⟨hj, _, hm⟩ := hf
    have hji : j ≤ i := by
      refine Nat.le_of_not_lt fun h => ?_
      have := hm i h
      have e : s.stack[i] = a := by rw [List.getElem?_eq_getElem hil] at hi; injection hi
      rw [e] at this
      simp [isIm, ha] at this
    rw [List.any_eq_true]
    refine ⟨c, ?_, hc⟩
    rw [List.mem_iff_getElem?]
    exact ⟨k - j, by rw [List.getElem?_drop, show j + (k - j) = k by omega]; exact hk⟩
theorem open1_false {s : St} (h : ∀ (i k : Nat) (a c : El), i < k → s.stack[i]? = some a → a.form = .im → s.stack[k]? = some c → isPB c = false) : open1 s = false := by
  unfold open1
  cases hf : s.stack.findIdx? isIm with
  | none => rfl
  | some j =>
    simp only
    rw [List.findIdx?_eq_some_iff_getElem] at hf
    obtain ⟨hj, him, _⟩ := hf
    cases ha : (s.stack.drop j).any isPB with
    | false => rfl
    | true =>
      rw [List.any_eq_true] at ha
      obtain ⟨c, hc, hp⟩ := ha
      rw [List.mem_iff_getElem?] at hc
      obtain ⟨n, hn⟩ := hc
      rw [List.getElem?_drop] at hn
      have hi : s.stack[j]? = some s.stack[j] := List.getElem?_eq_getElem hj
      have hform : s.stack[j].form = .im := by simpa [isIm] using him
      cases n with
      | zero =>
        rw [Nat.add_zero, hi] at hn
        injection hn with hn
        rw [← hn] at hp
        simp [isPB, hform] at hp
      | succ n =>
        rw [h j (j + (n + 1)) _ c (by omega) hi hform hn] at hp
        cases hp
end Go.Proofs.TryL
