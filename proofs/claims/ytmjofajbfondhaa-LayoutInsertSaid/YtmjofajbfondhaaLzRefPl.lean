/- Layout, the reference's Insert: its searches find what the program's find. -/
import Derived.Test.YtmjofajbfondhaaLzLayGr
set_option linter.unusedSimpArgs false
set_option linter.unusedVariables false
namespace Go.Proofs.TryL
open Go.Proofs.Lz

theorem toI_some (n : Nat) : toI (some n) = (n : Int) := rfl
theorem toI_none : toI none = -1 := rfl
theorem toI_lt {α : Type} {f : α → Bool} {l : List α} : ∀ {n : Nat}, toI (lastN f l n) < n := by
  intro n
  induction n with
  | zero => simp [lastN, toI]
  | succ n ih =>
    simp only [lastN]
    split
    · split
      · simp only [toI]; omega
      · omega
    · omega
theorem toI_ge {o : Option Nat} : -1 ≤ toI o := by cases o <;> simp only [toI] <;> omega
/-- The topmost of two kinds. -/
theorem lastN_or {α : Type} (f g : α → Bool) (l : List α) : ∀ n, toI (lastN (fun x => f x || g x) l n) = max (toI (lastN f l n)) (toI (lastN g l n)) := by
  intro n
  induction n with
  | zero => simp [lastN, toI]
  | succ n ih =>
    have h1 := toI_lt (f := f) (l := l) (n := n)
    have h2 := toI_lt (f := g) (l := l) (n := n)
    simp only [lastN]
    cases hx : l[n]? with
    | none => exact ih
    | some x =>
      by_cases hf : f x = true <;> by_cases hg : g x = true <;> simp [hf, hg, toI_some] <;> first | exact ih | omega
theorem seeks_wr {w : List UInt8} {lt : Bool} {e : El} (h : seeks w lt e = true) : isWr e = false := by
  cases hf : e.form <;> simp [seeks, isWr, hf] at h ⊢
/-- The word's search, as the reference makes it. -/
def seekS (s : St) (w : List UInt8) (lt thn : Bool) : Option St := match last (seeks w lt) s.stack with
  | none => none
  | some i => if (i : Int) < toI (last isWr s.stack) then none
    else some (if thn = true then (s.cut i).push (pend wThen) else s.cut i)
theorem seek_eq (s : St) (w : List UInt8) (lt thn : Bool) : ending s w lt thn = seekS s w lt thn := by
  have hor := lastN_or (seeks w lt) isWr s.stack s.stack.length
  unfold ending seekS
  change toI (last (fun e => seeks w lt e || isWr e) s.stack) = max (toI (last (seeks w lt) s.stack)) (toI (last isWr s.stack)) at hor
  cases hC : last (fun e => seeks w lt e || isWr e) s.stack with
  | none =>
    rw [hC] at hor
    cases hA : last (seeks w lt) s.stack with
    | none => rfl
    | some i => rw [hA] at hor; simp only [toI] at hor; omega
  | some c =>
    rw [hC] at hor
    have hlt := (last_above hC).1
    have hg : s.stack[c]? = some s.stack[c] := by simp [hlt]
    have hh := last_holds hC hg
    simp only [hg]
    cases hw : isWr s.stack[c] with
    | true =>
      simp only [if_true]
      cases hA : last (seeks w lt) s.stack with
      | none => rfl
      | some i =>
        rw [hA] at hor
        simp only [toI] at hor
        have hi := (last_above hA).1
        have hgi : s.stack[i]? = some s.stack[i] := by simp [hi]
        have hs := seeks_wr (last_holds hA hgi)
        have hne : i ≠ c := by intro e; subst e; rw [hw] at hs; cases hs
        cases hB : last isWr s.stack with
        | none => rw [hB] at hor; simp only [toI] at hor; omega
        | some b =>
          rw [hB] at hor
          simp only [toI_some] at hor
          have hn : (i : Int) < toI (some b) := by rw [toI_some]; omega
          simp only [if_pos hn]
    | false =>
      simp only [Bool.false_eq_true, if_false]
      cases hB : last isWr s.stack with
      | none =>
        rw [hB] at hor
        cases hA : last (seeks w lt) s.stack with
        | none => rw [hA] at hor; simp only [toI] at hor; omega
        | some i =>
          rw [hA] at hor
          simp only [toI] at hor
          have : i = c := by omega
          subst this
          have hn : ¬ ((i : Int) < toI none) := by rw [toI_none]; omega
          simp only [if_neg hn]
      | some b =>
        rw [hB] at hor
        have hb := (last_above hB).1
        have hgb : s.stack[b]? = some s.stack[b] := by simp [hb]
        have hbw := last_holds hB hgb
        have hne : b ≠ c := by intro e; subst e; rw [hw] at hbw; cases hbw
        cases hA : last (seeks w lt) s.stack with
        | none => rw [hA] at hor; simp only [toI] at hor; omega
        | some i =>
          rw [hA] at hor
          simp only [toI] at hor
          have : i = c := by omega
          subst this
          have hn : ¬ ((i : Int) < toI (some b)) := by rw [toI_some]; omega
          simp only [if_neg hn]
theorem last_ge {α : Type} {g : α → Bool} {l : List α} {k : Nat} {x : α} (hx : l[k]? = some x) (hg : g x = true) : (k : Int) ≤ toI (last g l) := by
  cases h : last g l with
  | none =>
    have := last_none h
    rw [List.countP_eq_zero] at this
    exact absurd hg (this x (List.mem_of_getElem? hx))
  | some j =>
    simp only [toI]
    have h2 := (last_above h).2
    rw [List.countP_eq_zero] at h2
    by_cases hjk : j < k
    · have : x ∈ l.drop (j + 1) := by
        refine List.mem_of_getElem? (i := k - (j + 1)) ?_
        rw [List.getElem?_drop, show j + 1 + (k - (j + 1)) = k by omega]
        exact hx
      exact absurd hg (h2 x this)
    · omega
theorem pb_wr {e : El} (h : isPB e = true) : isWr e = true := by
  cases hf : e.form <;> simp [isPB, isWr, hf] at h ⊢
theorem wr_pb {e : El} (h : isWr e = true) (hb : isBlock e = false) : isPB e = true := by
  cases hf : e.form <;> simp [isPB, isWr, isBlock, hf] at h hb ⊢
/-- Above the topmost block, a bracket is what a written context is. -/
theorem lines_pb {l : List El} {i : Nat} (h : last isBlock l = some i) (hi : ∀ e, l[i]? = some e → e.form = .im) : ((l.drop (i + 1)).any isPB = true) = ((i : Int) < toI (last isWr l)) := by
  apply propext
  constructor
  · intro ha
    rw [List.any_eq_true] at ha
    obtain ⟨x, hx, hp⟩ := ha
    obtain ⟨k, hk⟩ := List.getElem?_of_mem hx
    rw [List.getElem?_drop] at hk
    have := last_ge hk (pb_wr hp)
    omega
  · intro hlt
    cases hw : last isWr l with
    | none => rw [hw] at hlt; simp only [toI] at hlt; omega
    | some j =>
      rw [hw] at hlt
      simp only [toI] at hlt
      have hj := (last_above hw).1
      have hg : l[j]? = some l[j] := by simp [hj]
      have hwr := last_holds hw hg
      have h2 := (last_above h).2
      rw [List.countP_eq_zero] at h2
      have hm : l[j] ∈ l.drop (i + 1) := by
        refine List.mem_of_getElem? (i := j - (i + 1)) ?_
        rw [List.getElem?_drop, show i + 1 + (j - (i + 1)) = j by omega]
        exact hg
      have hb : isBlock l[j] = false := by
        cases hb : isBlock l[j] with
        | false => rfl
        | true => exact absurd hb (h2 _ hm)
      rw [List.any_eq_true]
      exact ⟨_, hm, wr_pb hwr hb⟩
/-- Above an implicit topmost context, and at it, nothing is written. -/
theorem comma_wr {l : List El} {i : Nat} {e : El} (h : last isCtx l = some i) (he : l[i]? = some e) (hi : e.form = .im) : ((l.take i).any isWr = false) = (toI (last isWr l) < 0) := by
  apply propext
  constructor
  · intro ha
    cases hw : last isWr l with
    | none => simp [toI]
    | some j =>
      exfalso
      have hj := (last_above hw).1
      have hg : l[j]? = some l[j] := by simp [hj]
      have hwr := last_holds hw hg
      by_cases hji : j < i
      · rw [List.any_eq_false] at ha
        refine ha l[j] ?_ hwr
        refine List.mem_of_getElem? (i := j) ?_
        rw [List.getElem?_take, if_pos hji]
        exact hg
      · by_cases hje : j = i
        · subst hje
          rw [hg] at he
          injection he with he
          rw [he] at hwr
          simp [isWr, hi] at hwr
        · have h2 := (last_above h).2
          rw [List.countP_eq_zero] at h2
          refine h2 l[j] ?_ ?_
          · refine List.mem_of_getElem? (i := j - (i + 1)) ?_
            rw [List.getElem?_drop, show i + 1 + (j - (i + 1)) = j by omega]
            exact hg
          · simp only [isWr, Bool.and_eq_true] at hwr
            exact hwr.1
  · intro hlt
    rw [List.any_eq_false]
    intro x hx hw
    obtain ⟨k, hk⟩ := List.getElem?_of_mem hx
    rw [List.getElem?_take] at hk
    split at hk
    · have := last_ge hk hw
      omega
    · cases hk
end Go.Proofs.TryL
