/- Layout: the algorithm in plain Lean, as both texts compute it. -/
import Derived.Test.YtmjofajbfondhaaLzEv
set_option linter.unusedSimpArgs false
set_option linter.unusedVariables false
namespace Go.Proofs.TryL
open Go.Proofs.Lz

structure Tok where
  op : Int
  mod : List UInt8
  text : List UInt8
  n : Int
  auto : Bool
  line : Int
  col : Int
  deriving DecidableEq
def tokC (t : Tok) : CV := .agg [.int .i64 t.op, .str t.mod, .str t.text, .int .i64 t.n, .bool t.auto, .int .i64 t.line, .int .i64 t.col]
inductive Fm where
  | im | ex | pa | br | pe
  deriving DecidableEq
structure El where
  form : Fm
  col : Int
  word : List UInt8
  mark : Bool
  deriving DecidableEq
structure Flt where
  code : Int
  name : List UInt8
  line : Int
  col : Int
  deriving DecidableEq
/-- What both texts keep. -/
structure St where
  out : List Tok
  stack : List El
  expect : Bool
  word : List UInt8
def special (t : Tok) (s : List UInt8) : Bool := t.op == 8 && t.text == s
def isW (t : Tok) (s : List UInt8) : Bool := t.op == 9 && t.text == s
def wWhere : List UInt8 := [119, 104, 101, 114, 101]
def wLet : List UInt8 := [108, 101, 116]
def wDo : List UInt8 := [100, 111]
def wOf : List UInt8 := [111, 102]
def wCase : List UInt8 := [99, 97, 115, 101]
def wIf : List UInt8 := [105, 102]
def wThen : List UInt8 := [116, 104, 101, 110]
def wElse : List UInt8 := [101, 108, 115, 101]
def wIn : List UInt8 := [105, 110]
def wModule : List UInt8 := [109, 111, 100, 117, 108, 101]
def opens (t : Tok) : Bool := isW t wWhere || isW t wLet || isW t wDo || isW t wOf
def insT (s : List UInt8) : Tok := ⟨8, [], s, 0, true, 0, 0⟩
def St.ins (s : St) (x : List UInt8) : St := { s with out := s.out ++ [insT x] }
def St.push (s : St) (e : El) : St := { s with stack := s.stack ++ [e] }
/-- The last index below n whose element is accepted. -/
def lastN {α : Type} (f : α → Bool) (l : List α) : Nat → Option Nat
  | 0 => none
  | n + 1 => match l[n]? with
    | some x => if f x = true then some n else lastN f l n
    | none => lastN f l n
def last {α : Type} (f : α → Bool) (l : List α) : Option Nat := lastN f l l.length
def toI : Option Nat → Int
  | none => -1
  | some n => n
def isBlock (e : El) : Bool := e.form == .im || e.form == .ex
def isCtx (e : El) : Bool := e.form != .pe
def isWr (e : El) : Bool := e.form != Fm.pe && e.form != Fm.im
def isIm (e : El) : Bool := e.form == .im
def isPB (e : El) : Bool := e.form == .pa || e.form == .br
def St.cut (s : St) (n : Nat) : St := { s with out := s.out ++ List.replicate ((s.stack.drop n).countP isIm) (insT [125]), stack := s.stack.take n }
def pend (w : List UInt8) : El := ⟨.pe, 0, w, false⟩
def St.wait (s : St) (w : List UInt8) : St := if w = wLet then s.push (pend wLet) else s
def flt (t : Tok) : Flt := ⟨9, t.text, t.line, t.col⟩
/-- Rule 1. -/
def begin (s : St) (t : Tok) : Bool × St :=
  if s.expect = false then (false, s) else
    let s := { s with expect := false }
    if special t [123] = true then (true, s)
    else if (s.word == [] && isW t wModule) = true then (false, s)
    else
      let m : Int := match last isBlock s.stack with
        | none => 0
        | some i => match s.stack[i]? with
          | some e => if e.form = .im then e.col else 0
          | none => 0
      if m < t.col then (true, (s.ins [123]).push ⟨.im, t.col, s.word, false⟩)
      else (false, ((s.ins [123]).ins [125]).wait s.word)
/-- Rule 2; none: a fault. The number counts the rounds. -/
def lines (t : Tok) : Nat → St → Option St
  | 0, s => some s
  | n + 1, s => match last isBlock s.stack with
    | none => some s
    | some i => match s.stack[i]? with
      | none => some s
      | some e =>
        if e.form ≠ .im ∨ e.col < t.col then some s
        else if t.col = e.col then some { (s.ins [59]) with stack := s.stack.set i { e with mark := false } }
        else if (s.stack.drop (i + 1)).any isPB = true then none
        else lines t n ({ (s.ins [125]) with stack := s.stack.take i }.wait e.word)
/-- Rule 3. -/
def item (s : St) (t : Tok) : St :=
  match s.out.getLast? with
  | none => s
  | some o => if (!special o [59] || special t [59] || isW t wThen || isW t wElse) = true then s
    else { s with stack := s.stack.take (match last isCtx s.stack with
      | none => 0
      | some i => i + 1) }
def closing (s : St) (f : Fm) : Option St := match last isWr s.stack with
  | none => none
  | some i => match s.stack[i]? with
    | none => none
    | some e => if e.form = f then
        let s := s.cut (i + 1)
        some ({ s with stack := s.stack.take i }.wait (if f = Fm.ex then e.word else []))
      else none
def comma : Nat → St → St
  | 0, s => s
  | n + 1, s => match last isCtx s.stack with
    | none => s
    | some i => match s.stack[i]? with
      | none => s
      | some e =>
        if e.form ≠ .im ∨ (s.stack.take i).any isWr = false then s
        else if e.word ≠ wDo ∧ e.word ≠ wOf ∧ e.mark = false then s
        else comma n ({ (s.ins [125]) with stack := s.stack.take i }.wait e.word)
def seeks (w : List UInt8) (lt : Bool) (e : El) : Bool := (e.form == .pe && e.word == w) || (lt && e.form == .im && e.word == wLet)
def ending (s : St) (w : List UInt8) (lt thn : Bool) : Option St := match last (fun e => seeks w lt e || isWr e) s.stack with
  | none => none
  | some i => match s.stack[i]? with
    | none => none
    | some e => if isWr e = true then none else
      let s := s.cut i
      some (if thn = true then s.push (pend wThen) else s)
def mark (s : St) (b : Bool) : St := match last isCtx s.stack with
  | none => s
  | some i => match s.stack[i]? with
    | none => s
    | some e => if e.form = .im then { s with stack := s.stack.set i { e with mark := b } } else s
/-- Rule 4; before: the word before the token, if a block was expected. -/
def token (s : St) (t : Tok) (before : List UInt8) : Option St :=
  let r : Option St :=
    if special t [40] = true then some (s.push ⟨.pa, 0, [], false⟩)
    else if special t [91] = true then some (s.push ⟨.br, 0, [], false⟩)
    else if special t [123] = true then some (s.push ⟨.ex, 0, before, false⟩)
    else if special t [41] = true then closing s .pa
    else if special t [93] = true then closing s .br
    else if special t [125] = true then closing s .ex
    else if special t [44] = true then some (comma s.stack.length s)
    else if special t [59] = true then some (mark s false)
    else if (t.op == 10 && t.text == [61]) = true then some (mark s true)
    else if (isW t wCase || isW t wIf) = true then some (s.push (pend t.text))
    else if isW t wOf = true then ending s wCase false false
    else if isW t wThen = true then ending s wIf false true
    else if isW t wElse = true then ending s wThen false false
    else if isW t wIn = true then ending s wLet true false
    else some s
  match r with
  | none => none
  | some s =>
    let s := if opens t = true then { s with expect := true, word := t.text } else s
    some { s with out := s.out ++ [t] }
end Go.Proofs.TryL
/- Layout: Insert in plain Lean, and how long its parts get. -/
set_option linter.unusedSimpArgs false
set_option linter.unusedVariables false
namespace Go.Proofs.TryL
open Go.Proofs.Lz

def zT : Tok := ⟨0, [], [], 0, false, 0, 0⟩
def bword (b : Tok) : List UInt8 := if opens b = true then b.text else []
/-- One token; none: a fault at it. -/
def stepI (s : St) (t b : Tok) (i : Nat) : Option St :=
  match (if (begin s t).1 = false ∧ 0 < i ∧ b.line < t.line then lines t ((begin s t).2.stack.length + 1) (begin s t).2 else some (begin s t).2) with
  | none => none
  | some s2 => token (item s2 t) t (bword b)
def goI : List Tok → Tok → Nat → St → Except Flt St
  | [], _, _, s => .ok s
  | t :: r, b, i, s => match stepI s t b i with
    | none => .error (flt t)
    | some s' => goI r t (i + 1) s'
def fin1 (s : St) : St := if s.expect = true then (s.ins [123]).ins [125] else s
def open1 (s : St) : Bool := match s.stack.findIdx? isIm with
  | none => false
  | some i => (s.stack.drop i).any isPB
def endI (l : List Tok) (s : St) : Except Flt (List Tok) :=
  if open1 (fin1 s) = true then .error (flt (l.getLast?.getD zT))
  else if 16384 < ((fin1 s).cut 0).out.length then .error ⟨3, [], 0, 0⟩
  else .ok ((fin1 s).cut 0).out
def st0 : St := ⟨[], [], true, []⟩
def insertS (l : List Tok) : Except Flt (List Tok) :=
  if l.any (·.auto) = true then .error ⟨1, [], 0, 0⟩
  else match goI l zT 0 st0 with
    | .error f => .error f
    | .ok s => endI l s

/-! ### lengths -/
def St.phi (s : St) : Nat := s.out.length + s.stack.length + s.stack.countP isIm
theorem phi_ins (s : St) (x : List UInt8) : (s.ins x).phi = s.phi + 1 := by simp [St.phi, St.ins]; omega
theorem phi_push (s : St) (e : El) : (s.push e).phi = s.phi + 1 + (if isIm e = true then 1 else 0) := by
  simp [St.phi, St.push, List.countP_append, List.countP_cons]; omega
theorem phi_wait (s : St) (w : List UInt8) : (s.wait w).phi ≤ s.phi + 1 := by
  unfold St.wait
  split
  · rw [phi_push]; simp [isIm, pend]
  · omega
theorem take_le {l : List El} (i : Nat) : (l.take i).length + (l.take i).countP isIm ≤ l.length + l.countP isIm := by
  have h : l.take i ++ l.drop i = l := List.take_append_drop i l
  have a : (l.take i ++ l.drop i).length = l.length := by rw [h]
  have b : (l.take i ++ l.drop i).countP isIm = l.countP isIm := by rw [h]
  rw [List.length_append] at a; rw [List.countP_append] at b
  omega
theorem take_lt {l : List El} {i : Nat} {e : El} (h : l[i]? = some e) : (l.take i).length + (l.take i).countP isIm + 1 + (if isIm e = true then 1 else 0) ≤ l.length + l.countP isIm := by
  obtain ⟨hlt, he⟩ := List.getElem?_eq_some_iff.1 h
  have hh : l.take i ++ l.drop i = l := List.take_append_drop i l
  have hd : l.drop i = e :: l.drop (i + 1) := by rw [List.drop_eq_getElem_cons hlt, he]
  have a : (l.take i ++ l.drop i).length = l.length := by rw [hh]
  have b : (l.take i ++ l.drop i).countP isIm = l.countP isIm := by rw [hh]
  rw [hd] at a b
  rw [List.length_append, List.length_cons] at a; rw [List.countP_append, List.countP_cons] at b
  omega
theorem set_im {l : List El} {i : Nat} {e e' : El} (h : l[i]? = some e) (hf : isIm e' = isIm e) : (l.set i e').length = l.length ∧ (l.set i e').countP isIm = l.countP isIm := by
  refine ⟨List.length_set, ?_⟩
  induction l generalizing i with
  | nil => simp
  | cons x l ih =>
    cases i with
    | zero => simp only [List.getElem?_cons_zero, Option.some.injEq] at h; subst h; simp [List.countP_cons, hf]
    | succ i => simp only [List.getElem?_cons_succ] at h; simp [List.countP_cons, ih h]
theorem phi_cut (s : St) (n : Nat) : (s.cut n).phi ≤ s.phi := by
  have h : s.stack.take n ++ s.stack.drop n = s.stack := List.take_append_drop n s.stack
  have a : (s.stack.take n ++ s.stack.drop n).length = s.stack.length := by rw [h]
  have b : (s.stack.take n ++ s.stack.drop n).countP isIm = s.stack.countP isIm := by rw [h]
  rw [List.length_append] at a; rw [List.countP_append] at b
  simp only [St.phi, St.cut, List.length_append, List.length_replicate]
  omega
theorem phi_begin (s : St) (t : Tok) : (begin s t).2.phi ≤ s.phi + 3 := by
  have key : ∀ m : Int, (if m < t.col then (true, (({ s with expect := false } : St).ins [123]).push ⟨.im, t.col, s.word, false⟩) else (false, ((({ s with expect := false } : St).ins [123]).ins [125]).wait s.word)).2.phi ≤ s.phi + 3 := by
    intro m
    split
    · simp only [phi_push, phi_ins, isIm]
      simp [St.phi]
    · refine Nat.le_trans (phi_wait _ _) ?_
      simp only [phi_ins]
      simp [St.phi]
  unfold begin
  split
  · simp
  · simp only
    split
    · simp [St.phi]
    · split
      · simp [St.phi]
      · exact key _
theorem phi_lines (t : Tok) : ∀ (n : Nat) (s s' : St), lines t n s = some s' → s'.phi ≤ s.phi + 1 := by
  intro n
  induction n with
  | zero => intro s s' h; simp only [lines, Option.some.injEq] at h; subst h; omega
  | succ n ih =>
    intro s s' h
    unfold lines at h
    split at h
    · injection h with h; subst h; omega
    · rename_i i hl
      split at h
      · injection h with h; subst h; omega
      · rename_i e he
        split at h
        · injection h with h; subst h; omega
        · split at h
          · injection h with h; subst h
            obtain ⟨a, b⟩ := set_im (e' := { e with mark := false }) he rfl
            simp only [St.phi, St.ins, List.length_append, List.length_cons, List.length_nil, a, b]; omega
          · split at h
            · cases h
            · rename_i hf _ _
              have hi : isIm e = true := by
                simp only [isIm, beq_iff_eq]
                cases hq : e.form <;> simp [hq] at hf ⊢
              have hlt := take_lt he
              rw [if_pos hi] at hlt
              refine Nat.le_trans (ih _ _ h) ?_
              refine Nat.succ_le_succ (Nat.le_trans (phi_wait _ _) ?_)
              simp only [St.phi, St.ins, List.length_append, List.length_cons, List.length_nil]
              omega
theorem phi_item (s : St) (t : Tok) : (item s t).phi ≤ s.phi := by
  unfold item
  split
  · exact Nat.le_refl _
  · split
    · exact Nat.le_refl _
    · cases last isCtx s.stack with
      | none =>
        have := take_le (l := s.stack) 0
        simp only [St.phi]
        omega
      | some i =>
        have := take_le (l := s.stack) (i + 1)
        simp only [St.phi]
        omega
theorem phi_closing {s s' : St} {fm : Fm} (h : closing s fm = some s') : s'.phi ≤ s.phi := by
  unfold closing at h
  split at h
  · cases h
  · rename_i i hl
    split at h
    · cases h
    · rename_i e he
      split at h
      · injection h with h; subst h
        refine Nat.le_trans (phi_wait _ _) ?_
        have hlt := (List.getElem?_eq_some_iff.1 he).1
        have h0 := phi_cut s (i + 1)
        have h1 : (s.cut (i + 1)).stack[i]? = some e := by simp [St.cut, List.getElem?_take, he]
        have h2 := take_lt h1
        simp only [St.phi] at h0 ⊢
        omega
      · cases h
theorem phi_comma : ∀ (n : Nat) (s : St), (comma n s).phi ≤ s.phi := by
  intro n
  induction n with
  | zero => intro s; exact Nat.le_refl _
  | succ n ih =>
    intro s
    unfold comma
    split
    · exact Nat.le_refl _
    · split
      · exact Nat.le_refl _
      · rename_i i _ _ e he
        split
        · exact Nat.le_refl _
        · split
          · exact Nat.le_refl _
          · rename_i hf _
            have hi : isIm e = true := by
              simp only [isIm, beq_iff_eq]
              cases hq : e.form <;> simp [hq] at hf ⊢
            have hlt := take_lt he
            rw [if_pos hi] at hlt
            refine Nat.le_trans (ih _) (Nat.le_trans (phi_wait _ _) ?_)
            simp only [St.phi, St.ins, List.length_append, List.length_cons, List.length_nil]
            omega
theorem phi_ending {s s' : St} {w : List UInt8} {lt th : Bool} (h : ending s w lt th = some s') : s'.phi ≤ s.phi + 1 := by
  unfold ending at h
  split at h
  · cases h
  · split at h
    · cases h
    · split at h
      · cases h
      · injection h with h; subst h
        have h0 := phi_cut s
        split
        · rw [phi_push]
          have := h0 ‹_›
          simp [isIm, pend]; omega
        · exact Nat.le_succ_of_le (h0 _)
theorem phi_mark (s : St) (b : Bool) : (mark s b).phi = s.phi := by
  unfold mark
  split
  · rfl
  · split
    · rfl
    · rename_i i _ _ e he
      split
      · obtain ⟨a, c⟩ := set_im (e' := { e with mark := b }) he rfl
        simp only [St.phi, a, c]
      · rfl
/-- What rule 4 does before the token is added. -/
def tokenR (s : St) (t : Tok) (before : List UInt8) : Option St :=
    if special t [40] = true then some (s.push ⟨.pa, 0, [], false⟩)
    else if special t [91] = true then some (s.push ⟨.br, 0, [], false⟩)
    else if special t [123] = true then some (s.push ⟨.ex, 0, before, false⟩)
    else if special t [41] = true then closing s .pa
    else if special t [93] = true then closing s .br
    else if special t [125] = true then closing s .ex
    else if special t [44] = true then some (comma s.stack.length s)
    else if special t [59] = true then some (mark s false)
    else if (t.op == 10 && t.text == [61]) = true then some (mark s true)
    else if (isW t wCase || isW t wIf) = true then some (s.push (pend t.text))
    else if isW t wOf = true then ending s wCase false false
    else if isW t wThen = true then ending s wIf false true
    else if isW t wElse = true then ending s wThen false false
    else if isW t wIn = true then ending s wLet true false
    else some s
def St.add (s : St) (t : Tok) : St :=
  let s := if opens t = true then { s with expect := true, word := t.text } else s
  { s with out := s.out ++ [t] }
theorem token_eq (s : St) (t : Tok) (b : List UInt8) : token s t b = (tokenR s t b).map fun s => s.add t := by
  unfold token
  have : (tokenR s t b).map (fun s => s.add t) = match tokenR s t b with
    | none => none
    | some s => some (s.add t) := by cases tokenR s t b <;> rfl
  rw [this]
  rfl
/-- One branch of the choice. -/
theorem ite_some {c : Prop} [Decidable c] {α : Type} {a b : Option α} {x : α} (h : (if c then a else b) = some x) : (c ∧ a = some x) ∨ (¬ c ∧ b = some x) := by
  by_cases hc : c
  · rw [if_pos hc] at h; exact .inl ⟨hc, h⟩
  · rw [if_neg hc] at h; exact .inr ⟨hc, h⟩
theorem phi_tokenR {s s' : St} {t : Tok} {w : List UInt8} (h : tokenR s t w = some s') : s'.phi ≤ s.phi + 1 := by
  unfold tokenR at h
  rcases ite_some h with ⟨-, h⟩ | ⟨-, h⟩
  · injection h with h; subst h; rw [phi_push]; simp [isIm]
  rcases ite_some h with ⟨-, h⟩ | ⟨-, h⟩
  · injection h with h; subst h; rw [phi_push]; simp [isIm]
  rcases ite_some h with ⟨-, h⟩ | ⟨-, h⟩
  · injection h with h; subst h; rw [phi_push]; simp [isIm]
  rcases ite_some h with ⟨-, h⟩ | ⟨-, h⟩
  · exact Nat.le_succ_of_le (phi_closing h)
  rcases ite_some h with ⟨-, h⟩ | ⟨-, h⟩
  · exact Nat.le_succ_of_le (phi_closing h)
  rcases ite_some h with ⟨-, h⟩ | ⟨-, h⟩
  · exact Nat.le_succ_of_le (phi_closing h)
  rcases ite_some h with ⟨-, h⟩ | ⟨-, h⟩
  · injection h with h; subst h; exact Nat.le_succ_of_le (phi_comma _ _)
  rcases ite_some h with ⟨-, h⟩ | ⟨-, h⟩
  · injection h with h; subst h; rw [phi_mark]; omega
  rcases ite_some h with ⟨-, h⟩ | ⟨-, h⟩
  · injection h with h; subst h; rw [phi_mark]; omega
  rcases ite_some h with ⟨-, h⟩ | ⟨-, h⟩
  · injection h with h; subst h; rw [phi_push]; simp [isIm, pend]
  rcases ite_some h with ⟨-, h⟩ | ⟨-, h⟩
  · exact phi_ending h
  rcases ite_some h with ⟨-, h⟩ | ⟨-, h⟩
  · exact phi_ending h
  rcases ite_some h with ⟨-, h⟩ | ⟨-, h⟩
  · exact phi_ending h
  rcases ite_some h with ⟨-, h⟩ | ⟨-, h⟩
  · exact phi_ending h
  injection h with h; subst h; omega
theorem phi_add (s : St) (t : Tok) : (s.add t).phi = s.phi + 1 := by
  unfold St.add
  split <;> simp only [St.phi, List.length_append, List.length_cons, List.length_nil] <;> omega
theorem phi_token {s s' : St} {t : Tok} {w : List UInt8} (h : token s t w = some s') : s'.phi ≤ s.phi + 2 := by
  rw [token_eq] at h
  cases hr : tokenR s t w with
  | none => rw [hr] at h; cases h
  | some s1 =>
    rw [hr] at h
    simp only [Option.map_some, Option.some.injEq] at h
    subst h
    rw [phi_add]
    have := phi_tokenR hr
    omega
theorem phi_step {s s' : St} {t b : Tok} {i : Nat} (h : stepI s t b i = some s') : s'.phi ≤ s.phi + 6 := by
  unfold stepI at h
  have h1 := phi_begin s t
  split at h
  · cases h
  · rename_i s2 hs
    have h2 := phi_token h
    have h3 := phi_item s2 t
    split at hs
    · have := phi_lines _ _ _ _ hs
      omega
    · injection hs with hs; subst hs; omega
theorem phi_go : ∀ (l : List Tok) (b : Tok) (i : Nat) (s s' : St), goI l b i s = .ok s' → s'.phi ≤ s.phi + 6 * l.length := by
  intro l
  induction l with
  | nil => intro b i s s' h; simp only [goI, Except.ok.injEq] at h; subst h; simp
  | cons t r ih =>
    intro b i s s' h
    unfold goI at h
    split at h
    · cases h
    · rename_i s1 h1
      have := ih _ _ _ _ h
      have := phi_step h1
      simp only [List.length_cons]; omega
end Go.Proofs.TryL
/- Layout: what Insert adds is balanced. -/
set_option linter.unusedSimpArgs false
set_option linter.unusedVariables false
namespace Go.Proofs.TryL
open Go.Proofs.Lz

theorem lastN_holds {α : Type} {f : α → Bool} {l : List α} : ∀ {n i : Nat}, lastN f l n = some i → ∃ x, l[i]? = some x ∧ f x = true := by
  intro n
  induction n with
  | zero => intro i h; cases h
  | succ n ih =>
    intro i h
    simp only [lastN] at h
    split at h
    · rename_i x hx
      split at h
      · rename_i hf; injection h with h; subst h; exact ⟨x, hx, hf⟩
      · exact ih h
    · exact ih h
theorem last_holds {α : Type} {f : α → Bool} {l : List α} {i : Nat} {x : α} (h : last f l = some i) (hx : l[i]? = some x) : f x = true := by
  obtain ⟨y, hy, hf⟩ := lastN_holds h
  rw [hx] at hy; injection hy with hy; rw [hy]; exact hf
theorem lastN_above {α : Type} {f : α → Bool} {l : List α} : ∀ {n : Nat}, n ≤ l.length → (match lastN f l n with
    | none => (l.take n).countP f = 0
    | some i => i < n ∧ ((l.take n).drop (i + 1)).countP f = 0) := by
  intro n
  induction n with
  | zero => intro _; simp [lastN]
  | succ n ih =>
    intro hn
    have hlt : n < l.length := by omega
    have hg : l[n]? = some l[n] := by simp [hlt]
    have ht : l.take (n + 1) = l.take n ++ [l[n]] := by rw [List.take_add_one, hg]; rfl
    have ih := ih (by omega)
    simp only [lastN, hg]
    cases hf : f l[n] with
    | true =>
      simp only [if_true]
      refine ⟨by omega, ?_⟩
      rw [List.drop_eq_nil_iff.2 (by simp; omega)]
      rfl
    | false =>
      simp only [Bool.false_eq_true, if_false]
      cases hl : lastN f l n with
      | none =>
        rw [hl] at ih
        simp only at ih ⊢
        rw [ht, List.countP_append, ih]
        simp [List.countP_cons, hf]
      | some i =>
        rw [hl] at ih
        obtain ⟨h1, h2⟩ := ih
        refine ⟨by omega, ?_⟩
        rw [ht, List.drop_append_of_le_length (by simp; omega), List.countP_append, h2]
        simp [List.countP_cons, hf]
theorem last_none {α : Type} {f : α → Bool} {l : List α} (h : last f l = none) : l.countP f = 0 := by
  have := lastN_above (f := f) (l := l) (Nat.le_refl _)
  rw [show lastN f l l.length = none from h] at this
  simpa using this
theorem last_above {α : Type} {f : α → Bool} {l : List α} {i : Nat} (h : last f l = some i) : i < l.length ∧ (l.drop (i + 1)).countP f = 0 := by
  have := lastN_above (f := f) (l := l) (Nat.le_refl _)
  rw [show lastN f l l.length = some i from h] at this
  simpa using this
theorem countP_sub {α : Type} {f g : α → Bool} (hfg : ∀ x, f x = true → g x = true) (l : List α) (h : l.countP g = 0) : l.countP f = 0 := by
  rw [List.countP_eq_zero] at h ⊢
  intro x hx hf
  exact h x hx (hfg x hf)
theorem split_count {l : List El} {i : Nat} {e : El} (h : l[i]? = some e) : l.countP isIm = (l.take i).countP isIm + (if isIm e = true then 1 else 0) + (l.drop (i + 1)).countP isIm := by
  obtain ⟨hlt, he⟩ := List.getElem?_eq_some_iff.1 h
  have hh : l.take i ++ l.drop i = l := List.take_append_drop i l
  have hd : l.drop i = e :: l.drop (i + 1) := by rw [List.drop_eq_getElem_cons hlt, he]
  have b : (l.take i ++ l.drop i).countP isIm = l.countP isIm := by rw [hh]
  rw [hd, List.countP_append, List.countP_cons] at b
  omega
/-- Tokens that open and close as many blocks as are open. -/
def Gr : Nat → List Tok → Nat → Prop
  | a, [], b => a = b
  | a, x :: xs, b => (x = insT [123] ∧ Gr (a + 1) xs b) ∨ (x = insT [125] ∧ ∃ a', a = a' + 1 ∧ Gr a' xs b) ∨ (x = insT [59] ∧ Gr a xs b)
theorem Gr.app : ∀ {xs : List Tok} {a b c : Nat} {ys : List Tok}, Gr a xs b → Gr b ys c → Gr a (xs ++ ys) c := by
  intro xs
  induction xs with
  | nil => intro a b c ys h1 h2; simp only [Gr] at h1; subst h1; exact h2
  | cons x xs ih =>
    intro a b c ys h1 h2
    rcases h1 with ⟨hx, h⟩ | ⟨hx, a', ha, h⟩ | ⟨hx, h⟩
    · exact .inl ⟨hx, ih h h2⟩
    · exact .inr (.inl ⟨hx, a', ha, ih h h2⟩)
    · exact .inr (.inr ⟨hx, ih h h2⟩)
theorem Gr.close (b : Nat) : ∀ n, Gr (b + n) (List.replicate n (insT [125])) b := by
  intro n
  induction n with
  | zero => simp [Gr]
  | succ n ih => exact .inr (.inl ⟨rfl, b + n, rfl, ih⟩)
theorem Gr.auto : ∀ {xs : List Tok} {a b : Nat}, Gr a xs b → ∀ x ∈ xs, x.auto = true := by
  intro xs
  induction xs with
  | nil => intro a b _ x hx; cases hx
  | cons y xs ih =>
    intro a b h x hx
    rcases h with ⟨hy, h⟩ | ⟨hy, a', ha, h⟩ | ⟨hy, h⟩ <;>
    · rcases List.mem_cons.1 hx with e | hx
      · rw [e, hy]; rfl
      · exact ih h x hx
def St.im (s : St) : Nat := s.stack.countP isIm
def Grow (s s' : St) : Prop := ∃ xs, s'.out = s.out ++ xs ∧ Gr s.im xs s'.im
theorem Grow.refl (s : St) : Grow s s := ⟨[], by simp, rfl⟩
theorem Grow.trans {a b c : St} (h1 : Grow a b) (h2 : Grow b c) : Grow a c := by
  obtain ⟨x, e1, g1⟩ := h1
  obtain ⟨y, e2, g2⟩ := h2
  exact ⟨x ++ y, by rw [e2, e1, List.append_assoc], g1.app g2⟩
theorem grow_same {s s' : St} (ho : s'.out = s.out) (hi : s'.im = s.im) : Grow s s' := ⟨[], by simp [ho], by rw [hi]; rfl⟩
theorem grow_push (s : St) {e : El} (h : isIm e = false) : Grow s (s.push e) := grow_same rfl (by simp [St.im, St.push, List.countP_append, List.countP_cons, h])
theorem grow_wait (s : St) (w : List UInt8) : Grow s (s.wait w) := by
  unfold St.wait
  split
  · exact grow_push s rfl
  · exact Grow.refl s
theorem grow_cut (s : St) (n : Nat) : Grow s (s.cut n) := by
  refine ⟨List.replicate ((s.stack.drop n).countP isIm) (insT [125]), rfl, ?_⟩
  have h : s.stack.take n ++ s.stack.drop n = s.stack := List.take_append_drop n s.stack
  have b : (s.stack.take n ++ s.stack.drop n).countP isIm = s.stack.countP isIm := by rw [h]
  rw [List.countP_append] at b
  have : s.im = (s.cut n).im + (s.stack.drop n).countP isIm := by simp only [St.im, St.cut]; omega
  rw [this]
  exact Gr.close _ _
theorem grow_begin (s : St) (t : Tok) : Grow s (begin s t).2 := by
  have key : ∀ m : Int, Grow s (if m < t.col then (true, (({ s with expect := false } : St).ins [123]).push ⟨.im, t.col, s.word, false⟩) else (false, ((({ s with expect := false } : St).ins [123]).ins [125]).wait s.word)).2 := by
    intro m
    split
    · exact ⟨[insT [123]], rfl, .inl ⟨rfl, by simp [Gr, St.im, St.push, St.ins, List.countP_append, List.countP_cons, isIm]⟩⟩
    · refine Grow.trans ?_ (grow_wait _ _)
      exact ⟨[insT [123], insT [125]], by simp [St.ins], .inl ⟨rfl, .inr (.inl ⟨rfl, _, rfl, rfl⟩)⟩⟩
  unfold begin
  split
  · exact Grow.refl s
  · simp only
    split
    · exact grow_same rfl rfl
    · split
      · exact grow_same rfl rfl
      · exact key _
/-- One implicit block is closed. -/
theorem grow_close {s : St} {f : El → Bool} (hf : ∀ x, isIm x = true → f x = true) {i : Nat} {e : El} (hl : last f s.stack = some i) (he : s.stack[i]? = some e) (hi : isIm e = true) :
    Grow s { (s.ins [125]) with stack := s.stack.take i } := by
  have h0 := countP_sub hf _ (last_above hl).2
  have h1 := split_count he
  rw [if_pos hi, h0] at h1
  refine ⟨[insT [125]], rfl, .inr (.inl ⟨rfl, (s.stack.take i).countP isIm, ?_, rfl⟩)⟩
  simp only [St.im]
  omega
theorem isIm_block (x : El) (h : isIm x = true) : isBlock x = true := by simp only [isIm] at h; simp [isBlock, h]
theorem isIm_ctx (x : El) (h : isIm x = true) : isCtx x = true := by
  simp only [isIm, beq_iff_eq] at h; simp [isCtx, h]
theorem grow_lines (t : Tok) : ∀ (n : Nat) (s s' : St), lines t n s = some s' → Grow s s' := by
  intro n
  induction n with
  | zero => intro s s' h; simp only [lines, Option.some.injEq] at h; subst h; exact Grow.refl _
  | succ n ih =>
    intro s s' h
    unfold lines at h
    split at h
    · injection h with h; subst h; exact Grow.refl _
    · rename_i i hl
      split at h
      · injection h with h; subst h; exact Grow.refl _
      · rename_i e he
        split at h
        · injection h with h; subst h; exact Grow.refl _
        · split at h
          · injection h with h; subst h
            obtain ⟨a, b⟩ := set_im (e' := { e with mark := false }) he rfl
            exact ⟨[insT [59]], rfl, .inr (.inr ⟨rfl, by simp only [Gr, St.im, b]⟩)⟩
          · split at h
            · cases h
            · rename_i hf _ _
              have hi : isIm e = true := by
                simp only [isIm, beq_iff_eq]
                cases hq : e.form <;> simp [hq] at hf ⊢
              exact (grow_close isIm_block hl he hi).trans ((grow_wait _ _).trans (ih _ _ h))
theorem grow_item (s : St) (t : Tok) : Grow s (item s t) := by
  unfold item
  split
  · exact Grow.refl _
  · split
    · exact Grow.refl _
    · cases hl : last isCtx s.stack with
      | none =>
        have h0 := countP_sub isIm_ctx _ (last_none hl)
        exact grow_same rfl (by simp [St.im, h0])
      | some i =>
        have h0 := countP_sub isIm_ctx _ (last_above hl).2
        refine grow_same rfl ?_
        have h : s.stack.take (i + 1) ++ s.stack.drop (i + 1) = s.stack := List.take_append_drop (i + 1) s.stack
        have b : (s.stack.take (i + 1) ++ s.stack.drop (i + 1)).countP isIm = s.stack.countP isIm := by rw [h]
        rw [List.countP_append] at b
        simp only [St.im]; omega
theorem grow_closing {s s' : St} {fm : Fm} (h : closing s fm = some s') : Grow s s' := by
  unfold closing at h
  split at h
  · cases h
  · rename_i i hl
    split at h
    · cases h
    · rename_i e he
      split at h
      · injection h with h; subst h
        refine (grow_cut s (i + 1)).trans (Grow.trans ?_ (grow_wait _ _))
        refine grow_same rfl ?_
        have hw := last_holds hl he
        have hwr : isIm e = false := by
          simp only [isWr, isIm, Bool.and_eq_true, bne_iff_ne] at hw ⊢
          simp [hw.2]
        have h1 : (s.cut (i + 1)).stack[i]? = some e := by simp [St.cut, he]
        have h2 := split_count h1
        rw [hwr] at h2
        have h3 : ((s.cut (i + 1)).stack.drop (i + 1)).countP isIm = 0 := by
          rw [List.drop_eq_nil_iff.2 (by simp [St.cut]; omega)]; rfl
        have h4 : (s.cut (i + 1)).stack.take i = s.stack.take i := by
          simp only [St.cut, List.take_take]
          rw [Nat.min_eq_left (by omega)]
        rw [h4, h3] at h2
        simp only [Bool.false_eq_true, if_false, Nat.add_zero] at h2
        simp only [St.im, h2, h4]
      · cases h
theorem grow_comma : ∀ (n : Nat) (s : St), Grow s (comma n s) := by
  intro n
  induction n with
  | zero => intro s; exact Grow.refl _
  | succ n ih =>
    intro s
    unfold comma
    split
    · exact Grow.refl _
    · rename_i i hl
      split
      · exact Grow.refl _
      · rename_i e he
        split
        · exact Grow.refl _
        · split
          · exact Grow.refl _
          · rename_i hf _
            have hi : isIm e = true := by
              simp only [isIm, beq_iff_eq]
              cases hq : e.form <;> simp [hq] at hf ⊢
            exact (grow_close isIm_ctx hl he hi).trans ((grow_wait _ _).trans (ih _))
theorem grow_ending {s s' : St} {w : List UInt8} {lt th : Bool} (h : ending s w lt th = some s') : Grow s s' := by
  unfold ending at h
  split at h
  · cases h
  · rename_i i _
    split at h
    · cases h
    · split at h
      · cases h
      · injection h with h; subst h
        refine (grow_cut s i).trans ?_
        split
        · exact grow_push _ rfl
        · exact Grow.refl _
theorem grow_mark (s : St) (b : Bool) : Grow s (mark s b) := by
  unfold mark
  split
  · exact Grow.refl _
  · split
    · exact Grow.refl _
    · rename_i i _ _ e he
      split
      · obtain ⟨a, c⟩ := set_im (e' := { e with mark := b }) he rfl
        exact grow_same rfl (by simp only [St.im, c])
      · exact Grow.refl _
theorem grow_tokenR {s s' : St} {t : Tok} {w : List UInt8} (h : tokenR s t w = some s') : Grow s s' := by
  unfold tokenR at h
  rcases ite_some h with ⟨-, h⟩ | ⟨-, h⟩
  · injection h with h; subst h; exact grow_push _ rfl
  rcases ite_some h with ⟨-, h⟩ | ⟨-, h⟩
  · injection h with h; subst h; exact grow_push _ rfl
  rcases ite_some h with ⟨-, h⟩ | ⟨-, h⟩
  · injection h with h; subst h; exact grow_push _ rfl
  rcases ite_some h with ⟨-, h⟩ | ⟨-, h⟩
  · exact grow_closing h
  rcases ite_some h with ⟨-, h⟩ | ⟨-, h⟩
  · exact grow_closing h
  rcases ite_some h with ⟨-, h⟩ | ⟨-, h⟩
  · exact grow_closing h
  rcases ite_some h with ⟨-, h⟩ | ⟨-, h⟩
  · injection h with h; subst h; exact grow_comma _ _
  rcases ite_some h with ⟨-, h⟩ | ⟨-, h⟩
  · injection h with h; subst h; exact grow_mark _ _
  rcases ite_some h with ⟨-, h⟩ | ⟨-, h⟩
  · injection h with h; subst h; exact grow_mark _ _
  rcases ite_some h with ⟨-, h⟩ | ⟨-, h⟩
  · injection h with h; subst h; exact grow_push _ rfl
  rcases ite_some h with ⟨-, h⟩ | ⟨-, h⟩
  · exact grow_ending h
  rcases ite_some h with ⟨-, h⟩ | ⟨-, h⟩
  · exact grow_ending h
  rcases ite_some h with ⟨-, h⟩ | ⟨-, h⟩
  · exact grow_ending h
  rcases ite_some h with ⟨-, h⟩ | ⟨-, h⟩
  · exact grow_ending h
  injection h with h; subst h; exact Grow.refl _
/-- A token: what is added before it, and itself. -/
theorem grow_step {s s' : St} {t b : Tok} {i : Nat} (h : stepI s t b i = some s') : ∃ s1, Grow s s1 ∧ s'.out = s1.out ++ [t] ∧ s'.im = s1.im := by
  unfold stepI at h
  have h1 := grow_begin s t
  split at h
  · cases h
  · rename_i s2 hs
    have g2 : Grow s s2 := by
      split at hs
      · exact h1.trans (grow_lines _ _ _ _ hs)
      · injection hs with hs; subst hs; exact h1
    rw [token_eq] at h
    cases hr : tokenR (item s2 t) t (bword b) with
    | none => rw [hr] at h; cases h
    | some s3 =>
      rw [hr] at h
      simp only [Option.map_some, Option.some.injEq] at h
      subst h
      refine ⟨s3, g2.trans ((grow_item s2 t).trans (grow_tokenR hr)), ?_, ?_⟩
      · unfold St.add; split <;> rfl
      · unfold St.add; split <;> rfl
theorem grow_fin1 (s : St) : Grow s (fin1 s) := by
  unfold fin1
  split
  · exact ⟨[insT [123], insT [125]], by simp [St.ins], .inl ⟨rfl, .inr (.inl ⟨rfl, _, rfl, rfl⟩)⟩⟩
  · exact Grow.refl _
/-- The tokens of a list, between what is added. -/
def Wov : Nat → List Tok → List Tok → Nat → Prop
  | a, o, [], b => Gr a o b
  | a, o, t :: l, b => ∃ x r c, o = x ++ t :: r ∧ Gr a x c ∧ Wov c r l b
theorem Wov.pre {l : List Tok} {a b c : Nat} {x o : List Tok} (h1 : Gr a x b) (h2 : Wov b o l c) : Wov a (x ++ o) l c := by
  cases l with
  | nil => exact h1.app h2
  | cons t l =>
    obtain ⟨y, r, d, rfl, g, w⟩ := h2
    exact ⟨x ++ y, r, d, by simp, h1.app g, w⟩
theorem Wov.post : ∀ {l : List Tok} {a b c : Nat} {x o : List Tok}, Wov a o l b → Gr b x c → Wov a (o ++ x) l c := by
  intro l
  induction l with
  | nil => intro a b c x o h1 h2; exact Gr.app h1 h2
  | cons t l ih =>
    intro a b c x o h1 h2
    obtain ⟨y, r, d, rfl, g, w⟩ := h1
    exact ⟨y, r ++ x, d, by simp, g, ih w h2⟩
theorem wov_go : ∀ (l : List Tok) (b : Tok) (i : Nat) (s s' : St), goI l b i s = .ok s' → ∃ o, s'.out = s.out ++ o ∧ Wov s.im o l s'.im := by
  intro l
  induction l with
  | nil =>
    intro b i s s' h
    simp only [goI, Except.ok.injEq] at h
    subst h
    exact ⟨[], by simp, rfl⟩
  | cons t r ih =>
    intro b i s s' h
    unfold goI at h
    split at h
    · cases h
    · rename_i s1 h1
      obtain ⟨o, e1, w⟩ := ih _ _ _ _ h
      obtain ⟨s2, ⟨x, e2, g⟩, e3, e4⟩ := grow_step h1
      refine ⟨x ++ t :: o, ?_, x, o, s2.im, rfl, g, by rw [← e4]; exact w⟩
      rw [e1, e3, e2]
      simp
/-- A result of Insert holds the argument's tokens, and balanced ones between them. -/
theorem wov_insert {l o : List Tok} (h : insertS l = .ok o) : l.any (·.auto) = false ∧ Wov 0 o l 0 := by
  unfold insertS at h
  split at h
  · cases h
  · rename_i ha
    refine ⟨by simpa using ha, ?_⟩
    cases hg : goI l zT 0 st0 with
    | error f => rw [hg] at h; cases h
    | ok s =>
      rw [hg] at h
      simp only [endI] at h
      split at h
      · cases h
      · split at h
        · cases h
        · injection h with h
          subst h
          obtain ⟨o1, e1, w⟩ := wov_go _ _ _ _ _ hg
          obtain ⟨x, e2, g⟩ := (grow_fin1 s).trans (grow_cut (fin1 s) 0)
          have e0 : ((fin1 s).cut 0).im = 0 := by simp [St.im, St.cut]
          rw [e0] at g
          rw [e2, e1]
          exact Wov.post w g
theorem wov_strip : ∀ {l : List Tok} {a b : Nat} {o : List Tok}, Wov a o l b → l.any (·.auto) = false → o.filter (fun t => !t.auto) = l := by
  have hg : ∀ {x : List Tok} {a b : Nat}, Gr a x b → x.filter (fun t => !t.auto) = [] := by
    intro x a b h
    rw [List.filter_eq_nil_iff]
    intro t ht
    simp [Gr.auto h t ht]
  intro l
  induction l with
  | nil => intro a b o h _; exact hg h
  | cons t l ih =>
    intro a b o h hl
    obtain ⟨x, r, c, rfl, g, w⟩ := h
    simp only [List.any_cons, Bool.or_eq_false_iff] at hl
    rw [List.filter_append, hg g, List.nil_append, List.filter_cons, hl.1, ih w hl.2]
    rfl
theorem strip_insert {l o : List Tok} (h : insertS l = .ok o) : o.filter (fun t => !t.auto) = l := by
  obtain ⟨h1, h2⟩ := wov_insert h
  exact wov_strip h2 h1
end Go.Proofs.TryL
