/- Layout: what the small functions of layout.Insert do to its state. -/
import Derived.Test.YtmjofajbfondhaaLzV03
import Derived.Test.YtmjofajbfondhaaLzLayGr
set_option linter.unusedSimpArgs false
set_option linter.unusedVariables false
namespace Go.Proofs.TryL
open Go.Proofs.Lz

@[simp] theorem tokC_eq (t : Tok) : tokC t = .agg [.int .i64 t.op, .str t.mod, .str t.text, .int .i64 t.n, .bool t.auto, .int .i64 t.line, .int .i64 t.col] := rfl
def Fm.p : Fm → Int
  | .im => 0
  | .ex => 1
  | .pa => 2
  | .br => 3
  | .pe => 4
def elC (e : El) : CV := .agg [.int .i64 e.form.p, .int .i64 e.col, .str e.word, .bool e.mark]
@[simp] theorem elC_eq (e : El) : elC e = .agg [.int .i64 e.form.p, .int .i64 e.col, .str e.word, .bool e.mark] := rfl
@[simp] theorem p0 (f : Fm) : (f.p == 0) = (f == .im) := by cases f <;> rfl
@[simp] theorem p1 (f : Fm) : (f.p == 1) = (f == .ex) := by cases f <;> rfl
@[simp] theorem p2 (f : Fm) : (f.p == 2) = (f == .pa) := by cases f <;> rfl
@[simp] theorem p3 (f : Fm) : (f.p == 3) = (f == .br) := by cases f <;> rfl
@[simp] theorem p4 (f : Fm) : (f.p == 4) = (f == .pe) := by cases f <;> rfl
@[simp] theorem q0 (f : Fm) : (f.p = 0) = (f = .im) := by cases f <;> simp [Fm.p]
@[simp] theorem q1 (f : Fm) : (f.p = 1) = (f = .ex) := by cases f <;> simp [Fm.p]
@[simp] theorem q2 (f : Fm) : (f.p = 2) = (f = .pa) := by cases f <;> simp [Fm.p]
@[simp] theorem q3 (f : Fm) : (f.p = 3) = (f = .br) := by cases f <;> simp [Fm.p]
@[simp] theorem q4 (f : Fm) : (f.p = 4) = (f = .pe) := by cases f <;> simp [Fm.p]
theorem wrap_id {x : Int} (h1 : -9223372036854775808 ≤ x) (h2 : x < 9223372036854775808) : IntKind.i64.wrap x = x := by
  simp [IntKind.wrap, IntKind.bits, IntKind.signed, IntKind.max, IntKind.min]
  omega
/-- A slice of one's own, or none. -/
def SL (v : WV) (e k : Nat) (xs : List CV) : Prop := (v = .nils ∧ xs = []) ∨ v = .own true e (some k) xs
/-- A slice as it is seen. -/
def Rep (H : WHeap) (p : Nat) (s : St) (f : Flt) : Prop :=
  ∃ vo vs, H[p]? = some (.var (some 8) [vo, vs, .c (.bool s.expect), .c (.str s.word), .c (.int .i64 f.code), .c (.str f.name), .c (.int .i64 f.line), .c (.int .i64 f.col)]) ∧ SL vo 33 7 (s.out.map tokC) ∧ SL vs 47 4 (s.stack.map elC)
/-- Other variables stay. -/
def Kp (p : Nat) (H H' : WHeap) : Prop := ∀ (i : Nat) (o : WO), i ≠ p → H[i]? = some o → H'[i]? = some o
theorem Kp.refl (p : Nat) (H : WHeap) : Kp p H H := fun _ _ _ h => h
theorem Kp.trans {p : Nat} {A B C : WHeap} (a : Kp p A B) (b : Kp p B C) : Kp p A C := fun i o hi h => b i o hi (a i o hi h)
theorem Kp.set (p : Nat) (H : WHeap) (x : WO) : Kp p H (H.set p x) := fun i o hi h => by rw [List.getElem?_set_ne (Ne.symm hi)]; exact h
def noF : Flt := ⟨0, [], 0, 0⟩

/-- A slice, thawed. -/
theorem SL.thaw {v : WV} {e k : Nat} {xs : List CV} (h : SL v e k xs) : ∃ u, (∀ q, thawW0 (peek1 q v) = some u) ∧ ((u = .frz none [] ∧ xs = []) ∨ u = .frz (some k) xs) := by
  rcases h with ⟨rfl, rfl⟩ | rfl
  · exact ⟨_, fun _ => rfl, .inl ⟨rfl, rfl⟩⟩
  · exact ⟨_, fun _ => rfl, .inr rfl⟩
theorem special34 (t : Tok) (s : List UInt8) (H : WHeap) : wv Vv 34 [.c (.agg [.int .i64 t.op, .str t.mod, .str t.text, .int .i64 t.n, .bool t.auto, .int .i64 t.line, .int .i64 t.col]), .c (.str s)] H = some (.c (.bool (special t s)), H) := by
  rw [wv_eq, wFn, vfn34]
  by_cases h : t.op = 8 <;> simp [ic34, special, h]
theorem word36 (t : Tok) (s : List UInt8) (H : WHeap) : wv Vv 36 [.c (.agg [.int .i64 t.op, .str t.mod, .str t.text, .int .i64 t.n, .bool t.auto, .int .i64 t.line, .int .i64 t.col]), .c (.str s)] H = some (.c (.bool (isW t s)), H) := by
  rw [wv_eq, wFn, vfn36]
  by_cases h : t.op = 9 <;> simp [ic36, isW, h]
theorem opens42 (t : Tok) (H : WHeap) : wv Vv 42 [.c (.agg [.int .i64 t.op, .str t.mod, .str t.text, .int .i64 t.n, .bool t.auto, .int .i64 t.line, .int .i64 t.col])] H = some (.c (.bool (opens t)), H) := by
  have w := fun s => word36 t s []
  have w1 := w [119, 104, 101, 114, 101]
  have w2 := w [108, 101, 116]
  have w3 := w [100, 111]
  have w4 := w [111, 102]
  rw [wv_eq, wFn, vfn42]
  cases a1 : isW t [119, 104, 101, 114, 101] <;> cases a2 : isW t [108, 101, 116] <;> cases a3 : isW t [100, 111] <;> cases a4 : isW t [111, 102] <;>
    simp [ic42, w1, w2, w3, w4, opens, a1, a2, a3, a4, wWhere, wLet, wDo, wOf]
theorem isBlock38 (e : El) (H : WHeap) : wv Vv 38 [.c (.agg [.int .i64 e.form.p, .int .i64 e.col, .str e.word, .bool e.mark])] H = some (.c (.bool (isBlock e)), H) := by
  rw [wv_eq, wFn, vfn38]
  cases h : e.form <;> simp [ic38, isBlock, h, Fm.p]
theorem isCtx41 (e : El) (H : WHeap) : wv Vv 41 [.c (.agg [.int .i64 e.form.p, .int .i64 e.col, .str e.word, .bool e.mark])] H = some (.c (.bool (isCtx e)), H) := by
  rw [wv_eq, wFn, vfn41]
  cases h : e.form <;> simp [ic41, isCtx, h, Fm.p]
theorem closing53 (e : El) (H : WHeap) : wv Vv 53 [.c (.agg [.int .i64 e.form.p, .int .i64 e.col, .str e.word, .bool e.mark])] H = some (.c (.bool (isWr e)), H) := by
  rw [wv_eq, wFn, vfn53]
  cases h : e.form <;> simp [ic53, isWr, h, Fm.p]

theorem push39 {H : WHeap} {p : Nat} {s : St} {f : Flt} (e : El) (h : Rep H p s f) (hb : s.stack.length < 1000000000) :
    ∃ H', wv Vv 39 [.ptr p 0, .c (.agg [.int .i64 e.form.p, .int .i64 e.col, .str e.word, .bool e.mark])] H = some (.tup [], H') ∧ Rep H' p (s.push e) f ∧ Kp p H H' := by
  obtain ⟨vo, vs, hp, ho, hs⟩ := h
  have hg := set_get hp
  rcases hs with ⟨rfl, hs⟩ | rfl
  · have hs' : s.stack = [] := by simpa using hs
    refine ⟨_, ?_, ⟨vo, .own true 47 (some 4) [elC e], set_get hp _, ho, .inr ?_⟩, Kp.set _ _ _⟩
    · rw [wv_eq, wFn, vfn39]
      simp [ic39, hp, lim, St.push]
    · simp [St.push, hs']
  · refine ⟨_, ?_, ⟨vo, .own true 47 (some 4) ((s.push e).stack.map elC), set_get hp _, ho, .inr rfl⟩, Kp.set _ _ _⟩
    rw [wv_eq, wFn, vfn39]
    simp [ic39, hp, hg, lim, St.push, show s.stack.length + 1 ≤ 140737488355328 by omega, show (s.stack.length + 1) * 40 ≤ 140737488355328 by omega]
theorem fail28 {H : WHeap} {p : Nat} {s : St} {f : Flt} (t : Tok) (h : Rep H p s f) :
    ∃ H', wv Vv 28 [.ptr p 0, .c (.agg [.int .i64 t.op, .str t.mod, .str t.text, .int .i64 t.n, .bool t.auto, .int .i64 t.line, .int .i64 t.col])] H = some (.c (.bool false), H') ∧ Rep H' p s (flt t) ∧ Kp p H H' := by
  obtain ⟨vo, vs, hp, ho, hs⟩ := h
  have hg := set_get hp
  refine ⟨_, ?_, ⟨vo, vs, set_get hp _, ho, hs⟩, Kp.set _ _ _⟩
  rw [wv_eq, wFn, vfn28]
  simp [ic28, hp, flt]
/-- insert, for one text. -/
theorem insert23 {H : WHeap} {p : Nat} {s : St} {f : Flt} (x : List UInt8) (h : Rep H p s f) (hb : s.out.length < 1000000000) :
    ∃ H', wv Vv 23 [.ptr p 0, .c (.frz none [.str x])] H = some (.tup [], H') ∧ Rep H' p (s.ins x) f ∧ Kp p H H' := by
  obtain ⟨vo, vs, hp, ho, hs⟩ := h
  have hg := set_get hp
  rcases ho with ⟨rfl, ho⟩ | rfl
  · have ho' : s.out = [] := by simpa using ho
    refine ⟨_, ?_, ⟨.own true 33 (some 7) [tokC (insT x)], vs, set_get hp _, .inr ?_, hs⟩, Kp.set _ _ _⟩
    · rw [wv_eq, wFn, vfn23]
      simp [ic23, w_loop, witW_eq, lp23_1, hp, lim, insT, wrap_id, St.ins]
    · simp [St.ins, ho']
  · refine ⟨_, ?_, ⟨.own true 33 (some 7) ((s.ins x).out.map tokC), vs, set_get hp _, .inr rfl, hs⟩, Kp.set _ _ _⟩
    rw [wv_eq, wFn, vfn23]
    simp [ic23, w_loop, witW_eq, lp23_1, hp, hg, lim, St.ins, insT, wrap_id, show s.out.length + 1 ≤ 140737488355328 by omega, show (s.out.length + 1) * 72 ≤ 140737488355328 by omega]

/-! ### looking for the topmost element -/
def SC (v : CV) (st : List El) : Prop := (v = .frz none [] ∧ st = []) ∨ v = .frz (some 4) (st.map elC)
theorem SC.len {v : CV} {st : List El} (h : SC v st) : ∃ ek xs, v = .frz ek xs ∧ xs.length = st.length := by
  rcases h with ⟨rfl, rfl⟩ | rfl
  · exact ⟨_, _, rfl, rfl⟩
  · exact ⟨_, _, rfl, by simp⟩
section
variable (a sc : CV) (r : List CV) (st : List El) (f : Nat) (first cap : List CV) (g : El → Bool)
def K37 (i : Int) : WFr := { env := wassoc [(0, .c (.fptr (some 8) (.agg (a :: sc :: r)) 0)), (1, .c (.fn f first cap)), (5, .c (.int .i64 i))], al := noAl }
theorem loop37 (hs : SC sc st) (hl : st.length < 1000000000)
    (hc : ∀ (e : El) (dst : Option Nat) (fr : WFr) (H : WHeap), wcallTo Vv (wv Vv) f (first.map .c ++ .c (.agg [.int .i64 e.form.p, .int .i64 e.col, .str e.word, .bool e.mark]) :: cap.map .c) dst fr H = some (fr.put dst (.c (.bool (g e))), H)) (H : WHeap) :
    ∀ k, k ≤ st.length → ∀ fr, wkeep [0, 1, 5] fr = K37 a sc r f first cap ((k : Int) - 1) →
      ∃ fr', (match lastN g st k with
        | some j => wC Vv (wv Vv) witW (.loop [0, 1, 5] lp37_1) fr H = some (.ret, fr', H) ∧ fr'.env 4 = .c (.int .i64 j)
        | none => wC Vv (wv Vv) witW (.loop [0, 1, 5] lp37_1) fr H = some (.exit 0, fr', H)) := by
  intro k
  induction k with
  | zero =>
    intro _ fr hk
    refine ⟨?_, ?_⟩
    rotate_left
    · simp only [lastN]
      rw [w_loop, witW_eq, hk]
      simp [lp37_1, K37]
      rfl
  | succ k ih =>
    intro hk fr hkeep
    have hlt : k < st.length := by omega
    have hsc : sc = .frz (some 4) (st.map elC) := by
      rcases hs with ⟨_, h⟩ | h
      · rw [h] at hlt; cases hlt
      · exact h
    have e1 : ((k + 1 : Nat) : Int) - 1 = k := by omega
    have w1 : IntKind.i64.wrap ((k : Int) - 1) = (k : Int) - 1 := wrap_id (by omega) (by omega)
    rw [e1] at hkeep
    have hget : st[k]? = some st[k] := by simp [hlt]
    simp only [lastN, hget]
    cases hg : g st[k] with
    | true =>
      refine ⟨?_, ?_⟩
      rotate_left
      · simp only [if_true]
        rw [w_loop, witW_eq, hkeep]
        constructor
        · simp [-wcallTo, lp37_1, K37, hsc, hlt, hc, hg]
          rfl
        · rfl
    | false =>
      obtain ⟨fr1, h1, h2⟩ : ∃ fr1, wC Vv (wv Vv) witW lp37_1 (K37 a sc r f first cap k) H = some (.nrm, fr1, H) ∧ wkeep [0, 1, 5] fr1 = K37 a sc r f first cap ((k : Int) - 1) := by
        refine ⟨?_, ?_, ?_⟩
        rotate_left
        · simp [-wcallTo, lp37_1, K37, hsc, hlt, hc, hg, w1]
          rfl
        · simp [K37, hsc]
      obtain ⟨fr', h3⟩ := ih (by omega) fr1 h2
      refine ⟨fr', ?_⟩
      simp only [Bool.false_eq_true, if_false]
      have e : wC Vv (wv Vv) witW (.loop [0, 1, 5] lp37_1) fr H = wC Vv (wv Vv) witW (.loop [0, 1, 5] lp37_1) fr1 H := by
        rw [w_loop, witW_eq, hkeep, h1]; rfl
      rw [e]
      exact h3
end

theorem top37 (a sc : CV) (r : List CV) (st : List El) (f : Nat) (first cap : List CV) (g : El → Bool) (hs : SC sc st) (hl : st.length < 1000000000)
    (hc : ∀ (e : El) (dst : Option Nat) (fr : WFr) (H : WHeap), wcallTo Vv (wv Vv) f (first.map .c ++ .c (.agg [.int .i64 e.form.p, .int .i64 e.col, .str e.word, .bool e.mark]) :: cap.map .c) dst fr H = some (fr.put dst (.c (.bool (g e))), H)) (H : WHeap) :
    wv Vv 37 [.c (.fptr (some 8) (.agg (a :: sc :: r)) 0), .c (.fn f first cap)] H = some (.c (.int .i64 (toI (last g st))), H) := by
  obtain ⟨ek, xs, h1, h2⟩ := hs.len
  have w1 : IntKind.i64.wrap ((st.length : Int) - 1) = (st.length : Int) - 1 := wrap_id (by omega) (by omega)
  rw [wv_eq, wFn, vfn37]
  simp [ic37, h1, h2, w1]
  generalize hX : ({ env := _, al := _ } : WFr) = X
  obtain ⟨fr', h3⟩ := loop37 a sc r st f first cap g hs hl hc H st.length (Nat.le_refl _) X (by subst hX; simp [K37, h1])
  simp only [last]
  cases hg : lastN g st st.length with
  | none =>
    rw [hg] at h3
    simp only at h3
    rw [h3]
    simp [toI]
  | some j =>
    rw [hg] at h3
    simp only at h3
    rw [h3.1]
    simp [toI, h3.2]
theorem call38 (e : El) (dst : Option Nat) (fr : WFr) (H : WHeap) : wcallTo Vv (wv Vv) 38 (([] : List CV).map .c ++ .c (.agg [.int .i64 e.form.p, .int .i64 e.col, .str e.word, .bool e.mark]) :: ([] : List CV).map .c) dst fr H = some (fr.put dst (.c (.bool (isBlock e))), H) := by
  have := isBlock38 e []
  simp [this]
theorem call41 (e : El) (dst : Option Nat) (fr : WFr) (H : WHeap) : wcallTo Vv (wv Vv) 41 (([] : List CV).map .c ++ .c (.agg [.int .i64 e.form.p, .int .i64 e.col, .str e.word, .bool e.mark]) :: ([] : List CV).map .c) dst fr H = some (fr.put dst (.c (.bool (isCtx e))), H) := by
  have := isCtx41 e []
  simp [this]
theorem call53 (e : El) (dst : Option Nat) (fr : WFr) (H : WHeap) : wcallTo Vv (wv Vv) 53 (([] : List CV).map .c ++ .c (.agg [.int .i64 e.form.p, .int .i64 e.col, .str e.word, .bool e.mark]) :: ([] : List CV).map .c) dst fr H = some (fr.put dst (.c (.bool (isWr e))), H) := by
  have := closing53 e []
  simp [this]

/-! ### cut and remove -/
theorem lastN_lt {α : Type} {f : α → Bool} {l : List α} : ∀ {n i : Nat}, lastN f l n = some i → i < n := by
  intro n
  induction n with
  | zero => intro i h; cases h
  | succ n ih =>
    intro i h
    simp only [lastN] at h
    split at h
    · split at h
      · injection h with h; omega
      · have := ih h; omega
    · have := ih h; omega
theorem last_lt {α : Type} {f : α → Bool} {l : List α} {i : Nat} (h : last f l = some i) : i < l.length := lastN_lt h
theorem cut_step (s : St) (n : Nat) (e : El) (st : List El) (hst : s.stack = st ++ [e]) (hn : n ≤ st.length) :
    s.cut n = ({ (if e.form = .im then s.ins [125] else s) with stack := st } : St).cut n := by
  have h1 : s.stack.drop n = st.drop n ++ [e] := by rw [hst, List.drop_append_of_le_length hn]
  have h2 : s.stack.take n = st.take n := by rw [hst, List.take_append_of_le_length hn]
  simp only [St.cut, h1, h2, List.countP_append]
  cases hf : e.form <;> simp [isIm, hf, List.countP_cons, St.ins, List.replicate_succ]
end Go.Proofs.TryL
/- Layout: cut and remove. -/
set_option linter.unusedSimpArgs false
set_option linter.unusedVariables false
namespace Go.Proofs.TryL
open Go.Proofs.Lz

theorem Rep.own {H : WHeap} {p : Nat} {s : St} {f : Flt} (h : Rep H p s f) (hne : s.stack ≠ []) : ∃ vo, H[p]? = some (.var (some 8) [vo, .own true 47 (some 4) (s.stack.map elC), .c (.bool s.expect), .c (.str s.word), .c (.int .i64 f.code), .c (.str f.name), .c (.int .i64 f.line), .c (.int .i64 f.col)]) ∧ SL vo 33 7 (s.out.map tokC) := by
  obtain ⟨vo, vs, hp, ho, hs⟩ := h
  rcases hs with ⟨_, hs⟩ | rfl
  · exact (hne (by simpa using hs)).elim
  · exact ⟨vo, hp, ho⟩
def K29 (p : Nat) (i : Int) : WFr := { env := wassoc [(0, .ptr p 0), (1, .c (.int .i64 i))], al := noAl }
theorem round29 {H : WHeap} {p : Nat} {s : St} {f : Flt} (h : Rep H p s f) {st : List El} {e : El} {n : Nat} (hst : s.stack = st ++ [e]) (hn : n ≤ st.length) (hl : s.stack.length < 1000000000) (hb : s.out.length < 1000000000) :
    ∃ H1 fr1, wC Vv (wv Vv) witW lp29_1 (K29 p ((n : Int) - 1)) H = some (.nrm, fr1, H1) ∧ wkeep [0, 1] fr1 = K29 p ((n : Int) - 1) ∧ Rep H1 p { (if e.form = .im then s.ins [125] else s) with stack := st } f ∧ Kp p H H1 := by
  have hlen : s.stack.length = st.length + 1 := by rw [hst]; simp
  have w1 : IntKind.i64.wrap (n : Int) = (n : Int) := by rw [wrap_id] <;> omega
  have w3 : IntKind.i64.wrap (st.length : Int) = (st.length : Int) := by rw [wrap_id] <;> omega
  have c3 : (st.length : Int) ≤ (st.length : Int) + 1 := by omega
  have w2 : IntKind.i64.wrap (((st.length : Int) + 1) - 1) = (st.length : Int) := by rw [wrap_id] <;> omega
  have c1 : (n : Int) < (st.length : Int) + 1 := by omega
  have c2 : ((st.length : Int)).toNat = st.length := by omega
  obtain ⟨vo, hp, ho⟩ := h.own (by rw [hst]; simp)
  have hg := set_get hp
  by_cases hf : e.form = .im
  · obtain ⟨H1, i1, i2, i3⟩ := insert23 [125] h hb
    obtain ⟨vo1, hp1, ho1⟩ := i2.own (by simp [St.ins, hst])
    have hg1 := set_get hp1
    simp only [St.ins, hst] at hp1
    rw [hst] at hp
    refine ⟨_, ?_, ?_, ?_, ⟨vo1, .own true 47 (some 4) (st.map elC), set_get hp1 _, by simpa [hf, St.ins] using ho1, .inr rfl⟩, i3.trans (Kp.set _ _ _)⟩
    rotate_left
    · simp [lp29_1, K29, hp, i1, hf, w1, w2, w3, c1, c2, c3, hp1, hg1, St.ins]
      rfl
    · simp [K29]
  · rw [hst] at hp
    refine ⟨_, ?_, ?_, ?_, ⟨vo, .own true 47 (some 4) (st.map elC), set_get hp _, by simpa [hf] using ho, .inr rfl⟩, Kp.set _ _ _⟩
    rotate_left
    · simp [lp29_1, K29, hp, hg, hf, w1, w2, w3, c1, c2, c3]
      rfl
    · simp [K29]
theorem loop29 {p : Nat} {f : Flt} {n : Nat} : ∀ (k : Nat) {H : WHeap} {s : St}, Rep H p s f → s.stack.length = n + k → s.stack.length < 1000000000 → s.out.length + s.stack.length < 1000000000 → ∀ fr, wkeep [0, 1] fr = K29 p ((n : Int) - 1) →
    ∃ H1 fr1, wC Vv (wv Vv) witW (.loop [0, 1] lp29_1) fr H = some (.exit 0, fr1, H1) ∧ Rep H1 p (s.cut n) f ∧ Kp p H H1 := by
  intro k
  induction k with
  | zero =>
    intro H s h hk hl hb fr hkeep
    have w1 : IntKind.i64.wrap (n : Int) = (n : Int) := by rw [wrap_id] <;> omega
    have hcut : s.cut n = s := by
      simp only [St.cut, List.drop_of_length_le (show s.stack.length ≤ n by omega), List.take_of_length_le (show s.stack.length ≤ n by omega)]
      simp
    have hlen : s.stack.length = n := by omega
    have key : ∃ fr1, wC Vv (wv Vv) witW (.loop [0, 1] lp29_1) fr H = some (.exit 0, fr1, H) := by
      obtain ⟨vo, vs, hp, ho, hs⟩ := h
      rw [w_loop, witW_eq, hkeep]
      rcases hs with ⟨rfl, hs⟩ | rfl
      · have hs' : n = 0 := by rw [← hlen]; simpa using hs
        subst hs'
        refine ⟨?_, ?_⟩
        rotate_left
        · simp [lp29_1, K29, hp, wrap_id]
          rfl
      · refine ⟨?_, ?_⟩
        rotate_left
        · simp [lp29_1, K29, hp, w1, hlen]
          rfl
    obtain ⟨fr1, k1⟩ := key
    exact ⟨H, fr1, k1, by rw [hcut]; exact h, Kp.refl _ _⟩
  | succ k ih =>
    intro H s h hk hl hb fr hkeep
    have hne : s.stack ≠ [] := by intro e; rw [e] at hk; simp at hk
    obtain ⟨st, e, hst⟩ : ∃ st e, s.stack = st ++ [e] := ⟨s.stack.dropLast, s.stack.getLast hne, (List.dropLast_concat_getLast hne).symm⟩
    have hlen : s.stack.length = st.length + 1 := by rw [hst]; simp
    obtain ⟨H1, fr1, h1, h2, h3, h4⟩ := round29 h hst (show n ≤ st.length by omega) hl (by omega)
    have hout : (if e.form = .im then s.ins [125] else s).out.length ≤ s.out.length + 1 := by split <;> simp [St.ins]
    obtain ⟨H2, fr2, i1, i2, i3⟩ := ih h3 (show st.length = n + k by omega) (show st.length < _ by omega) (show _ + st.length < _ by simp only; omega) fr1 h2
    refine ⟨H2, fr2, ?_, by rw [cut_step s n e st hst (by omega)]; exact i2, h4.trans i3⟩
    rw [w_loop, witW_eq, hkeep, h1]
    exact i1
theorem cut29 {H : WHeap} {p : Nat} {s : St} {f : Flt} (n : Nat) (h : Rep H p s f) (hn : n ≤ s.stack.length) (hb : s.out.length + s.stack.length < 1000000000) :
    ∃ H', wv Vv 29 [.ptr p 0, .c (.int .i64 ((n : Int) - 1))] H = some (.tup [], H') ∧ Rep H' p (s.cut n) f ∧ Kp p H H' := by
  obtain ⟨H1, fr1, h1, h2, h3⟩ := loop29 (n := n) (s.stack.length - n) h (by omega) (by omega) hb { env := wassoc (wbinds 0 [.ptr p 0, .c (.int .i64 ((n : Int) - 1))]), al := noAl } (by simp [K29])
  refine ⟨H1, ?_, h2, h3⟩
  rw [wv_eq, wFn, vfn29]
  simp only [ic29, w_block]
  rw [h1]
  simp
def St.pop (s : St) (e : El) (st : List El) : St := { s with stack := st }.wait (if isBlock e = true then e.word else [])
theorem remove40 {H : WHeap} {p : Nat} {s : St} {f : Flt} {st : List El} {e : El} (h : Rep H p s f) (hst : s.stack = st ++ [e]) (hl : s.stack.length < 1000000000) :
    ∃ H', wv Vv 40 [.ptr p 0] H = some (.c (.agg [.int .i64 e.form.p, .int .i64 e.col, .str e.word, .bool e.mark]), H') ∧ Rep H' p (s.pop e st) f ∧ Kp p H H' := by
  have hlen : s.stack.length = st.length + 1 := by rw [hst]; simp
  have w2 : IntKind.i64.wrap (((st.length : Int) + 1) - 1) = (st.length : Int) := by rw [wrap_id] <;> omega
  have w3 : IntKind.i64.wrap (st.length : Int) = (st.length : Int) := by rw [wrap_id] <;> omega
  have c3 : (st.length : Int) ≤ (st.length : Int) + 1 := by omega
  obtain ⟨vo, hp, ho⟩ := h.own (by rw [hst]; simp)
  have hg := set_get hp
  rw [hst] at hp
  have hlt := (List.getElem?_eq_some_iff.1 hp).1
  have hb := isBlock38 e []
  have hga : ∀ G, (H ++ G)[p]? = some (.var (some 8) [vo, .own true 47 (some 4) ((st ++ [e]).map elC), .c (.bool s.expect), .c (.str s.word), .c (.int .i64 f.code), .c (.str f.name), .c (.int .i64 f.line), .c (.int .i64 f.col)]) := fun G => by rw [List.getElem?_append_left hlt]; exact hp
  have hgs : ∀ G a, ((H ++ G).set p a)[p]? = some a := fun G a => set_get (hga G) a
  have mid : Rep ((H ++ [WO.var (some 4) [.c (.int .i64 e.form.p), .c (.int .i64 e.col), .c (.str e.word), .c (.bool e.mark)]]).set p (.var (some 8) [vo, .own true 47 (some 4) (st.map elC), .c (.bool s.expect), .c (.str s.word), .c (.int .i64 f.code), .c (.str f.name), .c (.int .i64 f.line), .c (.int .i64 f.col)])) p { s with stack := st } f :=
    ⟨vo, .own true 47 (some 4) (st.map elC), hgs _ _, ho, .inr rfl⟩
  have hgc : ∀ x : WO, (H ++ [x])[H.length]? = some x := fun x => by simp
  have hgx : ∀ x, (st.map elC ++ [x])[st.length]? = some x := fun x => by simp
  have hgl : ∀ x a, ((H ++ [x]).set p a)[H.length]? = some x := fun x a => by rw [List.getElem?_set_ne (Nat.ne_of_lt hlt)]; simp
  have kp0 : ∀ x a, Kp p H ((H ++ [x]).set p a) := fun x a => (show Kp p H (H ++ [x]) from fun i o _ h => by rw [List.getElem?_append_left (List.getElem?_eq_some_iff.1 h).1]; exact h).trans (Kp.set _ _ _)
  obtain ⟨H2, i1, i2, i3⟩ := push39 (pend wLet) mid (by simp; omega)
  have hg2 := i3 _ _ (Ne.symm (Nat.ne_of_lt hlt)) (hgl _ _)
  by_cases c : isBlock e = true ∧ e.word = wLet
  · have hw : s.pop e st = ({ s with stack := st } : St).push (pend wLet) := by simp [St.pop, St.wait, c.1, c.2]
    rw [hw]
    simp only [pend, wLet, show Fm.pe.p = 4 from rfl] at i1
    refine ⟨H2, ?_, i2, (kp0 _ _).trans i3⟩
    rw [wv_eq, wFn, vfn40]
    have cw := c.2
    simp only [wLet] at cw
    rw [cw] at i1 hb hg2
    simp [-getElem?_pos, List.getElem?_cons_zero, List.getElem?_nil, hgx, hgc, ic40, hp, hg, hga, hgs, hgl, hg2, hb, c.1, cw, w2, w3, c3, i1]
  · have hw : s.pop e st = ({ s with stack := st } : St) := by
      cases hbk : isBlock e <;> simp [St.pop, St.wait, hbk, wLet] at c ⊢
      intro h; exact (c h).elim
    rw [hw]
    simp only [wLet] at c
    cases hbk : isBlock e with
    | true =>
      simp [hbk] at c
      refine ⟨_, ?_, mid, kp0 _ _⟩
      rw [wv_eq, wFn, vfn40]
      simp [-getElem?_pos, List.getElem?_cons_zero, List.getElem?_nil, hgx, hgc, ic40, hp, hg, hga, hgs, hgl, hb, hbk, c, w2, w3, c3]
    | false =>
      refine ⟨_, ?_, mid, kp0 _ _⟩
      rw [wv_eq, wFn, vfn40]
      simp [-getElem?_pos, List.getElem?_cons_zero, List.getElem?_nil, hgx, hgc, ic40, hp, hg, hga, hgs, hgl, hb, hbk, c, w2, w3, c3]
end Go.Proofs.TryL
/- Layout: rules 1 and 3, marks. -/
set_option linter.unusedSimpArgs false
set_option linter.unusedVariables false
namespace Go.Proofs.TryL
open Go.Proofs.Lz

theorem SC_of {u : CV} {st : List El} (h : (u = .frz none [] ∧ st.map elC = []) ∨ u = .frz (some 4) (st.map elC)) : SC u st := by
  rcases h with ⟨h1, h2⟩ | h
  · exact .inl ⟨h1, by simpa using h2⟩
  · exact .inr h
theorem lastN_get {α : Type} {f : α → Bool} {l : List α} : ∀ {n i : Nat}, lastN f l n = some i → ∃ x, l[i]? = some x ∧ f x = true := by
  intro n
  induction n with
  | zero => intro i h; cases h
  | succ n ih =>
    intro i h
    simp only [lastN] at h
    split at h
    · rename_i x hx
      split at h
      · rename_i hf; injection h with h; subst h; exact ⟨x, hx, hf⟩
      · exact ih h
    · exact ih h
theorem last_get {α : Type} {f : α → Bool} {l : List α} {i : Nat} (h : last f l = some i) : ∃ x, l[i]? = some x ∧ f x = true := lastN_get h
theorem SL.own {s : St} {vs : WV} (hs : SL vs 47 4 (s.stack.map elC)) {i : Nat} {e : El} (hi : s.stack[i]? = some e) : vs = .own true 47 (some 4) (s.stack.map elC) := by
  rcases hs with ⟨_, hs⟩ | hs
  · have : s.stack = [] := by simpa using hs
    rw [this] at hi
    cases hi
  · exact hs
def tC (t : Tok) : WV := .c (.agg [.int .i64 t.op, .str t.mod, .str t.text, .int .i64 t.n, .bool t.auto, .int .i64 t.line, .int .i64 t.col])

theorem setMark45 {H : WHeap} {p : Nat} {s : St} {f : Flt} (b : Bool) (h : Rep H p s f) (hl : s.stack.length < 1000000000) :
    ∃ H', wv Vv 45 [.ptr p 0, .c (.bool b)] H = some (.tup [], H') ∧ Rep H' p (mark s b) f ∧ Kp p H H' := by
  have h0 := h
  obtain ⟨vo, vs, hp, ho, hs⟩ := h
  obtain ⟨uo, t1, _⟩ := ho.thaw
  obtain ⟨us, t2, hsc⟩ := hs.thaw
  have ht := fun a r => top37 a us r s.stack 41 [] [] isCtx (SC_of hsc) hl call41 []
  have hg := set_get hp
  cases hlast : last isCtx s.stack with
  | none =>
    rw [hlast] at ht
    refine ⟨H, ?_, by simpa [mark, hlast] using h0, Kp.refl _ _⟩
    rw [wv_eq, wFn, vfn45]
    simp [ic45, hp, t1, t2, ht, toI]
  | some i =>
    rw [hlast] at ht
    obtain ⟨e, he, _⟩ := last_get hlast
    have hv := SL.own hs he
    subst hv
    have hu : us = .frz (some 4) (s.stack.map elC) := by have := t2 (.hp 0 0); simpa using this.symm
    subst hu
    have hlt := (List.getElem?_eq_some_iff.1 he).1
    have hge := (List.getElem?_eq_some_iff.1 he).2
    by_cases hf : e.form = .im
    · refine ⟨_, ?_, ⟨vo, .own true 47 (some 4) ((mark s b).stack.map elC), set_get hp _, by simpa [mark, hlast, he, hf] using ho, .inr rfl⟩, Kp.set _ _ _⟩
      rw [wv_eq, wFn, vfn45]
      simp [ic45, hp, t1, t2, ht, toI, hlt, hge, hf, mark, hlast, List.map_set]
    · refine ⟨H, ?_, by simpa [mark, hlast, he, hf] using h0, Kp.refl _ _⟩
      rw [wv_eq, wFn, vfn45]
      simp [ic45, hp, t1, t2, ht, toI, hlt, hge, hf]
theorem item21 {H : WHeap} {p : Nat} {s : St} {f : Flt} (t : Tok) (h : Rep H p s f) (hl : s.stack.length < 1000000000) (hb : s.out.length < 1000000000) :
    ∃ H', wv Vv 21 [.ptr p 0, tC t] H = some (.tup [], H') ∧ Rep H' p (item s t) f ∧ Kp p H H' := by
  have h0 := h
  obtain ⟨vo, vs, hp, ho, hs⟩ := h
  obtain ⟨uo, t1, _⟩ := ho.thaw
  obtain ⟨us, t2, hsc⟩ := hs.thaw
  have ht := fun a r => top37 a us r s.stack 41 [] [] isCtx (SC_of hsc) hl call41 []
  have hg := set_get hp
  have s1 := special34 t [59] []
  have w1 := word36 t [116, 104, 101, 110] []
  have w2 := word36 t [101, 108, 115, 101] []
  rcases ho with ⟨rfl, ho⟩ | rfl
  · have ho' : s.out = [] := by simpa using ho
    refine ⟨H, ?_, by simpa [item, ho'] using h0, Kp.refl _ _⟩
    rw [wv_eq, wFn, vfn21]
    simp [ic21, tC, hp]
  · by_cases hne : s.out = []
    · refine ⟨H, ?_, by simpa [item, hne] using h0, Kp.refl _ _⟩
      rw [wv_eq, wFn, vfn21]
      simp [ic21, tC, hp, hne]
    · obtain ⟨st, o, hst⟩ : ∃ st o, s.out = st ++ [o] := ⟨s.out.dropLast, s.out.getLast hne, (List.dropLast_concat_getLast hne).symm⟩
      have so := special34 o [59] []
      have w3 : IntKind.i64.wrap (st.length : Int) = (st.length : Int) := by
        have : s.out.length = st.length + 1 := by rw [hst]; simp
        rw [wrap_id] <;> omega
      rw [hst] at hp
      have hnz : ((st.length : Int) + 1 == 0) = false := by
        have : ¬ ((st.length : Int) + 1 = 0) := by omega
        simpa using this
      have hnz' : ¬ ((st.length : Int) + 1 = 0) := by omega
      by_cases hc : (!special o [59] || special t [59] || isW t wThen || isW t wElse) = true
      · refine ⟨H, ?_, by simpa [item, hst, hc] using h0, Kp.refl _ _⟩
        rw [wv_eq, wFn, vfn21]
        cases c1 : special o [59] <;> cases c2 : special t [59] <;> cases c3 : isW t [116, 104, 101, 110] <;> cases c4 : isW t [101, 108, 115, 101] <;> simp [c1, c2, c3, c4, wThen, wElse] at hc <;> simp [ic21, tC, hp, s1, w1, w2, so, w3, hnz, hnz', c1, c2, c3, c4]
      · have hc0 := hc
        simp only [wThen, wElse, Bool.not_eq_true, Bool.or_eq_false_iff, Bool.not_eq_false'] at hc
        obtain ⟨⟨⟨c1, c2⟩, c3⟩, c4⟩ := hc
        have ho1 : SL (.own true 33 (some 7) ((st ++ [o]).map tokC)) 33 7 (s.out.map tokC) := by rw [hst]; exact .inr rfl
        have key : ∀ n : Nat, n ≤ s.stack.length → toI (last isCtx s.stack) = (n : Int) - 1 → item s t = { s with stack := s.stack.take n } →
            ∃ H', wv Vv 21 [.ptr p 0, tC t] H = some (.tup [], H') ∧ Rep H' p (item s t) f ∧ Kp p H H' := by
          intro n hn hi hit
          have w4 : IntKind.i64.wrap (n : Int) = (n : Int) := by rw [wrap_id] <;> omega
          rw [hi] at ht
          rw [hit]
          rcases hs with ⟨rfl, hs⟩ | rfl
          · have hs' : s.stack = [] := by simpa using hs
            have hu : us = .frz none [] := by have := t2 (.hp 0 0); simpa using this.symm
            subst hu
            have hn0 : n = 0 := by rw [hs'] at hn; simpa using hn
            subst hn0
            refine ⟨_, ?_, ⟨.own true 33 (some 7) ((st ++ [o]).map tokC), .nils, set_get hp _, ho1, .inl ⟨rfl, by simp⟩⟩, Kp.set _ _ _⟩
            rw [wv_eq, wFn, vfn21]
            simp [ic21, tC, hp, s1, w1, w2, so, w3, hnz, hnz', c1, c2, c3, c4, ht, t2, hg, wrap_id]
          · have hu : us = .frz (some 4) (s.stack.map elC) := by have := t2 (.hp 0 0); simpa using this.symm
            subst hu
            have hn' : (n : Int) ≤ s.stack.length := by omega
            refine ⟨_, ?_, ⟨.own true 33 (some 7) ((st ++ [o]).map tokC), .own true 47 (some 4) ((s.stack.take n).map elC), set_get hp _, ho1, .inr rfl⟩, Kp.set _ _ _⟩
            rw [wv_eq, wFn, vfn21]
            simp [ic21, tC, hp, s1, w1, w2, so, w3, w4, hn', hnz, hnz', c1, c2, c3, c4, ht, t2, hg, wrap_id]
        cases hlast : last isCtx s.stack with
        | none => exact key 0 (Nat.zero_le _) (by rw [hlast]; rfl) (by simp [item, hst, hc0, hlast])
        | some i => exact key (i + 1) (last_lt hlast) (by rw [hlast]; simp [toI]) (by simp [item, hst, hc0, hlast])
end Go.Proofs.TryL
