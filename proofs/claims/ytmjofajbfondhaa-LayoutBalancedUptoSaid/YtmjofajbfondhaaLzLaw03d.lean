/- Layout: the law about balanced braces. -/
import Derived.Test.YtmjofajbfondhaaLzLaw03s
set_option linter.unusedSimpArgs false
set_option linter.unusedVariables false
namespace Go.Proofs.TryL
open Go.Proofs.Lz
/-- The number of open braces behind a token. -/
def dstep (o : Int) (t : Tok) : Int :=
  let o1 := if special t [123] then o + 1 else o
  if special t [125] then o1 - 1 else o1
/-- The most open braces, from a number and a most on. -/
def most : Int → Int → List Tok → Int
  | _, m, [] => m
  | o, m, t :: r => most (dstep o t) (max m (dstep o t)) r
theorem dstep_in {o : Int} {t : Tok} {i : Nat} (h : -(i : Int) ≤ o ∧ o ≤ i) : -((i + 1 : Nat) : Int) ≤ dstep o t ∧ dstep o t ≤ ((i + 1 : Nat) : Int) := by
  unfold dstep
  dsimp only
  split <;> split <;> omega
theorem dstep_add (o a : Int) (t : Tok) : dstep (o + a) t = dstep o t + a := by
  unfold dstep
  dsimp only
  split <;> split <;> omega
def K12 (l : List Tok) (o m : Int) (i : Nat) : WFr := { env := wassoc [(3, .c (.int .i64 o)), (4, .c (.int .i64 m)), (7, .c (tks l)), (8, .c (.int .i64 l.length)), (9, .c (.int .i64 i))], al := noAl }
def E12 (l : List Tok) (o m : Int) : WFr := { env := upd (K12 l o m l.length).env 10 (.c (.bool false)), al := upd noAl 10 none }
set_option maxHeartbeats 2000000 in
theorem round12 (l : List Tok) (o m : Int) (i : Nat) (t : Tok) (hi : l[i]? = some t) (hl : l.length < 1000000000) (ho : -(i : Int) ≤ o ∧ o ≤ i) (H : WHeap) :
    ∃ fr1, wC Vv (wv Vv) witW lp12_1 (K12 l o m i) H = some (.nrm, fr1, H) ∧ wkeep [3, 4, 7, 8, 9] fr1 = K12 l (dstep o t) (max m (dstep o t)) (i + 1) := by
  have hx : (l.map tokC)[i]? = some (tokC t) := by simp [hi]
  have hlt : i < l.length := (List.getElem?_eq_some_iff.1 hi).1
  have c1 : (i : Int) < l.length := by omega
  have w1 : IntKind.i64.wrap (o + 1) = o + 1 := wrap_id (by omega) (by omega)
  have w2 : IntKind.i64.wrap (o - 1) = o - 1 := wrap_id (by omega) (by omega)
  have w3 : IntKind.i64.wrap o = o := wrap_id (by omega) (by omega)
  have w4 : IntKind.i64.wrap ((i : Int) + 1) = (i : Int) + 1 := wrap_id (by omega) (by omega)
  have s1 := special34 t [123] []
  have s2 := special34 t [125] []
  by_cases h1 : special t [123] = true <;> by_cases h2 : special t [125] = true <;>
  · refine ⟨?_, ?_, ?_⟩
    rotate_left
    · simp [-getElem?_pos, List.getElem?_cons_zero, lp12_1, K12, tks, hx, hlt, c1, s1, s2, h1, h2, w1, w2, w3, w4]
      rfl
    · simp [K12, tks, dstep, h1, h2, w1, w2, w3, w4]
theorem loop12 (l : List Tok) (hl : l.length < 1000000000) (H : WHeap) : ∀ (k i : Nat) (o m : Int), i + k = l.length → -(i : Int) ≤ o ∧ o ≤ i → ∀ fr, wkeep [3, 4, 7, 8, 9] fr = K12 l o m i →
    wC Vv (wv Vv) witW (.loop [3, 4, 7, 8, 9] lp12_1) fr H = some (.exit 0, E12 l ((l.drop i).foldl dstep o) (most o m (l.drop i)), H) := by
  intro k
  induction k with
  | zero =>
    intro i o m hi ho fr hk
    have : i = l.length := by omega
    subst this
    rw [w_loop, witW_eq, hk]
    simp [lp12_1, K12, E12, most]
  | succ k ih =>
    intro i o m hi ho fr hk
    have hlt : i < l.length := by omega
    obtain ⟨fr1, h1, h2⟩ := round12 l o m i l[i] (by simp [hlt]) hl ho H
    rw [w_loop, witW_eq, hk, h1]
    dsimp only
    have := ih (i + 1) (dstep o l[i]) (max m (dstep o l[i])) (by omega) (dstep_in ho) fr1 h2
    rw [w_loop] at this
    rw [this, List.drop_eq_getElem_cons hlt]
    rfl
theorem depth12 (l : List Tok) (hl : l.length < 1000000000) (H : WHeap) : wv Vv 12 [.c (tks l)] H = some (.c (.int .i64 (most 0 0 l)), H) := by
  have L := fun fr (hk : wkeep [3, 4, 7, 8, 9] fr = K12 l 0 0 0) => loop12 l hl H l.length 0 0 0 (by omega) (by omega) fr hk
  simp only [List.drop_zero] at L
  rw [wv_eq, wFn, vfn12]
  simp [ic12, tks]
  rw [L _ (by simp [K12, tks])]
  simp [E12, K12]
theorem depth12n (H : WHeap) : wv Vv 12 [.c (.frz none [])] H = some (.c (.int .i64 0), H) := by
  rw [wv_eq, wFn, vfn12]
  simp [ic12, w_loop, witW_eq, lp12_1]

/-! ### balance -/
def bstep (n : Int) (t : Tok) : Int :=
  let a := if (t.auto && t.text == [123]) = true then n + 1 else n
  if (t.auto && t.text == [125]) = true then a - 1 else a
def Bal : Int → List Tok → Int → Prop
  | n, [], b => n = b
  | n, t :: r, b => 0 ≤ bstep n t ∧ Bal (bstep n t) r b
theorem gr_bal {r : List Tok} {c : Int} : ∀ {x : List Tok} {a b : Nat}, Gr a x b → Bal b r c → Bal a (x ++ r) c := by
  intro x
  induction x with
  | nil => intro a b h1 h2; simp only [Gr] at h1; subst h1; exact h2
  | cons y x ih =>
    intro a b h1 h2
    rcases h1 with ⟨hy, h⟩ | ⟨hy, a', ha, h⟩ | ⟨hy, h⟩
    · have : bstep a y = ((a + 1 : Nat) : Int) := by rw [hy]; simp [bstep, insT]
      exact ⟨by rw [this]; omega, by rw [this]; exact ih h h2⟩
    · have : bstep a y = (a' : Int) := by rw [hy, ha]; simp [bstep, insT]
      exact ⟨by rw [this]; omega, by rw [this]; exact ih h h2⟩
    · have : bstep a y = (a : Int) := by rw [hy]; simp [bstep, insT]
      exact ⟨by rw [this]; omega, by rw [this]; exact ih h h2⟩
theorem wov_bal : ∀ {l : List Tok} {a b : Nat} {o : List Tok}, Wov a o l b → l.any (·.auto) = false → Bal a o b := by
  intro l
  induction l with
  | nil =>
    intro a b o h _
    have := gr_bal (r := []) (c := b) h rfl
    simpa using this
  | cons t l ih =>
    intro a b o h hl
    obtain ⟨x, r, c, rfl, g, w⟩ := h
    simp only [List.any_cons, Bool.or_eq_false_iff] at hl
    have hb : bstep c t = (c : Int) := by simp [bstep, hl.1]
    exact gr_bal g ⟨by rw [hb]; omega, by rw [hb]; exact ih w hl.2⟩
theorem gr_most {r : List Tok} : ∀ {x : List Tok} {a b : Nat}, Gr a x b → ∀ (q m : Int), ∃ m', m ≤ m' ∧ most (q + a) m (x ++ r) = most (q + b) m' r := by
  intro x
  induction x with
  | nil => intro a b h q m; simp only [Gr] at h; subst h; exact ⟨m, Int.le_refl _, rfl⟩
  | cons y x ih =>
    intro a b h q m
    rcases h with ⟨hy, h⟩ | ⟨hy, a', ha, h⟩ | ⟨hy, h⟩
    · have e : dstep (q + a) y = q + ((a + 1 : Nat) : Int) := by rw [hy]; simp [dstep, insT, special]; omega
      obtain ⟨m', h1, h2⟩ := ih h q (max m (q + ((a + 1 : Nat) : Int)))
      refine ⟨m', by omega, ?_⟩
      simp only [List.cons_append, most, e]
      exact h2
    · have e : dstep (q + a) y = q + (a' : Int) := by rw [hy, ha]; simp [dstep, insT, special]; omega
      obtain ⟨m', h1, h2⟩ := ih h q (max m (q + (a' : Int)))
      refine ⟨m', by omega, ?_⟩
      simp only [List.cons_append, most, e]
      exact h2
    · have e : dstep (q + a) y = q + (a : Int) := by rw [hy]; simp [dstep, insT, special]
      obtain ⟨m', h1, h2⟩ := ih h q (max m (q + (a : Int)))
      refine ⟨m', by omega, ?_⟩
      simp only [List.cons_append, most, e]
      exact h2
theorem most_ge : ∀ (l : List Tok) (o m : Int), m ≤ most o m l := by
  intro l
  induction l with
  | nil => intro o m; exact Int.le_refl _
  | cons t l ih => intro o m; have := ih (dstep o t) (max m (dstep o t)); simp only [most]; omega
theorem wov_most : ∀ {l : List Tok} {a b : Nat} {o : List Tok}, Wov a o l b → ∀ (q m m' : Int), m' ≤ m → most q m' l ≤ most (q + a) m o := by
  intro l
  induction l with
  | nil => intro a b o h q m m' hm; simp only [most]; have := most_ge o (q + a) m; omega
  | cons t l ih =>
    intro a b o h q m m' hm
    obtain ⟨x, r, c, rfl, g, w⟩ := h
    obtain ⟨m2, h1, h2⟩ := gr_most (r := t :: r) g q m
    rw [h2]
    simp only [most]
    rw [dstep_add]
    exact ih w _ _ _ (by omega)
end Go.Proofs.TryL
