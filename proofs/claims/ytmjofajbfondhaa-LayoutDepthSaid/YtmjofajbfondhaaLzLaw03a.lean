/- Layout: the evaluator's results told in plain Lean (tokens, Depth). -/
import Derived.Test.YtmjofajbfondhaaLzCode03
import Derived.Test.YtmjofajbfondhaaLzSimp
namespace Go.Proofs.TryL
open Go.Proofs.Lz

structure Tok where
  op : Int
  mod : List UInt8
  text : List UInt8
  n : Int
  auto : Bool
  line : Int
  col : Int
def Tok.cells (t : Tok) : List CV := [.int .i64 t.op, .str t.mod, .str t.text, .int .i64 t.n, .bool t.auto, .int .i64 t.line, .int .i64 t.col]
def tokC (t : Tok) : CV := .agg t.cells

def special (t : Tok) (s : List UInt8) : Bool := t.op == 8 && t.text == s

@[simp] theorem fn34 : Ev.fn 34 = some ic34 := rfl
@[simp] theorem fn35 : Ev.fn 35 = some ic35 := rfl
@[simp] theorem fn13 : Ev.fn 13 = some ic13 := rfl
@[simp] theorem fn7 : Ev.fn 7 = some ic7 := rfl

theorem special34 (t : Tok) (s : List UInt8) (H : Heap) : ev Ev 34 [.c (tokC t), .c (.str s)] H = some (.c (.bool (special t s)), H) := by
  rw [ev_eq, runFn, fn34]
  by_cases h : t.op = 8 <;> simp [ic34, tokC, Tok.cells, special, h]
theorem special35 (t : Tok) (s : List UInt8) (H : Heap) : ev Ev 35 [.c (tokC t), .c (.str s)] H = some (.c (.bool (special t s)), H) := by
  rw [ev_eq, runFn, fn35]
  by_cases h : t.op = 8 <;> simp [ic35, tokC, Tok.cells, special, h]
theorem few7 (ek : Option Nat) (xs : List CV) (H : Heap) : ev Ev 7 [.c (.frz ek xs)] H = some (.c (.bool (decide (xs.length ≤ 3000))), H) := by
  rw [ev_eq, runFn, fn7]
  simp [ic7]
  omega
def mkTok (op : Int) (s : List UInt8) : Tok := ⟨op, [], s, 0, false, 0, 0⟩
theorem word13 (op : Int) (s : List UInt8) (H : Heap) : ev Ev 13 [.c (.int .i64 op), .c (.str s)] H = some (.c (tokC (mkTok op s)), H) := by
  rw [ev_eq, runFn, fn13]
  simp [ic13, tokC, Tok.cells, mkTok]

/-- The number of open braces behind a token. -/
def dstep (o : Int) (t : Tok) : Int :=
  let o1 := if special t [123] then o + 1 else o
  if special t [125] then o1 - 1 else o1
/-- The most open braces, from a number and a most on. -/
def most : Int → Int → List Tok → Int
  | _, m, [] => m
  | o, m, t :: r => most (dstep o t) (max m (dstep o t)) r

@[simp] theorem fn12 : Ev.fn 12 = some ic12 := rfl
@[simp] theorem fn14 : Ev.fn 14 = some ic14 := rfl

theorem wrap_id {x : Int} (h1 : -9223372036854775808 ≤ x) (h2 : x < 9223372036854775808) : IntKind.i64.wrap x = x := by
  simp [IntKind.wrap, IntKind.bits, IntKind.signed, IntKind.max, IntKind.min] 
  omega

theorem dstep_in {o : Int} {t : Tok} {i : Nat} (h : -(i : Int) ≤ o ∧ o ≤ i) : -((i + 1 : Nat) : Int) ≤ dstep o t ∧ dstep o t ≤ ((i + 1 : Nat) : Int) := by
  unfold dstep
  dsimp only
  split <;> split <;> omega

@[simp] theorem md34 : Ev.md 34 = .P := rfl
@[simp] theorem md35 : Ev.md 35 = .P := rfl
def K12 (l : List Tok) (o m : Int) (i : Nat) : Fr := { env := assoc [(3, .c (.int .i64 o)), (4, .c (.int .i64 m)), (7, .c (.frz (some 7) (l.map tokC))), (8, .c (.int .i64 l.length)), (9, .c (.int .i64 i))], al := noAl }
def E12 (l : List Tok) (o m : Int) : Fr := { env := upd (K12 l o m l.length).env 10 (.c (.bool false)), al := upd noAl 10 none }
theorem round12 (l : List Tok) (o m : Int) (i : Nat) (t : Tok) (hi : l[i]? = some t) (hl : l.length < 1000000000) (ho : -(i : Int) ≤ o ∧ o ≤ i) (H : Heap) :
    ∃ fr1, evC Ev (ev Ev) itW lp12_1 (K12 l o m i) H = some (.nrm, fr1, H) ∧ keep [3, 4, 7, 8, 9] fr1 = K12 l (dstep o t) (max m (dstep o t)) (i + 1) := by
  have hlt : i < l.length := (List.getElem?_eq_some_iff.1 hi).1
  have hgi : l[i] = t := (List.getElem?_eq_some_iff.1 hi).2
  have w1 : IntKind.i64.wrap (o + 1) = o + 1 := wrap_id (by omega) (by omega)
  have w2 : IntKind.i64.wrap (o - 1) = o - 1 := wrap_id (by omega) (by omega)
  have w3 : IntKind.i64.wrap o = o := wrap_id (by omega) (by omega)
  have w4 : IntKind.i64.wrap ((i : Int) + 1) = (i : Int) + 1 := wrap_id (by omega) (by omega)
  have hg : tokC t = .agg t.cells := rfl
  have hcl : t.cells.length = 7 := rfl
  have s1 := special34 t [123] []
  have s2 := special34 t [125] []
  rw [hg] at s1 s2
  by_cases h1 : special t [123] = true <;> by_cases h2 : special t [125] = true <;> simp [lp12_1, K12, hlt, hgi, hg, hcl, s1, s2, h1, h2, dstep, w1, w2, w3, w4]
theorem loop12 (l : List Tok) (hl : l.length < 1000000000) (H : Heap) : ∀ (k i : Nat) (o m : Int), i + k = l.length → -(i : Int) ≤ o ∧ o ≤ i → ∀ fr, keep [3, 4, 7, 8, 9] fr = K12 l o m i →
    evC Ev (ev Ev) itW (.loop [3, 4, 7, 8, 9] lp12_1) fr H = some (.exit 0, E12 l ((l.drop i).foldl dstep o) (most o m (l.drop i)), H) := by
  intro k
  induction k with
  | zero =>
    intro i o m hi ho fr hk
    have : i = l.length := by omega
    subst this
    rw [ev_loop, itW_eq, hk]
    simp [lp12_1, K12, E12, most]
  | succ k ih =>
    intro i o m hi ho fr hk
    have hlt : i < l.length := by omega
    obtain ⟨fr1, h1, h2⟩ := round12 l o m i l[i] (by simp [hlt]) hl ho H
    rw [ev_loop, itW_eq, hk, h1]
    dsimp only
    have := ih (i + 1) (dstep o l[i]) (max m (dstep o l[i])) (by omega) (dstep_in ho) fr1 h2
    rw [ev_loop] at this
    rw [this, List.drop_eq_getElem_cons hlt]
    rfl
theorem depth12 (l : List Tok) (hl : l.length < 1000000000) (H : Heap) : ev Ev 12 [.c (.frz (some 7) (l.map tokC))] H = some (.c (.int .i64 (most 0 0 l)), H) := by
  have L := fun fr (hk : keep [3, 4, 7, 8, 9] fr = K12 l 0 0 0) => loop12 l hl H l.length 0 0 0 (by omega) (by omega) fr hk
  simp only [List.drop_zero] at L
  rw [ev_eq, runFn, fn12]
  simp [ic12]
  rw [L _ (by simp [K12])]
  simp [E12, K12]
end Go.Proofs.TryL
