/- Chapter 02: names: simple and qualified names. -/
import Derived.Test.YtencoceemejcnaaGreatDoorLzSeat02
import Derived.Lib.ItoaLen
set_option linter.unusedSimpArgs false
set_option linter.unusedVariables false
namespace Go.Proofs.TryzL
open Go.Proofs.Lz
def bC (c : UInt8) : CV := .int .u8 c.toNat
def upperB (c : UInt8) : Bool := decide (65 ≤ c.toNat ∧ c.toNat ≤ 90)
def lowerB (c : UInt8) : Bool := decide (97 ≤ c.toNat ∧ c.toNat ≤ 122 ∨ c.toNat = 95)
def zo9 (c : UInt8) : Bool := decide (48 ≤ c.toNat ∧ c.toNat ≤ 57)
def knownB (c : UInt8) : Bool := decide (c.toNat = 9 ∨ c.toNat = 10 ∨ 32 ≤ c.toNat ∧ c.toNat ≤ 126)
def identB (c : UInt8) : Bool := upperB c || lowerB c || zo9 c || decide (c.toNat = 39)
theorem cb {a b : Bool} (h : a = true ↔ b = true) : CV.bool a = CV.bool b := by rw [Bool.eq_iff_iff.2 h]
def symS : List UInt8 := [33, 35, 36, 37, 38, 42, 43, 46, 47, 60, 61, 62, 63, 64, 92, 94, 124, 45, 126, 58]
def spS : List UInt8 := [40, 41, 91, 93, 123, 125, 44, 59, 96]
def symB (c : UInt8) : Bool := symS.contains c
theorem ju8 (s : List UInt8) (c : UInt8) : Rets Vv 35 [.c (.str s), .c (bC c)] (.c (.int .i64 (Lib.indexByte s c))) := by
 have h := zr1 (V := Vv) (f := 35) (xs := [.str s, bC c]) (u := .int .i64 (Lib.indexByte s c)) (g := idxG) rfl rfl (by simp [idxG, bC])
 exact h
theorem jg3 (c : UInt8) : ∀ s : List UInt8, decide (0 ≤ Lib.indexByte s c) = s.contains c := by
 intro s
 induction s with
 | nil => simp [Lib.indexByte]
 | cons x r ih =>
   have hge := Lib.indexByte_ge r c
   simp only [Lib.indexByte, List.contains_cons, ← ih]
   by_cases h : x = c
   · subst h; simp
   · have h1 : (x == c) = false := by simpa using h
     have h2 : (c == x) = false := by simpa using Ne.symm h
     simp only [h1, h2, Bool.false_eq_true, if_false, Bool.false_or]
     by_cases h3 : Lib.indexByte r c = -1
     · simp [h3]
     · have h4 : (Lib.indexByte r c == -1) = false := by simpa using h3
       simp only [h4, Bool.false_eq_true, if_false, decide_eq_decide]
       omega
end Go.Proofs.TryzL
namespace Go.Proofs.TryzL
open Go.Proofs.Lz
structure Sc where
 src : List UInt8
 pos : Nat
 line : Nat
 col : Nat
 code : Nat
 name : List UInt8
 fl : Nat
 fc : Nat
def scC (s : Sc) : List WV := [.c (.str s.src), .c (.int .i64 s.pos), .c (.int .i64 s.line), .c (.int .i64 s.col), .c (.int .i64 s.code), .c (.str s.name), .c (.int .i64 s.fl), .c (.int .i64 s.fc)]
def spanB (p : UInt8 → Bool) (l : List UInt8) (i : Nat) : List UInt8 := (l.drop i).takeWhile p
end Go.Proofs.TryzL
namespace Go.Proofs.TryzL
open Go.Proofs.Lz
def dashB (t : List UInt8) : Bool := decide (2 ≤ t.length) && t.all (· == 45)
def qz6 (s : Sc) : Sc := match s.src[s.pos]? with
 | none => s
 | some c => if c = 10 then { s with pos := s.pos + 1, line := s.line + 1, col := 1 } else if c = 9 then { s with pos := s.pos + 1, col := s.col + (8 - (s.col - 1) % 8) } else { s with pos := s.pos + 1, col := s.col + 1 }
def jr8 : Nat → Sc → Sc
 | 0, s => s
 | n + 1, s => jr8 n (qz6 s)
theorem j72 : ∀ (n : Nat) (s : Sc), jr8 (n + 1) s = qz6 (jr8 n s)
 | 0, s => rfl
 | n + 1, s => by
   show jr8 (n + 1) (qz6 s) = _
   rw [j72 n (qz6 s)]
   rfl
structure ScOk (s : Sc) : Prop where
 line : s.line ≤ s.pos + 1
 col : s.col ≤ 8 * s.pos + 1
 col1 : 1 ≤ s.col
def KpH (id : Nat) (H H' : z16) : Prop := ∀ i o, i ≠ id → H[i]? = some o → H'[i]? = some o
end Go.Proofs.TryzL
namespace Go.Proofs.TryzL
open Go.Proofs.Lz
def failSc (code : Nat) (nm : List UInt8) (s : Sc) : Sc := if s.code = 0 then { s with code := code, name := nm, fl := s.line, fc := s.col } else s
end Go.Proofs.TryzL
namespace Go.Proofs.TryzL
open Go.Proofs.Lz
def rsymL : List (List UInt8) := [[46, 46], [58, 58], [61], [92], [124], [60, 45], [45, 62], [64], [126], [61, 62]]
def rwordL : List (List UInt8) := [[97, 115], [99, 97, 115, 101], [99, 108, 97, 115, 115], [100, 97, 116, 97], [100, 101, 114, 105, 118, 105, 110, 103], [100, 111], [101, 108, 115, 101], [104, 105, 100, 105, 110, 103], [105, 102], [105, 109, 112, 111, 114, 116], [105, 110], [105, 110, 102, 105, 120], [105, 110, 102, 105, 120, 108], [105, 110, 102, 105, 120, 114], [105, 110, 115, 116, 97, 110, 99, 101], [108, 101, 116], [109, 111, 100, 117, 108, 101], [111, 102], [113, 117, 97, 108, 105, 102, 105, 101, 100], [116, 104, 101, 110], [119, 104, 101, 114, 101], [95]]
theorem zf2 (s : List UInt8) : Rets Vv 88 [.c (.str s)] (.c (.bool (rsymL.contains s))) := by
 refine z35 wr5 ?_
 repeat' first
  | apply z01
  | exact z17
  | (apply z12; exact rfl; exact rfl)
  | (apply z23; (iterate 3 exact rfl))
  | (apply z04; focus (repeat (first | exact z18 | (apply kq_c; exact rfl))))
  | apply z03
  | apply z00
  | apply z02
  | apply z05
  | apply z06
  | apply z07
  | (apply z38; exact rfl; (with_reducible rfl))
  | (apply z15; exact rfl)
  | (with_reducible apply zb1; intro hc)
  | (with_reducible apply z69; intro hc)
  | (apply z49; exact rfl)
 all_goals (refine cb ?_; simp_all [rsymL])
set_option maxHeartbeats 4000000 in
theorem zh5 (s : List UInt8) : Rets Vv 87 [.c (.str s)] (.c (.bool (rwordL.contains s))) := by
 refine z35 wr0 ?_
 repeat' first
  | apply z01
  | exact z17
  | (apply z12; exact rfl; exact rfl)
  | (apply z23; (iterate 3 exact rfl))
  | (apply z04; focus (repeat (first | exact z18 | (apply kq_c; exact rfl))))
  | apply z03
  | apply z00
  | apply z02
  | apply z05
  | apply z06
  | apply z07
  | (apply z38; exact rfl; (with_reducible rfl))
  | (apply z15; exact rfl)
  | (with_reducible apply zb1; intro hc)
  | (with_reducible apply z69; intro hc)
  | (apply z49; exact rfl)
 all_goals (refine cb ?_; simp_all [rwordL])
end Go.Proofs.TryzL
namespace Go.Proofs.TryzL
open Go.Proofs.Lz
def q06 (c : UInt8) : Bool := upperB c || decide (97 ≤ c.toNat ∧ c.toNat ≤ 122)
theorem qh5 (c : UInt8) : Rets Vv 90 [.c (bC c)] (.c (.bool (upperB c))) := by
 refine z35 wy3 ?_
 repeat' first
  | apply z01
  | exact z17
  | exact z30 rfl
  | (apply z12; exact rfl; exact rfl)
  | (apply z23; (iterate 3 exact rfl))
  | (apply z09; exact rfl; (with_reducible rfl); exact rfl)
  | (apply z13; exact rfl; (with_reducible rfl); exact rfl)
  | apply z03
  | apply z00
  | apply z02
  | apply z07
  | (apply z39; exact rfl; (with_reducible rfl))
  | (apply z29; exact rfl; (with_reducible rfl))
  | (apply z28; exact rfl)
  | (with_reducible apply z56; intro hc)
  | (with_reducible apply z40; intro hc)
  | (apply z49; exact rfl)
 all_goals (refine cb ?_; simp [upperB]; omega)
theorem jr3 (c : UInt8) : Rets Vv 115 [.c (bC c)] (.c (.bool (zo9 c))) := by
 refine z35 wl6 ?_
 repeat' first
  | apply z01
  | exact z17
  | exact z30 rfl
  | (apply z12; exact rfl; exact rfl)
  | (apply z23; (iterate 3 exact rfl))
  | (apply z09; exact rfl; (with_reducible rfl); exact rfl)
  | (apply z13; exact rfl; (with_reducible rfl); exact rfl)
  | apply z03
  | apply z00
  | apply z02
  | apply z07
  | (apply z39; exact rfl; (with_reducible rfl))
  | (apply z29; exact rfl; (with_reducible rfl))
  | (apply z28; exact rfl)
  | (with_reducible apply z56; intro hc)
  | (with_reducible apply z40; intro hc)
  | (apply z49; exact rfl)
 all_goals (refine cb ?_; simp [zo9]; omega)
theorem qk4 (c : UInt8) : Rets Vv 114 [.c (bC c)] (.c (.bool (q06 c))) := by
 refine z35 wq6 ?_
 repeat' first
  | apply z01
  | exact z17
  | exact z30 rfl
  | (apply z12; exact rfl; exact rfl)
  | (apply z23; (iterate 3 exact rfl))
  | (apply z09; exact rfl; (with_reducible rfl); exact rfl)
  | (apply z13; exact rfl; (with_reducible rfl); exact rfl)
  | (apply z08 (hc := qh5 c); exact rfl; exact rfl; exact rfl)
  | apply z03
  | apply z00
  | apply z02
  | apply z07
  | (apply z39; exact rfl; (with_reducible rfl))
  | (apply z29; exact rfl; (with_reducible rfl))
  | (apply z32; exact rfl; (with_reducible rfl))
  | (apply z90; exact rfl)
  | (apply z28; exact rfl)
  | (with_reducible apply z56; intro hc)
  | (with_reducible apply z40; intro hc)
  | (with_reducible apply zg9; intro hc)
  | (apply z49; exact rfl)
 all_goals (refine cb ?_; simp [q06, *])
 all_goals omega
theorem qu8 (c : UInt8) : Rets Vv 116 [.c (bC c)] (.c (.bool (symB c))) := by
 refine z35 wl3 ?_
 repeat' first
  | apply z01
  | exact z17
  | (apply z12; exact rfl; exact rfl)
  | (apply z23; (iterate 3 exact rfl))
  | (apply z08 (hc := ju8 symS c); exact rfl; exact rfl; exact rfl)
  | apply z03
  | apply z00
  | apply z02
  | apply z07
  | (apply z49; exact rfl)
 rw [jg3]
 rfl
def wcB (c : UInt8) : Bool := q06 c || zo9 c || c == 95 || c == 39
def wsB (c : UInt8) : Bool := q06 c || c == 95
def zl7 (s : List UInt8) : Bool := match s[0]? with
 | none => false
 | some c => decide (s.length ≤ 64) && wsB c && s.all wcB
theorem u8eq {c : UInt8} {n : Nat} (hn : n < 256) : ((c.toNat : Int) = (n : Int)) ↔ c = UInt8.ofNat n := by
 constructor
 · intro h
   have h1 : c.toNat = n := by omega
   apply UInt8.toNat_inj.1
   rw [h1]
   simp
   omega
 · intro h
   subst h
   simp
   omega
theorem tk0 {α : Type} {s : List α} {p : α → Bool} : (s.take 0).all p = true := by simp
theorem tkS {α : Type} {s : List α} {p : α → Bool} {n : Nat} (h : n < s.length) (h1 : (s.take n).all p = true) (h2 : p s[n] = true) : (s.take (n + 1)).all p = true := by
 rw [List.take_add_one, List.all_append, h1, List.getElem?_eq_getElem h]
 simpa using h2
theorem tkE {α : Type} {s : List α} {p : α → Bool} {n : Nat} (h : s.length ≤ n) (h1 : (s.take n).all p = true) : s.all p = true := by rwa [List.take_of_length_le h] at h1
theorem tkF {α : Type} {s : List α} {p : α → Bool} {n : Nat} (h : n < s.length) (h2 : p s[n] = false) : s.all p = false := by
 rw [List.all_eq_false]
 exact ⟨s[n], List.getElem_mem h, by rw [h2]; simp⟩
set_option maxHeartbeats 2000000
theorem qd8 (s : List UInt8) (hl : s.length < 2^60) : Rets Vv 89 [.c (.str s)] (.c (.bool (zl7 s))) := by
 refine z35 wt0 ?_
 cases h0 : s[0]? with
 | none =>
   have : s = [] := by cases s <;> simp_all
   subst this
   repeat' first
    | apply z01
    | exact z17
    | exact z30 rfl
    | (apply z12; exact rfl; exact rfl)
    | (apply z23; (iterate 3 exact rfl))
    | (apply z27; exact rfl)
    | (apply z09; exact rfl; (with_reducible rfl); exact rfl)
    | (apply z13; exact rfl; (with_reducible rfl); exact rfl)
    | (apply z04; focus (repeat (exact z18)))
    | apply z03
    | apply z00
    | apply z02
    | apply z07
    | (apply z38; exact rfl; (with_reducible rfl))
    | (apply z39; exact rfl; (with_reducible rfl))
    | (apply z32; exact rfl; (with_reducible rfl))
    | (apply z90; exact rfl)
    | (apply z28; exact rfl)
    | (with_reducible apply zb1; intro hc)
    | (with_reducible apply z69; intro hc)
    | (with_reducible apply z56; intro hc)
    | (with_reducible apply z40; intro hc)
    | (apply z49; exact rfl)
   all_goals first
    | rfl
    | (exfalso; simp_all; done)
 | some c =>
   have hne : s ≠ [] := by intro e; rw [e] at h0; cases h0
   repeat' first
    | apply z01
    | exact z17
    | exact z30 rfl
    | (apply z12; exact rfl; exact rfl)
    | (apply z23; (iterate 3 exact rfl))
    | (apply z27; exact rfl)
    | (apply za8; exact rfl; exact rfl)
    | (apply z09; exact rfl; (with_reducible rfl); exact rfl)
    | (apply z13; exact rfl; (with_reducible rfl); exact rfl)
    | (apply za2; (iterate 3 exact rfl); assumption)
    | (apply z08 (hc := qk4 c); exact rfl; exact rfl; exact rfl)
    | (apply z04; focus (repeat (first | exact z18 | (apply kq_c; exact rfl))))
    | apply z03
    | apply z00
    | apply z02
    | apply z05
    | apply z06
    | apply z07
    | (apply z38; exact rfl; (with_reducible rfl))
    | (apply z34; exact rfl; (with_reducible rfl))
    | (apply z15; exact rfl)
    | (apply z39; exact rfl; (with_reducible rfl))
    | (apply z29; exact rfl; (with_reducible rfl))
    | (apply z32; exact rfl; (with_reducible rfl))
    | (apply z90; exact rfl)
    | (apply z28; exact rfl)
    | with_reducible apply z50
    | with_reducible apply z52
    | (with_reducible apply zb1; intro hc)
    | (with_reducible apply z69; intro hc)
    | (with_reducible apply zc9; intro hc)
    | (with_reducible apply z97; intro hc)
    | (with_reducible apply z56; intro hc)
    | (with_reducible apply z40; intro hc)
    | (with_reducible apply zg9; intro hc)
    | (apply z49; exact rfl)
   any_goals contradiction
   any_goals (refine cb ?_; simp [zl7, h0]; omega)
   any_goals (refine cb ?_; simp [zl7, wsB, h0, ← UInt8.toNat_inj, *]; omega)
   any_goals
    refine z93 (fun n : Nat => [(0, .c (.str s)), (3, .c (.int .i64 n))]) (fun n => n ≤ s.length ∧ (s.take n).all wcB = true) (fun n => s.length - n) 0 ?_ ⟨by omega, tk0⟩ ?_
    · repeat' first
       | exact z18
       | refine z47 rfl ?_
    rintro n ⟨hn, hall⟩
    repeat' first
     | apply z01
     | exact z17
     | exact z30 rfl
     | (apply z12; exact rfl; exact rfl)
     | (apply z88; exact rfl; exact rfl; omega)
     | (apply z23; (iterate 3 exact rfl))
     | (apply z27; exact rfl)
     | (apply za8; exact rfl; exact rfl)
     | (apply z09; exact rfl; (with_reducible rfl); exact rfl)
     | (apply z13; exact rfl; (with_reducible rfl); exact rfl)
     | (apply za2; (iterate 3 exact rfl); exact List.getElem?_eq_getElem (by omega))
     | (apply z08 (hc := qk4 s[n]); exact rfl; exact rfl; exact rfl)
     | (apply z08 (hc := jr3 s[n]); exact rfl; exact rfl; exact rfl)
     | (apply z04; focus (repeat (first | exact z18 | (apply kq_c; exact rfl))))
     | apply z03
     | apply z00
     | apply z02
     | apply z05
     | apply z06
     | apply z07
     | apply z42
     | (apply z34; exact rfl; (with_reducible rfl))
     | (apply z15; exact rfl)
     | (apply z39; exact rfl; (with_reducible rfl))
     | (apply z29; exact rfl; (with_reducible rfl))
     | (apply z28; exact rfl)
     | with_reducible apply z50
     | with_reducible apply z52
     | (with_reducible apply zc9; intro hc)
     | (with_reducible apply z97; intro hc)
     | (with_reducible apply z56; intro hc)
     | (with_reducible apply z40; intro hc)
     | (with_reducible apply zg9; intro hc)
     | (apply z49; exact rfl)
    any_goals
     refine ⟨n + 1, ?_, rfl, ⟨by omega, tkS (by omega) hall ?_⟩, by omega⟩
     · repeat' first
        | exact z18
        | refine z47 rfl ?_
     · simp [wcB, ← UInt8.toNat_inj, *] <;> omega
    any_goals
     refine cb ?_
     simp only [zl7, h0]
     first
     | (rw [tkF (p := wcB) (n := n) (by omega) (by simp [wcB, ← UInt8.toNat_inj, *] <;> omega)]; simp; done)
     | (rw [tkE (by omega) hall]; simp [wsB, ← UInt8.toNat_inj, *] <;> omega)
end Go.Proofs.TryzL
namespace Go.Proofs.TryzL
open Go.Proofs.Lz
theorem qs6 (s : List UInt8) : Rets Vv 129 [.c (.str s)] (.c (.bool (rsymL.contains s))) := by
 refine z35 wi3 ?_
 repeat' first
  | apply z01
  | exact z17
  | (apply z12; exact rfl; exact rfl)
  | (apply z23; (iterate 3 exact rfl))
  | (apply z04; focus (repeat (first | exact z18 | (apply kq_c; exact rfl))))
  | apply z03
  | apply z00
  | apply z02
  | apply z05
  | apply z06
  | apply z07
  | (apply z38; exact rfl; (with_reducible rfl))
  | (apply z15; exact rfl)
  | (with_reducible apply zb1; intro hc)
  | (with_reducible apply z69; intro hc)
  | (apply z49; exact rfl)
 all_goals (refine cb ?_; simp_all [rsymL])
theorem qt5 (s : List UInt8) : Rets Vv 126 [.c (.str s)] (.c (.bool (rwordL.contains s))) := by
 refine z35 wl7 ?_
 repeat' first
  | apply z01
  | exact z17
  | (apply z12; exact rfl; exact rfl)
  | (apply z23; (iterate 3 exact rfl))
  | (apply z04; focus (repeat (first | exact z18 | (apply kq_c; exact rfl))))
  | apply z03
  | apply z00
  | apply z02
  | apply z05
  | apply z06
  | apply z07
  | (apply z38; exact rfl; (with_reducible rfl))
  | (apply z15; exact rfl)
  | (with_reducible apply zb1; intro hc)
  | (with_reducible apply z69; intro hc)
  | (apply z49; exact rfl)
 all_goals (refine cb ?_; simp_all [rwordL])
end Go.Proofs.TryzL
namespace Go.Proofs.TryzL
open Go.Proofs.Lz
def zc6 (s : List UInt8) : Bool := match s[0]? with
 | none => false
 | some _ => decide (s.length ≤ 64) && s.all symB && (decide (s.length = 1) || decide (s.count 45 < s.length))
theorem ctS {s : List UInt8} {n : Nat} (h : n < s.length) : (s.take (n + 1)).count 45 = (s.take n).count 45 + (if s[n] = 45 then 1 else 0) := by
 rw [List.take_add_one, List.count_append, List.getElem?_eq_getElem h]
 by_cases e : s[n] = 45
 · simp [e]
 · simp [e, List.count_cons]
theorem q36 (s : List UInt8) (hl : s.length < 2^60) : Rets Vv 91 [.c (.str s)] (.c (.bool (zc6 s))) := by
 refine z35 wr2 ?_
 cases h0 : s[0]? with
 | none =>
   have : s = [] := by cases s <;> simp_all
   subst this
   repeat' first
    | apply z01
    | exact z17
    | (apply z12; exact rfl; exact rfl)
    | apply z03
    | apply z00
    | apply z02
   refine qc0 (fun _ : Unit => []) (fun _ _ => False) (fun _ => 0) ?_ (fun _ _ h => h.elim)
   repeat' first
    | apply z01
    | exact z17
    | exact z30 rfl
    | (apply z12; exact rfl; exact rfl)
    | (apply z23; (iterate 3 exact rfl))
    | (apply z27; exact rfl)
    | (apply z09; exact rfl; (with_reducible rfl); exact rfl)
    | (apply z13; exact rfl; (with_reducible rfl); exact rfl)
    | (apply z04; focus (repeat (first | exact z18 | (apply kq_c; exact rfl))))
    | apply z03
    | apply z00
    | apply z02
    | apply z05
    | apply z06
    | apply z07
    | apply qc3
    | (apply z38; exact rfl; (with_reducible rfl))
    | (apply z15; exact rfl)
    | (apply z39; exact rfl; (with_reducible rfl))
    | (apply z32; exact rfl; (with_reducible rfl))
    | (apply z28; exact rfl)
    | (with_reducible apply zb1; intro hc)
    | (with_reducible apply z69; intro hc)
    | (with_reducible apply z56; intro hc)
    | (with_reducible apply z40; intro hc)
    | (apply z49; exact rfl)
   all_goals first
    | rfl
    | (exfalso; simp_all; done)
 | some c =>
   have hne : s ≠ [] := by intro e; rw [e] at h0; cases h0
   have hlen : 0 < s.length := by cases s <;> simp_all
   repeat' first
    | apply z01
    | exact z17
    | (apply z12; exact rfl; exact rfl)
    | apply z03
    | apply z00
    | apply z02
   refine qc0 (fun _ : Unit => []) (fun _ _ => False) (fun _ => 0) ?_ (fun _ _ h => h.elim)
   repeat' first
    | apply z01
    | exact z17
    | exact z30 rfl
    | (apply z12; exact rfl; exact rfl)
    | (apply z23; (iterate 3 exact rfl))
    | (apply z27; exact rfl)
    | (apply z09; exact rfl; (with_reducible rfl); exact rfl)
    | (apply z13; exact rfl; (with_reducible rfl); exact rfl)
    | (apply z04; focus (repeat (first | exact z18 | (apply kq_c; exact rfl))))
    | apply z03
    | apply z00
    | apply z02
    | apply z05
    | apply z06
    | apply z07
    | apply qc3
    | (apply z38; exact rfl; (with_reducible rfl))
    | (apply z15; exact rfl)
    | (apply z39; exact rfl; (with_reducible rfl))
    | (apply z32; exact rfl; (with_reducible rfl))
    | (apply z28; exact rfl)
    | (with_reducible apply zb1; intro hc)
    | (with_reducible apply z69; intro hc)
    | (with_reducible apply z56; intro hc)
    | (with_reducible apply z40; intro hc)
    | (apply z49; exact rfl)
   any_goals contradiction
   any_goals (refine cb ?_; simp [zc6, h0]; omega)
   any_goals
    refine z93 (fun n : Nat => [(0, .c (.str s)), (3, .c (.int .i64 ((s.take n).count 45 : Nat))), (4, .c (.int .i64 n))]) (fun n => n ≤ s.length ∧ (s.take n).all symB = true) (fun n => s.length - n) 0 ?_ ⟨by omega, tk0⟩ ?_
    · repeat' first
       | exact z18
       | refine z47 rfl ?_
    rintro n ⟨hn, hall⟩
    have hcn : (s.take n).count 45 ≤ n := by have := List.count_le_length (a := (45 : UInt8)) (l := s.take n); rw [List.length_take] at this; omega
    by_cases hns : n < s.length
    · repeat' first
       | apply z01
       | exact z17
       | exact z30 rfl
       | (apply z12; exact rfl; exact rfl)
       | (apply z88; exact rfl; exact rfl; omega)
       | (apply z23; (iterate 3 exact rfl))
       | (apply z27; exact rfl)
       | (apply za8; exact rfl; exact rfl)
       | (apply z09; exact rfl; (with_reducible rfl); exact rfl)
       | (apply z13; exact rfl; (with_reducible rfl); exact rfl)
       | (apply za2; (iterate 3 exact rfl); exact List.getElem?_eq_getElem (by omega))
       | (apply z08 (hc := qu8 s[n]); exact rfl; exact rfl; exact rfl)
       | (apply z04; focus (repeat (first | exact z18 | (apply kq_c; exact rfl))))
       | apply z03
       | apply z00
       | apply z02
       | apply z05
       | apply z06
       | apply z07
       | apply z42
       | (apply z15; exact rfl)
       | (apply z39; exact rfl; (with_reducible rfl))
       | (apply z32; exact rfl; (with_reducible rfl))
       | (apply z28; exact rfl)
       | with_reducible apply z50
       | with_reducible apply z52
       | (with_reducible apply z96; intro hc)
       | (with_reducible apply z62; intro hc)
       | (with_reducible apply zg9; intro hc)
       | (apply z49; exact rfl)
      any_goals omega
      any_goals
       refine ⟨n + 1, ?_, rfl, ⟨by omega, tkS (by omega) hall ?_⟩, by omega⟩
       · rw [ctS hns]
         have e1 : (s[n] = 45) ↔ ((s[n].toNat : Int) = 45) := by rw [← UInt8.toNat_inj]; simp; omega
         simp only [e1, *, if_true, if_false]
         repeat' first
          | exact z18
          | refine z47 rfl ?_
       · simp [*]
      any_goals
       refine cb ?_
       simp only [zc6, h0]
       rw [tkF (p := symB) (n := n) hns (by simp [*])]
       simp
    · have hnl : n = s.length := by omega
      subst hnl
      repeat' first
       | apply z01
       | exact z17
       | exact z30 rfl
       | (apply z12; exact rfl; exact rfl)
       | (apply z23; (iterate 3 exact rfl))
       | (apply z27; exact rfl)
       | (apply z09; exact rfl; (with_reducible rfl); exact rfl)
       | (apply z13; exact rfl; (with_reducible rfl); exact rfl)
       | (apply za2; (iterate 3 exact rfl); exact List.getElem?_eq_getElem (by omega))
       | (apply z04; focus (repeat (first | exact z18 | (apply kq_c; exact rfl))))
       | apply z03
       | apply z00
       | apply z02
       | apply z05
       | apply z06
       | apply z07
       | apply z42
       | (apply z15; exact rfl)
       | (apply z39; exact rfl; (with_reducible rfl))
       | (apply z32; exact rfl; (with_reducible rfl))
       | (apply z28; exact rfl)
       | (with_reducible apply z96; intro hc)
       | (with_reducible apply z62; intro hc)
       | (apply z49; exact rfl)
      any_goals omega
      all_goals
       refine cb ?_
       simp only [zc6, h0]
       rw [List.take_length] at hall
       simp [*, List.take_length]
       try omega
end Go.Proofs.TryzL
namespace Go.Proofs.TryzL
open Go.Proofs.Lz
def qg3 (s : List UInt8) : Bool := (zl7 s && !rwordL.contains s) || (zc6 s && !rsymL.contains s)
theorem qp0 (s : List UInt8) (hl : s.length < 2^60) : Rets Vv 161 [.c (.str s)] (.c (.bool (qg3 s))) := by
 refine z35 wl1 ?_
 repeat' first
  | apply z01
  | exact z17
  | exact z30 rfl
  | (apply z12; exact rfl; exact rfl)
  | (apply za8; exact rfl; exact rfl)
  | (apply z09; exact rfl; (with_reducible rfl); exact rfl)
  | (apply z13; exact rfl; (with_reducible rfl); exact rfl)
  | (apply z08 (hc := qd8 s hl); exact rfl; exact rfl; exact rfl)
  | (apply z08 (hc := zh5 s); exact rfl; exact rfl; exact rfl)
  | (apply z08 (hc := q36 s hl); exact rfl; exact rfl; exact rfl)
  | (apply z08 (hc := zf2 s); exact rfl; exact rfl; exact rfl)
  | apply z03
  | apply z00
  | apply z02
  | apply z07
  | (apply z39; exact rfl; (with_reducible rfl))
  | (apply z29; exact rfl; (with_reducible rfl))
  | (apply z32; exact rfl; (with_reducible rfl))
  | (apply z90; exact rfl)
  | (apply z28; exact rfl)
  | with_reducible apply z50
  | with_reducible apply z52
  | (with_reducible apply zg9; intro hc)
  | (apply z49; exact rfl)
 all_goals (simp only [qg3, *]; rfl)
def q10 (s : List UInt8) : Bool := match s[0]? with
 | none => false
 | some c => upperB c
def jy0 (m n : List UInt8) : List UInt8 := if zl7 m && q10 m && qg3 n then m ++ [46] ++ n else []
theorem wc5 (m n : List UInt8) (hm : m.length < 2^59) (hn : n.length < 2^59) : Rets Vv 174 [.c (.str m), .c (.str n)] (.c (.str (jy0 m n))) := by
 refine z35 wn7 ?_
 cases h0 : m[0]? with
 | none =>
   have hw : zl7 m = false := by simp [zl7, h0]
   repeat' first
    | apply z01
    | exact z17
    | exact z30 rfl
    | (apply z12; exact rfl; exact rfl)
    | (apply za8; exact rfl; exact rfl)
    | (apply z09; exact rfl; (with_reducible rfl); exact rfl)
    | (apply z08 (hc := qd8 m (by omega)); exact rfl; exact rfl; exact rfl)
    | (apply z04; focus (repeat (exact z18)))
    | apply z03
    | apply z00
    | apply z02
    | apply z07
    | (apply z38; exact rfl; (with_reducible rfl))
    | (apply z39; exact rfl; (with_reducible rfl))
    | (apply z32; exact rfl; (with_reducible rfl))
    | (apply z28; exact rfl)
    | with_reducible apply z50
    | with_reducible apply z52
    | (with_reducible apply zg9; intro hc)
    | (apply z49; exact rfl)
   all_goals first
    | (congr 1; simp [jy0, *]; done)
    | (exfalso; simp_all; done)
 | some c =>
   repeat' first
    | apply z01
    | exact z17
    | exact z30 rfl
    | (apply z12; exact rfl; exact rfl)
    | (apply zg3; exact rfl; exact rfl; (simp only [List.length_map, List.length_cons, List.length_nil, List.length_append, List.length_replicate]; omega))
    | (apply za8; exact rfl; exact rfl)
    | (apply z09; exact rfl; (with_reducible rfl); exact rfl)
    | (apply z13; exact rfl; (with_reducible rfl); exact rfl)
    | (apply za2; (iterate 3 exact rfl); assumption)
    | (apply z08 (hc := qd8 m (by omega)); exact rfl; exact rfl; exact rfl)
    | (apply z08 (hc := qp0 n (by omega)); exact rfl; exact rfl; exact rfl)
    | (apply z08 (hc := qh5 c); exact rfl; exact rfl; exact rfl)
    | (apply z04; focus (repeat (first | exact z18 | (apply kq_c; exact rfl))))
    | apply z03
    | apply z00
    | apply z02
    | apply z06
    | apply z07
    | (apply z38; exact rfl; (with_reducible rfl))
    | (apply z15; exact rfl)
    | (apply z39; exact rfl; (with_reducible rfl))
    | (apply z32; exact rfl; (with_reducible rfl))
    | (apply z28; exact rfl)
    | with_reducible apply z50
    | with_reducible apply z52
    | (with_reducible apply zg9; intro hc)
    | (apply z49; exact rfl)
   all_goals first
    | (congr 1; simp [jy0, q10, *]; done)
    | (exfalso; simp_all; done)
def j50 (s : List UInt8) : Option (List UInt8 × List UInt8) := if (Lib.cut s [46]).2.2 && !(jy0 (Lib.cut s [46]).1 (Lib.cut s [46]).2.1 == []) then some ((Lib.cut s [46]).1, (Lib.cut s [46]).2.1) else none
def splitV (o : Option (List UInt8 × List UInt8)) : WV := match o with
 | none => .tup [.c (.str []), .c (.str []), .c (.bool false)]
 | some p => .tup [.c (.str p.1), .c (.str p.2), .c (.bool true)]
theorem jx8 (s : List UInt8) (h : s.length < 2^31) : Rets Vv 173 [.c (.str s), .c (.str [46])] (.tup [.c (.str (Lib.cut s [46]).1), .c (.str (Lib.cut s [46]).2.1), .c (.bool (Lib.cut s [46]).2.2)]) :=
 zw4 (V := Vv) (f := 173) (xs := [.str s, .str [46]]) (us := [.str (Lib.cut s [46]).1, .str (Lib.cut s [46]).2.1, .bool (Lib.cut s [46]).2.2]) (g := cutG) rfl rfl (by simp only [cutG]; rw [if_pos (by omega)]) (by simp)
theorem w74 (s : List UInt8) : (Lib.cut s [46]).1.length ≤ s.length ∧ (Lib.cut s [46]).2.1.length ≤ s.length := by
 unfold Lib.cut
 split
 · simp; omega
 · simp
theorem j49 (s : List UInt8) (hl : s.length < 2^31) : Rets Vv 160 [.c (.str s)] (splitV (j50 s)) := by
 refine z35 wf2 ?_
 obtain ⟨l1, l2⟩ := w74 s
 repeat' first
  | apply z01
  | exact z17
  | exact z30 rfl
  | (apply z12; exact rfl; exact rfl)
  | (apply z23; (iterate 3 exact rfl))
  | (apply za8; exact rfl; exact rfl)
  | (apply z09; exact rfl; (with_reducible rfl); exact rfl)
  | (apply z13; exact rfl; (with_reducible rfl); exact rfl)
  | (apply z94; (iterate 3 exact rfl))
  | (apply zi9; exact rfl; exact rfl)
  | (apply z08 (hc := jx8 s hl); exact rfl; exact rfl; exact rfl)
  | (apply z08 (hc := wc5 (Lib.cut s [46]).1 (Lib.cut s [46]).2.1 (by omega) (by omega)); exact rfl; exact rfl; exact rfl)
  | (apply z04; focus (repeat (first | exact z18 | (apply kq_c; exact rfl))))
  | apply z03
  | apply z00
  | apply z02
  | apply z06
  | apply z07
  | (apply z38; exact rfl; (with_reducible rfl))
  | (apply z15; exact rfl)
  | (apply z39; exact rfl; (with_reducible rfl))
  | (apply z32; exact rfl; (with_reducible rfl))
  | (apply z28; exact rfl)
  | with_reducible apply z50
  | with_reducible apply z52
  | (with_reducible apply zb1; intro hc)
  | (with_reducible apply z69; intro hc)
  | (with_reducible apply zg9; intro hc)
  | (apply qj8; (exact ShI.c rfl); (exact ShI.c rfl); (exact ShI.c rfl); (exact by decide))
 all_goals (simp [j50, splitV, *])
def qj4 (s : List UInt8) : Bool := (j50 s).isSome || qg3 s
theorem jk2 (s : List UInt8) (hl : s.length < 2^31) : Rets Vv 139 [.c (.str s)] (.c (.bool (qj4 s))) := by
 refine z35 wl0 ?_
 cases h : j50 s with
 | none =>
   have hs : Rets Vv 160 [.c (.str s)] (.tup [.c (.str []), .c (.str []), .c (.bool false)]) := by have := j49 s hl; rw [h] at this; exact this
   repeat' first
    | apply z01
    | exact z17
    | exact z30 rfl
    | (apply z12; exact rfl; exact rfl)
    | (apply z13; exact rfl; (with_reducible rfl); exact rfl)
    | (apply z94; (iterate 3 exact rfl))
    | (apply zi9; exact rfl; exact rfl)
    | (apply z08 (hc := hs); exact rfl; exact rfl; exact rfl)
    | (apply z08 (hc := qp0 s (by omega)); exact rfl; exact rfl; exact rfl)
    | apply z03
    | apply z00
    | apply z02
    | apply z07
    | (apply z39; exact rfl; (with_reducible rfl))
    | (apply z49; exact rfl)
   all_goals (simp only [qj4, h]; rfl)
 | some p =>
   have hs : Rets Vv 160 [.c (.str s)] (.tup [.c (.str p.1), .c (.str p.2), .c (.bool true)]) := by have := j49 s hl; rw [h] at this; exact this
   repeat' first
    | apply z01
    | exact z17
    | exact z30 rfl
    | (apply z12; exact rfl; exact rfl)
    | (apply z09; exact rfl; (with_reducible rfl); exact rfl)
    | (apply z94; (iterate 3 exact rfl))
    | (apply zi9; exact rfl; exact rfl)
    | (apply z08 (hc := hs); exact rfl; exact rfl; exact rfl)
    | apply z03
    | apply z00
    | apply z02
    | apply z07
    | (apply z32; exact rfl; (with_reducible rfl))
    | (apply z49; exact rfl)
   all_goals (simp only [qj4, h]; rfl)
def jy5 (b : List UInt8) (n : Int) : List UInt8 := if decide (0 ≤ n) && qj4 b then b ++ [36] ++ Lib.itoa n else []
theorem qn3 (n : Int) (h : -9223372036854775808 ≤ n ∧ n ≤ 9223372036854775807) : Rets Vv 81 [.c (.int .i64 n)] (.c (.str (Lib.itoa n))) :=
 zr1 (V := Vv) (f := 81) (xs := [.int .i64 n]) (u := .str (Lib.itoa n)) (g := jf7) rfl rfl (by simp only [jf7]; rw [if_pos h])
theorem wb8 (b : List UInt8) (n : Int) (hl : b.length < 2^31) (hn : -9223372036854775808 ≤ n ∧ n ≤ 9223372036854775807) : Rets Vv 119 [.c (.str b), .c (.int .i64 n)] (.c (.str (jy5 b n))) := by
 refine z35 wl8 ?_
 have hi := Lib.itoa_length_le n hn.1 hn.2
 repeat' first
  | apply z01
  | exact z17
  | exact z30 rfl
  | (apply z12; exact rfl; exact rfl)
  | (apply zg3; exact rfl; exact rfl; (simp only [List.length_map, List.length_cons, List.length_nil, List.length_append, List.length_replicate]; omega))
  | (apply z23; (iterate 3 exact rfl))
  | (apply za8; exact rfl; exact rfl)
  | (apply z09; exact rfl; (with_reducible rfl); exact rfl)
  | (apply z13; exact rfl; (with_reducible rfl); exact rfl)
  | (apply z08 (hc := jk2 b hl); exact rfl; exact rfl; exact rfl)
  | (apply z08 (hc := qn3 n hn); exact rfl; exact rfl; exact rfl)
  | (apply z04; focus (repeat (first | exact z18 | (apply kq_c; exact rfl))))
  | apply z03
  | apply z00
  | apply z02
  | apply z06
  | apply z07
  | (apply z38; exact rfl; (with_reducible rfl))
  | (apply z15; exact rfl)
  | (apply z39; exact rfl; (with_reducible rfl))
  | (apply z32; exact rfl; (with_reducible rfl))
  | (apply z28; exact rfl)
  | with_reducible apply z50
  | with_reducible apply z52
  | (with_reducible apply z56; intro hc)
  | (with_reducible apply z40; intro hc)
  | (with_reducible apply zg9; intro hc)
  | (apply z49; exact rfl)
 all_goals first
  | (have : ¬ 0 ≤ n := by omega
     simp [jy5, *]; done)
  | (have : 0 ≤ n := by omega
     simp [jy5, *]; done)
theorem last_call (s : List UInt8) (h : s.length < 2^31) : Rets Vv 117 [.c (.str s), .c (.int .u8 36)] (.c (.int .i64 (Lib.lastIndexByte ⟨s.toArray⟩ 36))) :=
 zr1 (V := Vv) (f := 117) (xs := [.str s, .int .u8 36]) (u := .int .i64 (Lib.lastIndexByte ⟨s.toArray⟩ 36)) (g := jc1) rfl rfl (by simp only [jc1]; rw [if_pos (by omega)])
theorem w90 (s : List UInt8) : -1 ≤ Lib.lastIndexByte ⟨s.toArray⟩ 36 ∧ Lib.lastIndexByte ⟨s.toArray⟩ 36 < s.length := by
 have h := Lib.lastIndexByte_spec ⟨s.toArray⟩ 36
 have hsz : (⟨s.toArray⟩ : ByteArray).size = s.length := by simp [ByteArray.size]
 rcases h with ⟨h, _⟩ | ⟨i, h1, h2, _⟩
 · rw [h]; omega
 · rw [h2]; rw [hsz] at h1; omega
def qx1 (s : List UInt8) : WV := match Lib.atoiAll s with
 | .ok v => .tup [.c (.int .i64 v), .c .nili]
 | .range => .tup [.c (.int .i64 (Lib.atoiSat s)), .c .opq]
 | _ => .tup [.c (.int .i64 0), .c .opq]
theorem jg2 (s : List UInt8) (h : s.length < 2^31) : Rets Vv 118 [.c (.str s)] (qx1 s) := by
 cases ha : Lib.atoiAll s with
 | ok v =>
   simp only [qx1, ha]
   exact zw4 (V := Vv) (f := 118) (xs := [.str s]) (us := [.int .i64 v, .nili]) (g := qj2) rfl rfl (by simp only [qj2, ha]; rw [if_pos (by omega)]) (by simp)
 | range =>
   simp only [qx1, ha]
   exact zw4 (V := Vv) (f := 118) (xs := [.str s]) (us := [.int .i64 (Lib.atoiSat s), .opq]) (g := qj2) rfl rfl (by simp only [qj2, ha]; rw [if_pos (by omega)]) (by simp)
 | _ =>
   simp only [qx1, ha]
   exact zw4 (V := Vv) (f := 118) (xs := [.str s]) (us := [.int .i64 0, .opq]) (g := qj2) rfl rfl (by simp only [qj2, ha]; rw [if_pos (by omega)]) (by simp)
end Go.Proofs.TryzL
