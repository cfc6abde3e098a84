/- Chapter 02: the reference's literals. -/
import Derived.Test.YtencoceemejcnaaGreatDoorLzT15
set_option linter.unusedSimpArgs false
set_option linter.unusedVariables false
namespace Go.Proofs.TryzL
open Go.Proofs.Lz
set_option maxHeartbeats 4000000
def hexD : List UInt8 := [48, 49, 50, 51, 52, 53, 54, 55, 56, 57, 97, 98, 99, 100, 101, 102]
def hexd (n : Nat) : UInt8 := hexD.getD n 0
theorem q38 {n : Nat} (h : n < 16) : hexD[n]? = some (hexd n) := by
 have : n < hexD.length := h
 simp [hexd, List.getD, List.getElem?_eq_getElem this]
def escB (c m : UInt8) : List UInt8 := if c = 10 then [92, 110] else if c = 9 then [92, 116] else if c = 92 ∨ c = m then [92, c] else if 32 ≤ c.toNat ∧ c.toNat ≤ 126 then [c] else [92, 120, hexd (c.toNat / 16), hexd (c.toNat % 16)]
theorem qo9 {H : z16} {xs : List CV} (c m : UInt8) (hl : xs.length < 2^40) : Shr Vv 50 [.own true 5 none xs, .c (bC c), .c (bC m)] H (.own true 5 none (xs ++ bytesV (escB c m))) (fun H' => H' = H) := by
 refine q67 wr9 ?_
 have hh1 : ([48, 49, 50, 51, 52, 53, 54, 55, 56, 57, 97, 98, 99, 100, 101, 102] : List UInt8)[c.toNat / 16]? = some (hexd (c.toNat / 16)) := q38 (by have := c.toNat_lt; omega)
 have hh2 : ([48, 49, 50, 51, 52, 53, 54, 55, 56, 57, 97, 98, 99, 100, 101, 102] : List UInt8)[c.toNat % 16]? = some (hexd (c.toNat % 16)) := q38 (by omega)
 repeat' first
  | apply z01
  | exact z17
  | exact z30 rfl
  | exact zd9 rfl rfl
  | (apply z12; exact rfl; exact rfl)
  | (apply wc1; exact rfl; exact rfl)
  | (apply jv7; exact rfl; exact rfl)
  | (apply z23; (iterate 3 exact rfl))
  | (apply z09; exact rfl; (with_reducible rfl); exact rfl)
  | (apply z13; exact rfl; (with_reducible rfl); exact rfl)
  | (apply za2; (iterate 3 exact rfl); assumption)
  | (apply qc8; (iterate 6 exact rfl))
  | (apply j63; exact rfl; exact rfl)
  | (apply zy0; (iterate 3 exact rfl))
  | (apply q00; (iterate 3 exact rfl))
  | (apply zn2; exact rfl; exact rfl; (simp only [List.length_map, List.length_cons, List.length_nil, List.length_append, List.length_replicate]; omega))
  | (apply z04; focus (repeat (first | exact z18 | (apply kq_c; exact rfl) | (apply jn7; exact rfl; exact rfl))))
  | apply z03
  | apply z00
  | apply z02
  | apply z05
  | apply z06
  | apply z07
  | apply zn4
  | apply qh6
  | (apply z38; exact rfl; (with_reducible rfl))
  | (apply z34; exact rfl; (with_reducible rfl))
  | (apply z15; exact rfl)
  | (apply z39; exact rfl; (with_reducible rfl))
  | (apply z29; exact rfl; (with_reducible rfl))
  | (apply z32; exact rfl; (with_reducible rfl))
  | (apply z28; exact rfl)
  | (apply qu5; (exact rfl))
  | (with_reducible apply z96; intro hc)
  | (with_reducible apply z62; intro hc)
  | (with_reducible apply z56; intro hc)
  | (with_reducible apply z40; intro hc)
  | (apply qi4; exact rfl)
  | (apply w99; exact rfl)
  | (apply w38)
  | (apply dand; exact rfl)
 all_goals refine wo8 rfl ?_ rfl
 all_goals have e10 : ((c.toNat : Int) = 10) ↔ c = 10 := u8eq (n := 10) (by decide)
 all_goals have e9 : ((c.toNat : Int) = 9) ↔ c = 9 := u8eq (n := 9) (by decide)
 all_goals have e92 : ((c.toNat : Int) = 92) ↔ c = 92 := u8eq (n := 92) (by decide)
 all_goals have em : ((c.toNat : Int) = (m.toNat : Int)) ↔ c = m := u8i
 all_goals have e32 : ((32 : Int) ≤ c.toNat) ↔ 32 ≤ c.toNat := by omega
 all_goals have e126 : ((c.toNat : Int) ≤ 126) ↔ c.toNat ≤ 126 := by omega
 all_goals simp only [e10, e9, e92, em, e32, e126] at *
 all_goals clear hh1 hh2 hl
 all_goals first
  | (subst c; rfl)
  | (subst m; simp only [escB, *, if_true, if_false, or_true, true_or, or_self, and_self, not_false_eq_true, reduceIte]; rfl)
  | (simp only [escB, *, if_true, if_false, or_true, true_or, or_self, and_self, and_true, true_and, and_false, false_and, not_false_eq_true, reduceIte]; rfl)
theorem q86 (c m : UInt8) : (escB c m).length ≤ 4 := by
 unfold escB
 repeat' split
 all_goals simp
def escS (s : List UInt8) (m : UInt8) : List UInt8 := s.flatMap (escB · m)
theorem zw2 (s : List UInt8) (m : UInt8) : (escS s m).length ≤ 4 * s.length := by
 induction s with
 | nil => simp [escS]
 | cons c r ih =>
   have := q86 c m
   simp only [escS, List.flatMap_cons, List.length_append, List.length_cons] at *
   omega
theorem qr6 {s : List UInt8} {m : UInt8} {n : Nat} (h : n < s.length) : escS (s.take (n + 1)) m = escS (s.take n) m ++ escB s[n] m := by
 rw [List.take_add_one, List.getElem?_eq_getElem h]
 simp only [escS, List.flatMap_append, Option.toList, List.flatMap_cons, List.flatMap_nil, List.append_nil]
theorem zj3 (a b : List UInt8) : bytesV (a ++ b) = bytesV a ++ bytesV b := by simp [bytesV]
theorem zx1 : ∀ s : List UInt8, ze4 (bytesV s) = some s := by
 intro s
 induction s with
 | nil => rfl
 | cons c r ih =>
   show (match ze4 (bytesV r) with
    | some l => some (UInt8.ofNat (c.toNat : Int).toNat :: l)
    | none => none) = _
   rw [ih]
   simp
theorem w80 (s : List UInt8) (hl : s.length < 2^31) : Rets Vv 19 [.c (.str s)] (.c (.str ([34] ++ escS s 34 ++ [34]))) := by
 refine z35 wq9 ?_
 have hel := zw2 s 34
 repeat' first
  | apply z01
  | exact z17
  | exact zd9 rfl rfl
  | (apply z12; exact rfl; exact rfl)
  | (apply q73; (iterate 6 exact rfl))
  | (apply zy0; (iterate 3 exact rfl))
  | apply z03
  | apply z00
  | apply z02
  | apply z05
 refine z93 (fun n : Nat => [(0, .c (.str s)), (3, .own true 5 none (bytesV ([34] ++ escS (s.take n) 34))), (4, .c (.int .i64 n))]) (fun n => n ≤ s.length) (fun n => s.length - n) 0 ?_ (Nat.zero_le _) ?_
 · repeat' first
    | exact z18
    | refine z47 rfl ?_
 intro n hn
 have hen := zw2 (s.take n) 34
 rw [List.length_take] at hen
 have hbl : (bytesV ([34] ++ escS (s.take n) 34)).length < 2^40 := by simp [bytesV]; omega
 by_cases hns : n < s.length
 · repeat' first
    | apply z01
    | exact z17
    | exact z30 rfl
    | exact zd9 rfl rfl
    | (apply z12; exact rfl; exact rfl)
    | (apply z88; exact rfl; exact rfl; omega)
    | (apply z23; (iterate 3 exact rfl))
    | (apply z27; exact rfl)
    | (apply za2; (iterate 3 exact rfl); exact List.getElem?_eq_getElem (by omega))
    | (apply qc8; (iterate 6 exact rfl))
    | (apply zy0; (iterate 3 exact rfl))
    | (apply q00; (iterate 3 exact rfl))
    | (apply zn2; exact rfl; exact rfl; (omega))
    | (apply qz7 (hc := ⟨(qo9 s[n] 34 hbl).run⟩); exact rfl; exact rfl; exact rfl; exact rfl; exact rfl; (exact zd9 rfl rfl); rintro H1 hQ1)
    | (apply z04; focus (repeat (first | exact z18 | (apply kq_c; exact rfl) | (apply jn7; exact rfl; exact rfl))))
    | apply z03
    | apply z00
    | apply z02
    | apply z05
    | apply z06
    | apply z42
    | (apply z15; exact rfl)
    | (with_reducible apply z56; intro hc)
    | (with_reducible apply z40; intro hc)
   any_goals (exfalso; omega)
   subst hQ1
   refine ⟨n + 1, ?_, rfl, by omega, by omega⟩
   have e : bytesV ([34] ++ escS (s.take (n + 1)) 34) = bytesV ([34] ++ escS (s.take n) 34) ++ bytesV (escB s[n] 34) := by
    rw [qr6 hns, ← zj3, List.append_assoc]
   rw [e]
   repeat' first
    | exact z18
    | refine z47 rfl ?_
 · have hnl : n = s.length := by omega
   subst hnl
   have hb2 : ze4 (bytesV ([34] ++ escS (s.take s.length) 34) ++ [CV.int .u8 34]) = some ([34] ++ escS s 34 ++ [34]) := by
    have : [CV.int .u8 34] = bytesV [34] := rfl
    rw [this, ← zj3, zx1, List.take_length]
   repeat' first
    | apply z01
    | exact z17
    | exact z30 rfl
    | exact zd9 rfl rfl
    | (apply z12; exact rfl; exact rfl)
    | (apply zz7; exact rfl; assumption)
    | (apply z23; (iterate 3 exact rfl))
    | (apply z27; exact rfl)
    | (apply za2; (iterate 3 exact rfl); exact List.getElem?_eq_getElem (by omega))
    | (apply qc8; (iterate 6 exact rfl))
    | (apply q00; (iterate 3 exact rfl))
    | (apply zn2; exact rfl; exact rfl; (simp only [List.length_map, List.length_cons, List.length_nil, List.length_append, List.length_replicate]; omega))
    | (apply z04; focus (repeat (first | exact z18 | (apply kq_c; exact rfl) | (apply jn7; exact rfl; exact rfl))))
    | apply z03
    | apply z00
    | apply z02
    | apply z05
    | apply z06
    | apply z07
    | apply z42
    | (apply z15; exact rfl)
    | (with_reducible apply z56; intro hc)
    | (with_reducible apply z40; intro hc)
    | (apply z49; exact rfl)
   any_goals (exfalso; omega)
   rfl
theorem qw5 (n : Int) : ∃ r, Rets Vv 20 [.c (.int .i64 n)] (.c (.str r)) ∧ (∀ c : UInt8, n = c.toNat → r = [39] ++ escB c 39 ++ [39]) ∧ (¬ (0 ≤ n ∧ n ≤ 255) → r = []) := by
 by_cases h : 0 ≤ n ∧ n ≤ 255
 · obtain ⟨c, rfl⟩ : ∃ c : UInt8, n = c.toNat := ⟨UInt8.ofNat n.toNat, by simp; omega⟩
   refine ⟨[39] ++ escB c 39 ++ [39], ?_, ?_, fun hn => absurd h hn⟩
   · refine z35 wo6 ?_
     have hbl : ([CV.int .u8 39] : List CV).length < 2^40 := by simp
     have hb2 : ze4 ([CV.int .u8 39] ++ bytesV (escB c 39) ++ [CV.int .u8 39]) = some ([39] ++ escB c 39 ++ [39]) := by
      have : [CV.int .u8 39] = bytesV [39] := rfl
      rw [this, ← zj3, ← zj3, zx1]
     have hel := q86 c 39
     have hw : IntKind.u8.wrap (c.toNat : Int) = c.toNat := j75 (by omega)
     repeat' first
      | apply z01
      | exact z17
      | exact z30 rfl
      | exact zd9 rfl rfl
      | (apply z12; exact rfl; exact rfl)
      | (apply z23; (iterate 3 exact rfl))
      | (apply z09; exact rfl; (with_reducible rfl); exact rfl)
      | (apply z13; exact rfl; (with_reducible rfl); exact rfl)
      | (apply q73; (iterate 6 exact rfl))
      | (apply qe0; exact rfl)
      | (apply z04; focus (repeat (first | exact z18 | (apply kq_c; exact rfl))))
      | apply z03
      | apply z00
      | apply z02
      | apply z06
      | apply z07
      | (apply z38; exact rfl; (with_reducible rfl))
      | (apply z15; exact rfl)
      | (apply z39; exact rfl; (with_reducible rfl))
      | (apply z32; exact rfl; (with_reducible rfl))
      | (apply z28; exact rfl)
      | (with_reducible apply z56; intro hc)
      | (with_reducible apply z40; intro hc)
      | (apply z49; exact rfl)
     any_goals (exfalso; omega)
     rw [hw]
     have hbv : (bytesV (escB c 39)).length ≤ 4 := by simpa [bytesV] using hel
     repeat' first
      | apply z01
      | exact z17
      | exact zd9 rfl rfl
      | (apply z12; exact rfl; exact rfl)
      | (apply zz7; exact rfl; assumption)
      | (apply qc8; (iterate 6 exact rfl))
      | (apply zn2; exact rfl; exact rfl; (simp only [List.length_map, List.length_cons, List.length_nil, List.length_append, List.length_replicate]; omega))
      | (apply qz7 (hc := ⟨(qo9 c 39 hbl).run⟩); exact rfl; exact rfl; exact rfl; exact rfl; exact rfl; (exact zd9 rfl rfl); rintro H1 hQ1)
      | apply z02
      | apply z07
      | (apply z49; exact rfl)
     all_goals first
      | rfl
      | (exfalso; omega)
   · intro c' hc
     have : c' = c := UInt8.toNat_inj.1 (by omega)
     rw [this]
 · refine ⟨[], ?_, fun c hc => absurd ⟨by omega, by have := c.toNat_lt; omega⟩ h, fun _ => rfl⟩
   refine z35 wo6 ?_
   repeat' first
    | apply z01
    | exact z17
    | exact z30 rfl
    | exact zd9 rfl rfl
    | (apply z12; exact rfl; exact rfl)
    | (apply z23; (iterate 3 exact rfl))
    | (apply z09; exact rfl; (with_reducible rfl); exact rfl)
    | (apply z13; exact rfl; (with_reducible rfl); exact rfl)
    | (apply q73; (iterate 6 exact rfl))
    | (apply qe0; exact rfl)
    | (apply z04; focus (repeat (first | exact z18 | (apply kq_c; exact rfl))))
    | apply z03
    | apply z00
    | apply z02
    | apply z06
    | apply z07
    | (apply z38; exact rfl; (with_reducible rfl))
    | (apply z15; exact rfl)
    | (apply z39; exact rfl; (with_reducible rfl))
    | (apply z32; exact rfl; (with_reducible rfl))
    | (apply z28; exact rfl)
    | (with_reducible apply z56; intro hc)
    | (with_reducible apply z40; intro hc)
    | (apply z49; exact rfl)
   any_goals (exfalso; omega)
   all_goals rfl
end Go.Proofs.TryzL
namespace Go.Proofs.Lz
section
variable {V : WEnv} {fr fr' : WFr} {H H' : z16} {N : Post} {dst : Option Nat}
theorem w49 {x y : Opd} {a b : Int} (hx : fr.rd x = .c (.int .u8 a)) (hy : fr.rd y = .c (.int .u8 b)) (h0 : 0 ≤ a + b ∧ a + b < 256) (hq : Put fr dst (.c (.int .u8 (a + b))) fr') (h : N fr' H) : OpP V (.bin .add x y) dst fr H N :=
 z23 hx hy (by simp only [binC, if_true, j75 h0]) hq h
theorem jw2 {x y : Opd} {c : UInt8} (hx : fr.rd x = .c (.int .u8 c.toNat)) (hy : fr.rd y = .c (.int .u8 16)) (hq : Put fr dst (.c (.int .u8 (c.toNat / 16 : Nat))) fr') (h : N fr' H) : OpP V (.bin .quo x y) dst fr H N := by
 refine z23 (v := .int .u8 (c.toNat / 16 : Nat)) hx hy ?_ hq h
 have hc := c.toNat_lt
 have e : IntKind.u8.wrap ((c.toNat : Int).tdiv 16) = ((c.toNat / 16 : Nat) : Int) := by
  rw [Int.tdiv_eq_ediv_of_nonneg (by omega), j75 (by omega)]
  omega
 show (if IntKind.u8 = IntKind.u8 ∧ (16 : Int) ≠ 0 then some (CV.int .u8 (IntKind.u8.wrap ((c.toNat : Int).tdiv 16))) else none) = _
 rw [if_pos ⟨rfl, by decide⟩, e]
theorem jw9 {x y : Opd} {c : UInt8} (hx : fr.rd x = .c (.int .u8 c.toNat)) (hy : fr.rd y = .c (.int .u8 16)) (hq : Put fr dst (.c (.int .u8 (c.toNat % 16 : Nat))) fr') (h : N fr' H) : OpP V (.bin .rem x y) dst fr H N := by
 refine z23 (v := .int .u8 (c.toNat % 16 : Nat)) hx hy ?_ hq h
 have e : ((c.toNat : Int).tmod 16) = ((c.toNat % 16 : Nat) : Int) := by
  rw [Int.tmod_eq_emod_of_nonneg (by omega)]
  omega
 show (if IntKind.u8 = IntKind.u8 ∧ (16 : Int) ≠ 0 then some (CV.int .u8 ((c.toNat : Int).tmod 16)) else none) = _
 rw [if_pos ⟨rfl, by decide⟩, e]
theorem j82 {x lo hi : Opd} {s : List UInt8} {k k' : IntKind} {m : Nat} {b : UInt8} (hx : fr.rd x = .c (.str s)) (hl : fr.rd lo = .c (.int k (m : Int))) (hh : fr.rd hi = .c (.int k' ((m : Int) + 1))) (hb : s[m]? = some b) (hq : Put fr dst (.c (.str [b])) fr') (hN : N fr' H) : OpP V (.slc true none x (some lo) (some hi)) dst fr H N := by
 have hm : m < s.length := (List.getElem?_eq_some_iff.1 hb).1
 refine ja6 (m := m) (m' := m + 1) hx hl hh rfl (by simp) ⟨by omega, by omega⟩ ?_ hN
 have e : (s.drop m).take (m + 1 - m) = [b] := by
  rw [Nat.add_sub_cancel_left, List.take_one, List.head?_drop, hb]
  rfl
 rw [e]
 exact hq
end
end Go.Proofs.Lz
namespace Go.Proofs.TryzL
open Go.Proofs.Lz
theorem qq4 (c m : UInt8) : Rets Vv 51 [.c (bC c), .c (bC m)] (.c (.str (escB c m))) := by
 refine z35 wy7 ?_
 have hc0 := c.toNat_lt
 have hh1 : ([48, 49, 50, 51, 52, 53, 54, 55, 56, 57, 97, 98, 99, 100, 101, 102] : List UInt8)[c.toNat / 16]? = some (hexd (c.toNat / 16)) := q38 (by omega)
 have hh2 : ([48, 49, 50, 51, 52, 53, 54, 55, 56, 57, 97, 98, 99, 100, 101, 102] : List UInt8)[c.toNat % 16]? = some (hexd (c.toNat % 16)) := q38 (by omega)
 have hb2 : ze4 [bC c] = some [c] := zx1 [c]
 repeat' first
  | apply z01
  | exact z17
  | exact z30 rfl
  | exact zd9 rfl rfl
  | (apply z12; exact rfl; exact rfl)
  | (apply w49; exact rfl; exact rfl; omega)
  | (apply jw2; exact rfl; exact rfl)
  | (apply jw9; exact rfl; exact rfl)
  | (apply j82; (iterate 3 exact rfl); assumption)
  | (apply zz7; exact rfl; assumption)
  | (apply zg3; exact rfl; exact rfl; (simp only [List.length_map, List.length_cons, List.length_nil, List.length_append, List.length_replicate]; omega))
  | (apply z23; (iterate 3 exact rfl))
  | (apply z09; exact rfl; (with_reducible rfl); exact rfl)
  | (apply z13; exact rfl; (with_reducible rfl); exact rfl)
  | (apply q73; (iterate 6 exact rfl))
  | (apply z04; focus (repeat (first | exact z18 | (apply kq_c; exact rfl))))
  | apply z03
  | apply z00
  | apply z02
  | apply z05
  | apply z06
  | apply z07
  | apply zn4
  | apply qh6
  | (apply z38; exact rfl; (with_reducible rfl))
  | (apply z34; exact rfl; (with_reducible rfl))
  | (apply z15; exact rfl)
  | (apply z39; exact rfl; (with_reducible rfl))
  | (apply z29; exact rfl; (with_reducible rfl))
  | (apply z32; exact rfl; (with_reducible rfl))
  | (apply z28; exact rfl)
  | (apply qu5; (exact rfl))
  | (with_reducible apply z96; intro hc)
  | (with_reducible apply z62; intro hc)
  | (with_reducible apply z56; intro hc)
  | (with_reducible apply z40; intro hc)
  | (apply qi4; exact rfl)
  | (apply jl3)
  | (apply dand; exact rfl)
  | (apply z49; exact rfl)
 all_goals have e10 : ((c.toNat : Int) = 10) ↔ c = 10 := u8eq (n := 10) (by decide)
 all_goals have e9 : ((c.toNat : Int) = 9) ↔ c = 9 := u8eq (n := 9) (by decide)
 all_goals have e92 : ((c.toNat : Int) = 92) ↔ c = 92 := u8eq (n := 92) (by decide)
 all_goals have em : ((c.toNat : Int) = (m.toNat : Int)) ↔ c = m := u8i
 all_goals have e32 : ((32 : Int) ≤ c.toNat) ↔ 32 ≤ c.toNat := by omega
 all_goals have e126 : ((c.toNat : Int) ≤ 126) ↔ c.toNat ≤ 126 := by omega
 all_goals simp only [e10, e9, e92, em, e32, e126] at *
 all_goals clear hh1 hh2 hb2 hc0
 all_goals first
  | (subst c; rfl)
  | (subst m; simp only [escB, *, if_true, if_false, or_true, true_or, or_self, and_self, not_false_eq_true, reduceIte]; first | done | rfl)
  | (simp only [escB, *, if_true, if_false, or_true, true_or, or_self, and_self, and_true, true_and, and_false, false_and, not_false_eq_true, reduceIte]; first | done | rfl)
theorem jp0 (s : List UInt8) (hl : s.length < 2^31) : Rets Vv 21 [.c (.str s)] (.c (.str ([34] ++ escS s 34 ++ [34]))) := by
 refine z35 wz2 ?_
 have hel := zw2 s 34
 repeat' first
  | apply z01
  | exact z17
  | (apply z12; exact rfl; exact rfl)
  | apply z03
  | apply z00
  | apply z02
  | apply z05
 refine z93 (fun n : Nat => [(0, .c (.str s)), (3, .c (.str ([34] ++ escS (s.take n) 34))), (4, .c (.int .i64 n))]) (fun n => n ≤ s.length) (fun n => s.length - n) 0 ?_ (Nat.zero_le _) ?_
 · repeat' first
    | exact z18
    | refine z47 rfl ?_
 intro n hn
 have hen := zw2 (s.take n) 34
 rw [List.length_take] at hen
 by_cases hns : n < s.length
 · have he4 := q86 s[n] 34
   repeat' first
    | apply z01
    | exact z17
    | (apply z12; exact rfl; exact rfl)
    | (apply z88; exact rfl; exact rfl; omega)
    | (apply zg3; exact rfl; exact rfl; (first | omega | (simp only [List.length_map, List.length_cons, List.length_nil, List.length_append, List.length_replicate]; omega)))
    | (apply z23; (iterate 3 exact rfl))
    | (apply z27; exact rfl)
    | (apply za2; (iterate 3 exact rfl); exact List.getElem?_eq_getElem (by omega))
    | (apply z08 (hc := qq4 s[n] 34); exact rfl; exact rfl; exact rfl)
    | (apply z04; focus (repeat (first | exact z18 | (apply kq_c; exact rfl))))
    | apply z03
    | apply z00
    | apply z02
    | apply z05
    | apply z06
    | apply z07
    | apply z42
    | (apply z15; exact rfl)
    | (with_reducible apply z56; intro hc)
    | (with_reducible apply z40; intro hc)
    | (apply z49; exact rfl)
   any_goals (exfalso; omega)
   refine ⟨n + 1, ?_, rfl, by omega, by omega⟩
   have e : [34] ++ escS (s.take (n + 1)) 34 = ([34] ++ escS (s.take n) 34) ++ escB s[n] 34 := by rw [qr6 hns, List.append_assoc]
   rw [e]
   repeat' first
    | exact z18
    | refine z47 rfl ?_
 · have hnl : n = s.length := by omega
   subst hnl
   repeat' first
    | apply z01
    | exact z17
    | (apply z12; exact rfl; exact rfl)
    | (apply zg3; exact rfl; exact rfl; (simp only [List.length_map, List.length_cons, List.length_nil, List.length_append, List.length_replicate]; omega))
    | (apply z23; (iterate 3 exact rfl))
    | (apply z27; exact rfl)
    | (apply za2; (iterate 3 exact rfl); exact List.getElem?_eq_getElem (by omega))
    | (apply z04; focus (repeat (first | exact z18 | (apply kq_c; exact rfl))))
    | apply z03
    | apply z00
    | apply z02
    | apply z05
    | apply z06
    | apply z07
    | apply z42
    | (apply z15; exact rfl)
    | (with_reducible apply z56; intro hc)
    | (with_reducible apply z40; intro hc)
    | (apply z49; exact rfl)
   any_goals (exfalso; omega)
   rw [List.take_length]
theorem qz4 (n : Int) : ∃ r, Rets Vv 22 [.c (.int .i64 n)] (.c (.str r)) ∧ (∀ c : UInt8, n = c.toNat → r = [39] ++ escB c 39 ++ [39]) ∧ (¬ (0 ≤ n ∧ n ≤ 255) → r = []) := by
 by_cases h : 0 ≤ n ∧ n ≤ 255
 · obtain ⟨c, rfl⟩ : ∃ c : UInt8, n = c.toNat := ⟨UInt8.ofNat n.toNat, by simp; omega⟩
   refine ⟨[39] ++ escB c 39 ++ [39], ?_, ?_, fun hn => absurd h hn⟩
   · refine z35 we6 ?_
     have hel := q86 c 39
     have hw : IntKind.u8.wrap (c.toNat : Int) = c.toNat := j75 (by omega)
     repeat' first
      | apply z01
      | exact z17
      | exact z30 rfl
      | (apply z12; exact rfl; exact rfl)
      | (apply z23; (iterate 3 exact rfl))
      | (apply z09; exact rfl; (with_reducible rfl); exact rfl)
      | (apply z13; exact rfl; (with_reducible rfl); exact rfl)
      | (apply qe0; exact rfl)
      | (apply z04; focus (repeat (first | exact z18 | (apply kq_c; exact rfl))))
      | apply z03
      | apply z00
      | apply z02
      | apply z06
      | apply z07
      | (apply z38; exact rfl; (with_reducible rfl))
      | (apply z15; exact rfl)
      | (apply z39; exact rfl; (with_reducible rfl))
      | (apply z32; exact rfl; (with_reducible rfl))
      | (apply z28; exact rfl)
      | (with_reducible apply z56; intro hc)
      | (with_reducible apply z40; intro hc)
      | (apply z49; exact rfl)
     any_goals (exfalso; omega)
     rw [hw]
     repeat' first
      | apply z01
      | exact z17
      | (apply z12; exact rfl; exact rfl)
      | (apply zg3; exact rfl; exact rfl; (simp only [List.length_map, List.length_cons, List.length_nil, List.length_append, List.length_replicate]; omega))
      | (apply z08 (hc := qq4 c 39); exact rfl; exact rfl; exact rfl)
      | apply z02
      | apply z07
      | (apply z49; exact rfl)
     all_goals first
      | rfl
      | (exfalso; omega)
   · intro c' hc
     have : c' = c := UInt8.toNat_inj.1 (by omega)
     rw [this]
 · refine ⟨[], ?_, fun c hc => absurd ⟨by omega, by have := c.toNat_lt; omega⟩ h, fun _ => rfl⟩
   refine z35 we6 ?_
   repeat' first
    | apply z01
    | exact z17
    | exact z30 rfl
    | (apply z12; exact rfl; exact rfl)
    | (apply z23; (iterate 3 exact rfl))
    | (apply z09; exact rfl; (with_reducible rfl); exact rfl)
    | (apply z13; exact rfl; (with_reducible rfl); exact rfl)
    | (apply qe0; exact rfl)
    | (apply z04; focus (repeat (first | exact z18 | (apply kq_c; exact rfl))))
    | apply z03
    | apply z00
    | apply z02
    | apply z06
    | apply z07
    | (apply z38; exact rfl; (with_reducible rfl))
    | (apply z15; exact rfl)
    | (apply z39; exact rfl; (with_reducible rfl))
    | (apply z32; exact rfl; (with_reducible rfl))
    | (apply z28; exact rfl)
    | (with_reducible apply z56; intro hc)
    | (with_reducible apply z40; intro hc)
    | (apply z49; exact rfl)
   any_goals (exfalso; omega)
   all_goals rfl
end Go.Proofs.TryzL
