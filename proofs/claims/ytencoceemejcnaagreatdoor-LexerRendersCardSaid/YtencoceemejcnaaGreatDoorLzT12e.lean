/- Chapter 02: the reference's names: words, symbols, simple names. -/
import Derived.Test.YtencoceemejcnaaGreatDoorLzT9
set_option linter.unusedSimpArgs false
set_option linter.unusedVariables false
namespace Go.Proofs.TryzL
open Go.Proofs.Lz
def okA : Lib.NumEnd Int → Option Int
 | .ok v => some v
 | _ => none
def qo3 (s : List UInt8) (k : Nat) : Option (List UInt8 × Int) := match okA (Lib.atoiAll (s.drop (k + 1))) with
 | none => none
 | some v => if jy5 (s.take k) v = s then some (s.take k, v) else none
def qw3 (s : List UInt8) : Option (List UInt8 × Int) := if Lib.lastIndexByte ⟨s.toArray⟩ 36 < 0 then none else qo3 s (Lib.lastIndexByte ⟨s.toArray⟩ 36).toNat
def q61 (o : Option (List UInt8 × Int)) : WV := match o with
 | none => .tup [.c (.str []), .c (.int .i64 0), .c (.bool false)]
 | some p => .tup [.c (.str p.1), .c (.int .i64 p.2), .c (.bool true)]
set_option maxHeartbeats 2000000
theorem jd6 (s : List UInt8) (hl : s.length < 2^31) : Rets Vv 92 [.c (.str s)] (q61 (qw3 s)) := by
 refine z35 ww7 ?_
 obtain ⟨b1, b2⟩ := w90 s
 by_cases h0 : Lib.lastIndexByte ⟨s.toArray⟩ 36 < 0
 · repeat' first
    | apply z01
    | exact z17
    | (apply z12; exact rfl; exact rfl)
    | (apply z88; exact rfl; exact rfl; omega)
    | (apply z23; (iterate 3 exact rfl))
    | (apply zs3; exact rfl; exact rfl; omega; omega)
    | (apply z08 (hc := last_call s hl); exact rfl; exact rfl; exact rfl)
    | (apply z04; focus (repeat (first | exact z18 | (apply kq_c; exact rfl))))
    | apply z03
    | apply z00
    | apply z02
    | apply z06
    | apply z07
    | (apply z15; exact rfl)
    | (with_reducible apply z56; intro hc)
    | (with_reducible apply z40; intro hc)
    | (apply qj8; (exact ShI.c rfl); (exact ShI.c rfl); (exact ShI.c rfl); (exact by decide))
   · simp [qw3, h0, q61]
   · omega
 · obtain ⟨k, hk⟩ : ∃ k : Nat, Lib.lastIndexByte ⟨s.toArray⟩ 36 = k := ⟨_, (Int.toNat_of_nonneg (by omega)).symm⟩
   have hc := last_call s hl
   rw [hk] at hc b2 h0
   have hb : qw3 s = qo3 s k := by simp only [qw3, hk]; rw [if_neg h0]; simp
   have hd : (s.drop (k + 1)).length < 2^31 := by rw [List.length_drop]; omega
   have hat := jg2 (s.drop (k + 1)) hd
   cases ha : Lib.atoiAll (s.drop (k + 1)) with
   | ok v =>
     have hv := Lib.atoiAll_bounds ha
     simp only [qx1, ha] at hat
     have hm := wb8 (s.take k) v (by rw [List.length_take]; omega) hv
     repeat' first
      | apply z01
      | exact z17
      | exact z30 rfl
      | (apply z12; exact rfl; exact rfl)
      | (apply z88; exact rfl; exact rfl; omega)
      | (apply z23; (iterate 3 exact rfl))
      | (apply z09; exact rfl; (with_reducible rfl); exact rfl)
      | (apply z13; exact rfl; (with_reducible rfl); exact rfl)
      | (apply z94; (iterate 3 exact rfl))
      | (apply zi9; exact rfl; exact rfl)
      | (apply qn6; exact rfl)
      | (apply zk9; exact rfl; exact rfl; omega)
      | (apply zs5; (iterate 3 exact rfl); omega)
      | (apply z08 (hc := hc); exact rfl; exact rfl; exact rfl)
      | (apply z08 (hc := hat); exact rfl; exact rfl; exact rfl)
      | (apply z08 (hc := hm); exact rfl; exact rfl; exact rfl)
      | (apply z04; focus (repeat (first | exact z18 | (apply kq_c; exact rfl))))
      | apply z03
      | apply z00
      | apply z02
      | apply z06
      | apply z07
      | (apply z38; exact rfl; (with_reducible rfl))
      | (apply z15; exact rfl)
      | (apply z39; exact rfl; (with_reducible rfl))
      | (apply z32; exact rfl; (with_reducible rfl))
      | (apply z28; exact rfl)
      | with_reducible apply z50
      | with_reducible apply z52
      | (with_reducible apply zb1; intro hc)
      | (with_reducible apply z69; intro hc)
      | (with_reducible apply z56; intro hc)
      | (with_reducible apply z40; intro hc)
      | (with_reducible apply zg9; intro hc)
      | (apply qj8; (exact ShI.c rfl); (exact ShI.c rfl); (exact ShI.c rfl); (exact by decide))
     all_goals first
      | (exfalso; omega)
      | (exfalso; simp at hc; done)
      | (rw [hb]; simp [qo3, ha, okA, q61, *]; done)
   | range =>
     simp only [qx1, ha] at hat
     repeat' first
      | apply z01
      | exact z17
      | exact z30 rfl
      | (apply z12; exact rfl; exact rfl)
      | (apply z88; exact rfl; exact rfl; omega)
      | (apply z23; (iterate 3 exact rfl))
      | (apply z09; exact rfl; (with_reducible rfl); exact rfl)
      | (apply z94; (iterate 3 exact rfl))
      | (apply zi9; exact rfl; exact rfl)
      | (apply qn6; exact rfl)
      | (apply zk9; exact rfl; exact rfl; omega)
      | (apply zs5; (iterate 3 exact rfl); omega)
      | (apply z08 (hc := hc); exact rfl; exact rfl; exact rfl)
      | (apply z08 (hc := hat); exact rfl; exact rfl; exact rfl)
      | (apply z04; focus (repeat (first | exact z18 | (apply kq_c; exact rfl))))
      | apply z03
      | apply z00
      | apply z02
      | apply z06
      | apply z07
      | (apply z38; exact rfl; (with_reducible rfl))
      | (apply z15; exact rfl)
      | (apply z39; exact rfl; (with_reducible rfl))
      | (apply z32; exact rfl; (with_reducible rfl))
      | (apply z28; exact rfl)
      | (with_reducible apply z56; intro hc)
      | (with_reducible apply z40; intro hc)
      | (with_reducible apply zg9; intro hc)
      | (apply qj8; (exact ShI.c rfl); (exact ShI.c rfl); (exact ShI.c rfl); (exact by decide))
     all_goals first
      | (exfalso; omega)
      | (exfalso; simp at hc; done)
      | (rw [hb]; simp [qo3, ha, okA, q61, *]; done)
   | _ =>
     simp only [qx1, ha] at hat
     repeat' first
      | apply z01
      | exact z17
      | exact z30 rfl
      | (apply z12; exact rfl; exact rfl)
      | (apply z88; exact rfl; exact rfl; omega)
      | (apply z23; (iterate 3 exact rfl))
      | (apply z09; exact rfl; (with_reducible rfl); exact rfl)
      | (apply z94; (iterate 3 exact rfl))
      | (apply zi9; exact rfl; exact rfl)
      | (apply qn6; exact rfl)
      | (apply zk9; exact rfl; exact rfl; omega)
      | (apply zs5; (iterate 3 exact rfl); omega)
      | (apply z08 (hc := hc); exact rfl; exact rfl; exact rfl)
      | (apply z08 (hc := hat); exact rfl; exact rfl; exact rfl)
      | (apply z04; focus (repeat (first | exact z18 | (apply kq_c; exact rfl))))
      | apply z03
      | apply z00
      | apply z02
      | apply z06
      | apply z07
      | (apply z38; exact rfl; (with_reducible rfl))
      | (apply z15; exact rfl)
      | (apply z39; exact rfl; (with_reducible rfl))
      | (apply z32; exact rfl; (with_reducible rfl))
      | (apply z28; exact rfl)
      | (with_reducible apply z56; intro hc)
      | (with_reducible apply z40; intro hc)
      | (with_reducible apply zg9; intro hc)
      | (apply qj8; (exact ShI.c rfl); (exact ShI.c rfl); (exact ShI.c rfl); (exact by decide))
     all_goals first
      | (exfalso; omega)
      | (exfalso; simp at hc; done)
      | (rw [hb]; simp [qo3, ha, okA, q61, *]; done)
end Go.Proofs.TryzL
namespace Go.Proofs.TryzL
open Go.Proofs.Lz
def zj0 (s : List UInt8) : Nat := if rwordL.contains s then 5 else if rsymL.contains s then 6 else if zl7 s && q10 s then 2 else if zl7 s then 1 else if zc6 s && s[0]? == some 58 then 4 else if zc6 s then 3 else if (qw3 s).isSome then 7 else 0
theorem z79 (s : List UInt8) (hl : s.length < 2^31) : Rets Vv 60 [.c (.str s)] (.c (.int .i64 (zj0 s))) := by
 refine z35 wx8 ?_
 cases h0 : s[0]? with
 | none =>
   have : s = [] := by cases s <;> simp_all
   subst this
   have hb := jd6 [] hl
   have hb' : Rets Vv 92 [.c (.str [])] (q61 none) := hb
   simp only [q61] at hb'
   have e1 : rwordL.contains [] = false := rfl
   have e2 : rsymL.contains [] = false := rfl
   have e3 : zl7 [] = false := rfl
   have e4 : zc6 [] = false := rfl
   have h1 := zh5 []
   have h2 := zf2 []
   have h3 := qd8 [] (by simp)
   have h4 := q36 [] (by simp)
   rw [e1] at h1; rw [e2] at h2; rw [e3] at h3; rw [e4] at h4
   repeat' first
    | apply z01
    | exact z17
    | exact z30 rfl
    | (apply z12; exact rfl; exact rfl)
    | (apply z13; exact rfl; (with_reducible rfl); exact rfl)
    | (apply z94; (iterate 3 exact rfl))
    | (apply zi9; exact rfl; exact rfl)
    | (apply z08 (hc := h1); exact rfl; exact rfl; exact rfl)
    | (apply z08 (hc := h2); exact rfl; exact rfl; exact rfl)
    | (apply z08 (hc := h3); exact rfl; exact rfl; exact rfl)
    | (apply z08 (hc := h4); exact rfl; exact rfl; exact rfl)
    | (apply z08 (hc := hb'); exact rfl; exact rfl; exact rfl)
    | (apply z04; focus (repeat (first | exact z18 | (apply kq_c; exact rfl))))
    | apply z03
    | apply z00
    | apply z02
    | apply z05
    | apply z06
    | apply z07
    | (apply z34; exact rfl; (with_reducible rfl))
    | (apply z29; exact rfl; (with_reducible rfl))
    | (apply z49; exact rfl)
   all_goals rfl
 | some c =>
   cases hb : qw3 s with
   | none =>
     have hb' : Rets Vv 92 [.c (.str s)] (q61 none) := hb ▸ jd6 s hl
     simp only [q61] at hb'
     repeat' first
      | apply z01
      | exact z17
      | exact z30 rfl
      | (apply z12; exact rfl; exact rfl)
      | (apply z23; (iterate 3 exact rfl))
      | (apply z09; exact rfl; (with_reducible rfl); exact rfl)
      | (apply z13; exact rfl; (with_reducible rfl); exact rfl)
      | (apply za2; (iterate 3 exact rfl); assumption)
      | (apply z94; (iterate 3 exact rfl))
      | (apply zi9; exact rfl; exact rfl)
      | (apply z08 (hc := zh5 s); exact rfl; exact rfl; exact rfl)
      | (apply z08 (hc := zf2 s); exact rfl; exact rfl; exact rfl)
      | (apply z08 (hc := qd8 s (by omega)); exact rfl; exact rfl; exact rfl)
      | (apply z08 (hc := q36 s (by omega)); exact rfl; exact rfl; exact rfl)
      | (apply z08 (hc := qh5 c); exact rfl; exact rfl; exact rfl)
      | (apply z08 (hc := hb'); exact rfl; exact rfl; exact rfl)
      | (apply z04; focus (repeat (first | exact z18 | (apply kq_c; exact rfl))))
      | apply z03
      | apply z00
      | apply z02
      | apply z05
      | apply z06
      | apply z07
      | (apply z34; exact rfl; (with_reducible rfl))
      | (apply z15; exact rfl)
      | (apply z39; exact rfl; (with_reducible rfl))
      | (apply z29; exact rfl; (with_reducible rfl))
      | (apply z28; exact rfl)
      | (with_reducible apply z96; intro hc)
      | (with_reducible apply z62; intro hc)
      | (with_reducible apply zg9; intro hc)
      | (apply z49; exact rfl)
     all_goals have e58 : ((c.toNat : Int) = 58) ↔ c = 58 := u8eq (n := 58) (by decide)
     all_goals first
      | (exfalso; simp_all; done)
      | (congr 1; simp_all [zj0, q10]; done)
   | some p =>
     have hb' : Rets Vv 92 [.c (.str s)] (q61 (some p)) := hb ▸ jd6 s hl
     simp only [q61] at hb'
     repeat' first
      | apply z01
      | exact z17
      | exact z30 rfl
      | (apply z12; exact rfl; exact rfl)
      | (apply z23; (iterate 3 exact rfl))
      | (apply z09; exact rfl; (with_reducible rfl); exact rfl)
      | (apply z13; exact rfl; (with_reducible rfl); exact rfl)
      | (apply za2; (iterate 3 exact rfl); assumption)
      | (apply z94; (iterate 3 exact rfl))
      | (apply zi9; exact rfl; exact rfl)
      | (apply z08 (hc := zh5 s); exact rfl; exact rfl; exact rfl)
      | (apply z08 (hc := zf2 s); exact rfl; exact rfl; exact rfl)
      | (apply z08 (hc := qd8 s (by omega)); exact rfl; exact rfl; exact rfl)
      | (apply z08 (hc := q36 s (by omega)); exact rfl; exact rfl; exact rfl)
      | (apply z08 (hc := qh5 c); exact rfl; exact rfl; exact rfl)
      | (apply z08 (hc := hb'); exact rfl; exact rfl; exact rfl)
      | (apply z04; focus (repeat (first | exact z18 | (apply kq_c; exact rfl))))
      | apply z03
      | apply z00
      | apply z02
      | apply z05
      | apply z06
      | apply z07
      | (apply z38; exact rfl; (with_reducible rfl))
      | (apply z34; exact rfl; (with_reducible rfl))
      | (apply z15; exact rfl)
      | (apply z39; exact rfl; (with_reducible rfl))
      | (apply z29; exact rfl; (with_reducible rfl))
      | (apply z28; exact rfl)
      | (with_reducible apply z96; intro hc)
      | (with_reducible apply z62; intro hc)
      | (with_reducible apply zg9; intro hc)
      | (apply z49; exact rfl)
     all_goals have e58 : ((c.toNat : Int) = 58) ↔ c = 58 := u8eq (n := 58) (by decide)
     all_goals first
      | (exfalso; simp_all; done)
      | (congr 1; simp_all [zj0, q10]; done)
end Go.Proofs.TryzL
namespace Go.Proofs.TryzL
open Go.Proofs.Lz
theorem j40 (c : UInt8) : Rets Vv 147 [.c (bC c)] (.c (.bool (lowerB c))) := by
 refine z35 wj9 ?_
 repeat' first
  | apply z01
  | exact z17
  | exact z30 rfl
  | (apply z12; exact rfl; exact rfl)
  | (apply z23; (iterate 3 exact rfl))
  | (apply z09; exact rfl; (with_reducible rfl); exact rfl)
  | (apply z13; exact rfl; (with_reducible rfl); exact rfl)
  | apply z03
  | apply z00
  | apply z02
  | apply z07
  | (apply z39; exact rfl; (with_reducible rfl))
  | (apply z29; exact rfl; (with_reducible rfl))
  | (apply z32; exact rfl; (with_reducible rfl))
  | (apply z28; exact rfl)
  | (with_reducible apply z56; intro hc)
  | (with_reducible apply z40; intro hc)
  | (apply z49; exact rfl)
 all_goals (refine cb ?_; simp [lowerB]; omega)
theorem qg7 (c : UInt8) : Rets Vv 127 [.c (bC c)] (.c (.bool (upperB c))) := by
 refine z35 wp1 ?_
 repeat' first
  | apply z01
  | exact z17
  | exact z30 rfl
  | (apply z12; exact rfl; exact rfl)
  | (apply z23; (iterate 3 exact rfl))
  | (apply z09; exact rfl; (with_reducible rfl); exact rfl)
  | (apply z13; exact rfl; (with_reducible rfl); exact rfl)
  | apply z03
  | apply z00
  | apply z02
  | apply z07
  | (apply z39; exact rfl; (with_reducible rfl))
  | (apply z29; exact rfl; (with_reducible rfl))
  | (apply z28; exact rfl)
  | (with_reducible apply z56; intro hc)
  | (with_reducible apply z40; intro hc)
  | (apply z49; exact rfl)
 all_goals (refine cb ?_; simp [upperB]; omega)
theorem j23 (c : UInt8) : Rets Vv 148 [.c (bC c)] (.c (.bool (zo9 c))) := by
 refine z35 wo4 ?_
 repeat' first
  | apply z01
  | exact z17
  | exact z30 rfl
  | (apply z12; exact rfl; exact rfl)
  | (apply z23; (iterate 3 exact rfl))
  | (apply z09; exact rfl; (with_reducible rfl); exact rfl)
  | (apply z13; exact rfl; (with_reducible rfl); exact rfl)
  | apply z03
  | apply z00
  | apply z02
  | apply z07
  | (apply z39; exact rfl; (with_reducible rfl))
  | (apply z29; exact rfl; (with_reducible rfl))
  | (apply z28; exact rfl)
  | (with_reducible apply z56; intro hc)
  | (with_reducible apply z40; intro hc)
  | (apply z49; exact rfl)
 all_goals (refine cb ?_; simp [zo9]; omega)
theorem u8i {a b : UInt8} : ((a.toNat : Int) = (b.toNat : Int)) ↔ a = b := by rw [← UInt8.toNat_inj]; omega
theorem qy5 (c : UInt8) : Rets Vv 149 [.c (bC c)] (.c (.bool (symB c))) := by
 refine z35 wm9 ?_
 repeat' first
  | apply z01
  | exact z17
  | (apply z12; exact rfl; exact rfl)
  | apply z03
  | apply z00
  | apply z02
  | apply z05
 refine z93 (fun n : Nat => [(0, .c (bC c)), (3, .c (.str symS)), (4, .c (.int .i64 n))]) (fun n => n ≤ symS.length ∧ (symS.take n).all (· != c) = true) (fun n => symS.length - n) 0 ?_ ⟨by omega, tk0⟩ ?_
 · repeat' first
    | exact z18
    | refine z47 rfl ?_
 rintro n ⟨hn, hall⟩
 have h20 : symS.length = 20 := rfl
 repeat' first
  | apply z01
  | exact z17
  | (apply z12; exact rfl; exact rfl)
  | (apply z88; exact rfl; exact rfl; omega)
  | (apply z23; (iterate 3 exact rfl))
  | (apply z27; exact rfl)
  | (apply za2; (iterate 3 exact rfl); exact List.getElem?_eq_getElem (by omega))
  | (apply z04; focus (repeat (first | exact z18 | (apply kq_c; exact rfl))))
  | apply z03
  | apply z00
  | apply z02
  | apply z05
  | apply z06
  | apply z07
  | apply z42
  | (apply z15; exact rfl)
  | (with_reducible apply z96; intro hc)
  | (with_reducible apply z62; intro hc)
  | (with_reducible apply z56; intro hc)
  | (with_reducible apply z40; intro hc)
  | (apply z49; exact rfl)
 · refine cb ?_
   rename_i hc
   have e := u8i.1 hc
   simp only [symB, true_iff, List.contains_eq_mem, decide_eq_true_eq]
   rw [← e]
   exact List.getElem_mem _
 · refine ⟨n + 1, ?_, rfl, ⟨by omega, tkS (by omega) hall ?_⟩, by omega⟩
   · repeat' first
      | exact z18
      | refine z47 rfl ?_
   · rename_i hc
     rw [u8i] at hc
     simpa using hc
 · refine cb ?_
   have := tkE (by omega) hall
   simp only [symB, List.contains_eq_mem]
   simp only [List.all_eq_true, bne_iff_ne] at this
   constructor
   · intro h; cases h
   · intro h; exact absurd rfl (this c (by simpa using h))
end Go.Proofs.TryzL
namespace Go.Proofs.TryzL
open Go.Proofs.Lz
theorem wq7 (c : UInt8) : wcB c = (lowerB c || upperB c || zo9 c || decide (c.toNat = 39)) := by
 rw [Bool.eq_iff_iff]; simp [wcB, q06, lowerB, upperB, zo9, ← UInt8.toNat_inj]; omega
theorem wi2 (c : UInt8) : wsB c = (lowerB c || upperB c) := by
 rw [Bool.eq_iff_iff]; simp [wsB, q06, lowerB, upperB, ← UInt8.toNat_inj]; omega
theorem jc9 (s : List UInt8) (hl : s.length < 2^60) : Rets Vv 125 [.c (.str s)] (.c (.bool (zl7 s))) := by
 refine z35 wl4 ?_
 cases h0 : s[0]? with
 | none =>
   have : s = [] := by cases s <;> simp_all
   subst this
   repeat' first
    | apply z01
    | exact z17
    | exact z30 rfl
    | (apply z12; exact rfl; exact rfl)
    | (apply z23; (iterate 3 exact rfl))
    | (apply z27; exact rfl)
    | (apply z09; exact rfl; (with_reducible rfl); exact rfl)
    | (apply z13; exact rfl; (with_reducible rfl); exact rfl)
    | (apply z04; focus (repeat (exact z18)))
    | apply z03
    | apply z00
    | apply z02
    | apply z07
    | (apply z38; exact rfl; (with_reducible rfl))
    | (apply z39; exact rfl; (with_reducible rfl))
    | (apply z32; exact rfl; (with_reducible rfl))
    | (apply z90; exact rfl)
    | (apply z28; exact rfl)
    | (with_reducible apply z56; intro hc)
    | (with_reducible apply z40; intro hc)
    | (apply z49; exact rfl)
   all_goals first
    | rfl
    | (exfalso; simp_all; done)
 | some c =>
   have hlen : 0 < s.length := by cases s <;> simp_all
   repeat' first
    | apply z01
    | exact z17
    | exact z30 rfl
    | (apply z12; exact rfl; exact rfl)
    | (apply z23; (iterate 3 exact rfl))
    | (apply z27; exact rfl)
    | (apply za8; exact rfl; exact rfl)
    | (apply z09; exact rfl; (with_reducible rfl); exact rfl)
    | (apply z13; exact rfl; (with_reducible rfl); exact rfl)
    | (apply za2; (iterate 3 exact rfl); assumption)
    | (apply z08 (hc := j40 c); exact rfl; exact rfl; exact rfl)
    | (apply z08 (hc := qg7 c); exact rfl; exact rfl; exact rfl)
    | (apply z04; focus (repeat (first | exact z18 | (apply kq_c; exact rfl))))
    | apply z03
    | apply z00
    | apply z02
    | apply z05
    | apply z06
    | apply z07
    | (apply z38; exact rfl; (with_reducible rfl))
    | (apply z34; exact rfl; (with_reducible rfl))
    | (apply z15; exact rfl)
    | (apply z39; exact rfl; (with_reducible rfl))
    | (apply z29; exact rfl; (with_reducible rfl))
    | (apply z32; exact rfl; (with_reducible rfl))
    | (apply z90; exact rfl)
    | (apply z28; exact rfl)
    | with_reducible apply z50
    | with_reducible apply z52
    | (with_reducible apply z56; intro hc)
    | (with_reducible apply z40; intro hc)
    | (with_reducible apply zg9; intro hc)
    | (apply z49; exact rfl)
   any_goals (exfalso; omega)
   any_goals (refine cb ?_; simp [zl7, h0]; omega)
   any_goals (refine cb ?_; simp only [zl7, wi2, h0, *]; simp; done)
   any_goals
    refine z93 (fun n : Nat => [(0, .c (.str s)), (3, .c (.int .i64 n))]) (fun n => n ≤ s.length ∧ (s.take n).all wcB = true) (fun n => s.length - n) 0 ?_ ⟨by omega, tk0⟩ ?_
    · repeat' first
       | exact z18
       | refine z47 rfl ?_
    rintro n ⟨hn, hall⟩
    repeat' first
     | apply z01
     | exact z17
     | exact z30 rfl
     | (apply z12; exact rfl; exact rfl)
     | (apply z88; exact rfl; exact rfl; omega)
     | (apply z23; (iterate 3 exact rfl))
     | (apply z27; exact rfl)
     | (apply za8; exact rfl; exact rfl)
     | (apply z09; exact rfl; (with_reducible rfl); exact rfl)
     | (apply z13; exact rfl; (with_reducible rfl); exact rfl)
     | (apply za2; (iterate 3 exact rfl); exact List.getElem?_eq_getElem (by omega))
     | (apply z08 (hc := j40 s[n]); exact rfl; exact rfl; exact rfl)
     | (apply z08 (hc := qg7 s[n]); exact rfl; exact rfl; exact rfl)
     | (apply z08 (hc := j23 s[n]); exact rfl; exact rfl; exact rfl)
     | (apply z04; focus (repeat (first | exact z18 | (apply kq_c; exact rfl))))
     | apply z03
     | apply z00
     | apply z02
     | apply z05
     | apply z06
     | apply z07
     | apply z42
     | (apply z34; exact rfl; (with_reducible rfl))
     | (apply z15; exact rfl)
     | (apply z39; exact rfl; (with_reducible rfl))
     | (apply z29; exact rfl; (with_reducible rfl))
     | (apply z28; exact rfl)
     | with_reducible apply z50
     | with_reducible apply z52
     | (with_reducible apply zc9; intro hc)
     | (with_reducible apply z97; intro hc)
     | (with_reducible apply z56; intro hc)
     | (with_reducible apply z40; intro hc)
     | (with_reducible apply zg9; intro hc)
     | (apply z49; exact rfl)
    any_goals
     refine ⟨n + 1, ?_, rfl, ⟨by omega, tkS (by omega) hall ?_⟩, by omega⟩
     · repeat' first
        | exact z18
        | refine z47 rfl ?_
     · rw [wq7]; simp [*] <;> omega
    any_goals
     refine cb ?_
     simp only [zl7, h0]
     first
     | (rw [tkF (p := wcB) (n := n) (by omega) (by rw [wq7]; simp [*] <;> omega)]; simp; done)
     | (rw [tkE (by omega) hall]; simp [wi2, *] <;> omega)
end Go.Proofs.TryzL
namespace Go.Proofs.TryzL
open Go.Proofs.Lz
theorem qp8 (s : List UInt8) (hl : s.length < 2^60) : Rets Vv 128 [.c (.str s)] (.c (.bool (zc6 s))) := by
 refine z35 wj1 ?_
 cases h0 : s[0]? with
 | none =>
   have : s = [] := by cases s <;> simp_all
   subst this
   repeat' first
    | apply z01
    | exact z17
    | exact z30 rfl
    | (apply z12; exact rfl; exact rfl)
    | (apply z23; (iterate 3 exact rfl))
    | (apply z27; exact rfl)
    | (apply z09; exact rfl; (with_reducible rfl); exact rfl)
    | (apply z13; exact rfl; (with_reducible rfl); exact rfl)
    | (apply z04; focus (repeat (first | exact z18 | (apply kq_c; exact rfl))))
    | apply z03
    | apply z00
    | apply z02
    | apply z05
    | apply z06
    | apply z07
    | (apply z38; exact rfl; (with_reducible rfl))
    | (apply z15; exact rfl)
    | (apply z39; exact rfl; (with_reducible rfl))
    | (apply z32; exact rfl; (with_reducible rfl))
    | (apply z28; exact rfl)
    | (with_reducible apply z56; intro hc)
    | (with_reducible apply z40; intro hc)
    | (apply z49; exact rfl)
   all_goals first
    | rfl
    | (exfalso; simp_all; done)
 | some c =>
   have hlen : 0 < s.length := by cases s <;> simp_all
   repeat' first
    | apply z01
    | exact z17
    | exact z30 rfl
    | (apply z12; exact rfl; exact rfl)
    | (apply z23; (iterate 3 exact rfl))
    | (apply z27; exact rfl)
    | (apply z09; exact rfl; (with_reducible rfl); exact rfl)
    | (apply z13; exact rfl; (with_reducible rfl); exact rfl)
    | (apply z04; focus (repeat (first | exact z18 | (apply kq_c; exact rfl))))
    | apply z03
    | apply z00
    | apply z02
    | apply z05
    | apply z06
    | apply z07
    | (apply z38; exact rfl; (with_reducible rfl))
    | (apply z15; exact rfl)
    | (apply z39; exact rfl; (with_reducible rfl))
    | (apply z32; exact rfl; (with_reducible rfl))
    | (apply z28; exact rfl)
    | (with_reducible apply z56; intro hc)
    | (with_reducible apply z40; intro hc)
    | (apply z49; exact rfl)
   any_goals (exfalso; omega)
   any_goals (refine cb ?_; simp [zc6, h0]; omega)
   any_goals
    refine z93 (fun n : Nat => [(0, .c (.str s)), (3, .c (.int .i64 ((s.take n).count 45 : Nat))), (4, .c (.int .i64 n))]) (fun n => n ≤ s.length ∧ (s.take n).all symB = true) (fun n => s.length - n) 0 ?_ ⟨by omega, tk0⟩ ?_
    · repeat' first
       | exact z18
       | refine z47 rfl ?_
    rintro n ⟨hn, hall⟩
    have hcn : (s.take n).count 45 ≤ n := by have := List.count_le_length (a := (45 : UInt8)) (l := s.take n); rw [List.length_take] at this; omega
    by_cases hns : n < s.length
    · repeat' first
       | apply z01
       | exact z17
       | exact z30 rfl
       | (apply z12; exact rfl; exact rfl)
       | (apply z88; exact rfl; exact rfl; omega)
       | (apply z23; (iterate 3 exact rfl))
       | (apply z27; exact rfl)
       | (apply za8; exact rfl; exact rfl)
       | (apply z09; exact rfl; (with_reducible rfl); exact rfl)
       | (apply z13; exact rfl; (with_reducible rfl); exact rfl)
       | (apply za2; (iterate 3 exact rfl); exact List.getElem?_eq_getElem (by omega))
       | (apply z08 (hc := qy5 s[n]); exact rfl; exact rfl; exact rfl)
       | (apply z04; focus (repeat (first | exact z18 | (apply kq_c; exact rfl))))
       | apply z03
       | apply z00
       | apply z02
       | apply z05
       | apply z06
       | apply z07
       | apply z42
       | (apply z15; exact rfl)
       | (apply z39; exact rfl; (with_reducible rfl))
       | (apply z32; exact rfl; (with_reducible rfl))
       | (apply z28; exact rfl)
       | with_reducible apply z50
       | with_reducible apply z52
       | (with_reducible apply z96; intro hc)
       | (with_reducible apply z62; intro hc)
       | (with_reducible apply z56; intro hc)
       | (with_reducible apply z40; intro hc)
       | (with_reducible apply zg9; intro hc)
       | (apply z49; exact rfl)
      any_goals omega
      any_goals
       refine ⟨n + 1, ?_, rfl, ⟨by omega, tkS (by omega) hall ?_⟩, by omega⟩
       · rw [ctS hns]
         have e1 : (s[n] = 45) ↔ ((s[n].toNat : Int) = 45) := by rw [← UInt8.toNat_inj]; simp; omega
         simp only [e1, *, if_true, if_false]
         repeat' first
          | exact z18
          | refine z47 rfl ?_
       · simp [*]
      any_goals
       refine cb ?_
       simp only [zc6, h0]
       rw [tkF (p := symB) (n := n) hns (by simp [*])]
       simp
    · have hnl : n = s.length := by omega
      subst hnl
      repeat' first
       | apply z01
       | exact z17
       | exact z30 rfl
       | (apply z12; exact rfl; exact rfl)
       | (apply z23; (iterate 3 exact rfl))
       | (apply z27; exact rfl)
       | (apply z09; exact rfl; (with_reducible rfl); exact rfl)
       | (apply z13; exact rfl; (with_reducible rfl); exact rfl)
       | (apply za2; (iterate 3 exact rfl); exact List.getElem?_eq_getElem (by omega))
       | (apply z04; focus (repeat (first | exact z18 | (apply kq_c; exact rfl))))
       | apply z03
       | apply z00
       | apply z02
       | apply z05
       | apply z06
       | apply z07
       | apply z42
       | (apply z15; exact rfl)
       | (apply z39; exact rfl; (with_reducible rfl))
       | (apply z32; exact rfl; (with_reducible rfl))
       | (apply z28; exact rfl)
       | (with_reducible apply z56; intro hc)
       | (with_reducible apply z40; intro hc)
       | (apply z49; exact rfl)
      any_goals omega
      all_goals
       refine cb ?_
       simp only [zc6, h0]
       rw [List.take_length] at hall
       simp only [List.take_length] at *
       simp [*]
       try omega
end Go.Proofs.TryzL
namespace Go.Proofs.TryzL
open Go.Proofs.Lz
def zf3 (s : List UInt8) : Nat := if zl7 s then (if rwordL.contains s then 5 else if q10 s then 2 else 1) else if zc6 s then (if rsymL.contains s then 6 else if s[0]? == some 58 then 4 else 3) else 0
theorem zw1 (s : List UInt8) (hl : s.length < 2^31) : Rets Vv 105 [.c (.str s)] (.c (.int .i64 (zf3 s))) := by
 refine z35 we9 ?_
 cases h0 : s[0]? with
 | none =>
   have e1 : zl7 s = false := by simp [zl7, h0]
   have e2 : zc6 s = false := by simp [zc6, h0]
   have h1 := jc9 s (by omega)
   have h2 := qp8 s (by omega)
   rw [e1] at h1; rw [e2] at h2
   repeat' first
    | apply z01
    | exact z17
    | (apply z12; exact rfl; exact rfl)
    | (apply z08 (hc := h1); exact rfl; exact rfl; exact rfl)
    | (apply z08 (hc := h2); exact rfl; exact rfl; exact rfl)
    | (apply z04; focus (repeat (first | exact z18 | (apply kq_c; exact rfl))))
    | apply z03
    | apply z00
    | apply z02
    | apply z06
    | apply z07
    | (apply z34; exact rfl; (with_reducible rfl))
    | (apply z49; exact rfl)
   all_goals (congr 1; simp [zf3, e1, e2]; done)
 | some c =>
   repeat' first
    | apply z01
    | exact z17
    | (apply z12; exact rfl; exact rfl)
    | (apply z23; (iterate 3 exact rfl))
    | (apply za2; (iterate 3 exact rfl); assumption)
    | (apply z08 (hc := jc9 s (by omega)); exact rfl; exact rfl; exact rfl)
    | (apply z08 (hc := qp8 s (by omega)); exact rfl; exact rfl; exact rfl)
    | (apply z08 (hc := qt5 s); exact rfl; exact rfl; exact rfl)
    | (apply z08 (hc := qs6 s); exact rfl; exact rfl; exact rfl)
    | (apply z08 (hc := qg7 c); exact rfl; exact rfl; exact rfl)
    | (apply z04; focus (repeat (first | exact z18 | (apply kq_c; exact rfl))))
    | apply z03
    | apply z00
    | apply z02
    | apply z06
    | apply z07
    | (apply z15; exact rfl)
    | (with_reducible apply z96; intro hc)
    | (with_reducible apply z62; intro hc)
    | (with_reducible apply zg9; intro hc)
    | (apply z49; exact rfl)
   all_goals have e58 : ((c.toNat : Int) = 58) ↔ c = 58 := u8eq (n := 58) (by decide)
   all_goals (congr 1; simp_all [zf3, q10]; done)
end Go.Proofs.TryzL
