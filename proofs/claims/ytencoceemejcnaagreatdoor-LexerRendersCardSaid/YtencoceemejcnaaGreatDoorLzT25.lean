/- Chapter 02: the reference's printable tokens, by kinds. -/
import Derived.Test.YtencoceemejcnaaGreatDoorLzT20
set_option linter.unusedSimpArgs false
set_option linter.unusedVariables false
namespace Go.Proofs.TryzL
open Go.Proofs.Lz
set_option maxHeartbeats 4000000
section
variable {V : WEnv} {fr fr' : WFr} {H H' : z16} {N : Post} {dst : Option Nat}
theorem jz0 {x y : Opd} {m : Nat} (hx : fr.rd x = .c (.int .i64 m)) (hy : fr.rd y = .c (.int .i64 10)) (hm : m ≤ 9223372036854775807) (hq : Put fr dst (.c (.int .i64 (m / 10 : Nat))) fr') (h : N fr' H) : OpP V (.bin .quo x y) dst fr H N := by
 refine z23 (v := .int .i64 (m / 10 : Nat)) hx hy ?_ hq h
 have e : IntKind.i64.wrap ((m : Int).tdiv 10) = ((m / 10 : Nat) : Int) := by
  rw [Int.tdiv_eq_ediv_of_nonneg (by omega), wrap64 (by omega)]
  omega
 show (if IntKind.i64 = IntKind.i64 ∧ (10 : Int) ≠ 0 then some (CV.int .i64 (IntKind.i64.wrap ((m : Int).tdiv 10))) else none) = _
 rw [if_pos ⟨rfl, by decide⟩, e]
theorem jz1 {x y : Opd} {m : Nat} (hx : fr.rd x = .c (.int .i64 m)) (hy : fr.rd y = .c (.int .i64 10)) (hq : Put fr dst (.c (.int .i64 (m % 10 : Nat))) fr') (h : N fr' H) : OpP V (.bin .rem x y) dst fr H N := by
 refine z23 (v := .int .i64 (m % 10 : Nat)) hx hy ?_ hq h
 have e : ((m : Int).tmod 10) = ((m % 10 : Nat) : Int) := by
  rw [Int.tmod_eq_emod_of_nonneg (by omega)]
  omega
 show (if IntKind.i64 = IntKind.i64 ∧ (10 : Int) ≠ 0 then some (CV.int .i64 ((m : Int).tmod 10)) else none) = _
 rw [if_pos ⟨rfl, by decide⟩, e]
end
theorem jj6 (m : Nat) (h : m ≤ 9223372036854775807) : (Lib.decDigits m).length ≤ 21 := by
 have := Lib.itoa_length_le m (by omega) (by omega)
 unfold Lib.itoa at this
 rw [if_neg (by omega)] at this
 simpa using this
theorem jm6 : ∀ (m : Nat), m ≤ 9223372036854775807 → Rets Vv 83 [.c (.int .i64 m)] (.c (.str (Lib.decDigits m))) := by
 intro m
 induction m using Nat.strongRecOn with
 | _ m ih =>
   intro hm
   refine z35 wx7 ?_
   by_cases h10 : m < 10
   · have hw : IntKind.u8.wrap (48 + (m : Int)) = ((UInt8.ofNat (48 + m)).toNat : Int) := by
      rw [j75 (by omega)]; simp; omega
     have hb2 : ze4 [CV.int .u8 (IntKind.u8.wrap (48 + (m : Int)))] = some [UInt8.ofNat (48 + m)] := by
      rw [hw]; exact zx1 [UInt8.ofNat (48 + m)]
     have e : Lib.decDigits m = [UInt8.ofNat (48 + m)] := by rw [Lib.decDigits]; simp [h10]
     repeat' first
      | apply z01
      | exact z17
      | exact zd9 rfl rfl
      | (apply z12; exact rfl; exact rfl)
      | (apply z88; exact rfl; exact rfl; omega)
      | (apply zz7; exact rfl; assumption)
      | (apply z23; (iterate 3 exact rfl))
      | (apply q73; (iterate 6 exact rfl))
      | (apply qe0; exact rfl)
      | (apply z04; focus (repeat (first | exact z18 | (apply kq_c; exact rfl))))
      | apply z03
      | apply z00
      | apply z02
      | apply z07
      | (apply z15; exact rfl)
      | (with_reducible apply z56; intro hc; try (exfalso; omega))
      | (with_reducible apply z40; intro hc; try (exfalso; omega))
      | (apply z49; exact rfl)
     rw [e]
   · have i1 := ih (m / 10) (by omega) (by omega)
     have i2 := ih (m % 10) (by omega) (by omega)
     have l1 := jj6 (m / 10) (by omega)
     have l2 := jj6 (m % 10) (by omega)
     have e2 : Lib.decDigits (m % 10) = [UInt8.ofNat (48 + m % 10)] := by
      have : m % 10 < 10 := by omega
      rw [Lib.decDigits]; simp [this]
     have e : Lib.decDigits m = Lib.decDigits (m / 10) ++ Lib.decDigits (m % 10) := by
      rw [e2, Lib.decDigits]; simp [h10]
     repeat' first
      | apply z01
      | exact z17
      | (apply z12; exact rfl; exact rfl)
      | (apply jz0; exact rfl; exact rfl; omega)
      | (apply jz1; exact rfl; exact rfl)
      | (apply zg3; exact rfl; exact rfl; (omega))
      | (apply z23; (iterate 3 exact rfl))
      | (apply z08 (hc := i1); exact rfl; exact rfl; exact rfl)
      | (apply z08 (hc := i2); exact rfl; exact rfl; exact rfl)
      | (apply z04; focus (repeat (first | exact z18 | (apply kq_c; exact rfl))))
      | apply z03
      | apply z00
      | apply z02
      | apply z06
      | apply z07
      | (apply z15; exact rfl)
      | (with_reducible apply z56; intro hc; try (exfalso; omega))
      | (with_reducible apply z40; intro hc; try (exfalso; omega))
      | (apply z49; exact rfl)
     rw [e]
theorem j76 (n : Int) (h : 0 ≤ n ∧ n ≤ 9223372036854775807) : Rets Vv 83 [.c (.int .i64 n)] (.c (.str (Lib.itoa n))) := by
 obtain ⟨m, rfl⟩ : ∃ m : Nat, n = m := ⟨n.toNat, by omega⟩
 have := jm6 m (by omega)
 have e : Lib.itoa (m : Int) = Lib.decDigits m := by unfold Lib.itoa; rw [if_neg (by omega)]; simp
 rw [e]; exact this
theorem wi7 (op : Int) (qual text : List UInt8) (n : Int) (auto : Bool) (line col : Int) (hl : text.length < 2^31) (hq : qual.length < 2^31) (hn : -9223372036854775808 ≤ n ∧ n ≤ 9223372036854775807) (h5 : op = 5 → 0 ≤ n) : Rets Vv 49 [.c (tokA op qual text n auto line col)] (.c (.str (textS op qual text n))) := by
 refine z35 ws6 ?_
 by_cases h0 : 0 ≤ n
 · repeat' first
    | apply z01
    | exact z17
    | exact z68 rfl
    | (apply z12; exact rfl; exact rfl)
    | (apply z22; (iterate 3 exact rfl))
    | (apply zg3; exact rfl; exact rfl; (simp only [List.length_map, List.length_cons, List.length_nil, List.length_append, List.length_replicate]; omega))
    | (apply z23; (iterate 3 exact rfl))
    | (apply z19; exact rfl; exact z74 rfl)
    | (apply z58; exact rfl; exact rfl; first | exact z41 (by first | exact rfl | assumption | exact z14 (by assumption)) | exact z45 (by first | exact rfl | assumption | exact z14 (by assumption)))
    | (apply z08 (hc := j76 n ⟨h0, hn.2⟩); exact rfl; exact rfl; exact rfl)
    | (apply z08 (hc := qc22 n); exact rfl; exact rfl; exact rfl)
    | (apply z08 (hc := jp0 text hl); exact rfl; exact rfl; exact rfl)
    | (apply z04; focus (repeat (first | exact z18 | (apply kq_c; exact rfl) | (apply z48; exact rfl))))
    | apply z03
    | apply z00
    | apply z02
    | apply z05
    | apply z06
    | apply z07
    | (apply z15; exact rfl)
    | with_reducible apply z50
    | with_reducible apply z52
    | (with_reducible apply z96; intro hc; try (exfalso; omega))
    | (with_reducible apply zb1; intro hc)
    | (with_reducible apply z62; intro hc; try (exfalso; omega))
    | (with_reducible apply z69; intro hc)
    | (apply z49; exact rfl)
   all_goals (congr 1; simp [textS, *])
 · have h5' : ¬ op = 5 := fun h => h0 (h5 h)
   repeat' first
    | apply z01
    | exact z17
    | exact z68 rfl
    | (apply z12; exact rfl; exact rfl)
    | (apply z22; (iterate 3 exact rfl))
    | (apply zg3; exact rfl; exact rfl; (simp only [List.length_map, List.length_cons, List.length_nil, List.length_append, List.length_replicate]; omega))
    | (apply z23; (iterate 3 exact rfl))
    | (apply z19; exact rfl; exact z74 rfl)
    | (apply z58; exact rfl; exact rfl; first | exact z41 (by first | exact rfl | assumption | exact z14 (by assumption)) | exact z45 (by first | exact rfl | assumption | exact z14 (by assumption)))
    | (apply z08 (hc := qc22 n); exact rfl; exact rfl; exact rfl)
    | (apply z08 (hc := jp0 text hl); exact rfl; exact rfl; exact rfl)
    | (apply z04; focus (repeat (first | exact z18 | (apply kq_c; exact rfl) | (apply z48; exact rfl))))
    | apply z03
    | apply z00
    | apply z02
    | apply z05
    | apply z06
    | apply z07
    | (apply z15; exact rfl)
    | with_reducible apply z50
    | with_reducible apply z52
    | (with_reducible apply z96; intro hc; try (exfalso; omega))
    | (with_reducible apply zb1; intro hc)
    | (with_reducible apply z62; intro hc; try (exfalso; omega))
    | (with_reducible apply z69; intro hc)
    | (apply z49; exact rfl)
   all_goals (congr 1; simp [textS, *])
end Go.Proofs.TryzL
namespace Go.Proofs.TryzL
open Go.Proofs.Lz
theorem zp7 (s : List UInt8) : ∀ k, Lib.repeatL s (k + 1) = Lib.repeatL s k ++ s
 | 0 => by simp [Lib.repeatL]
 | k + 1 => by
   show s ++ Lib.repeatL s (k + 1) = (s ++ Lib.repeatL s k) ++ s
   rw [zp7 s k, List.append_assoc]
theorem ju4 (s : List UInt8) (m : Nat) (hl : s.length ≤ 2^20) (hm : m ≤ 2^30) : Rets Vv 48 [.c (.str s), .c (.int .i64 m)] (.c (.str (Lib.repeatL s m))) := by
 refine z35 wu3 ?_
 repeat' first
  | apply z01
  | exact z17
  | (apply z12; exact rfl; exact rfl)
  | apply z03
  | apply z00
  | apply z02
  | apply z05
 refine z93 (fun n : Nat => [(0, .c (.str s)), (1, .c (.int .i64 m)), (5, .c (.str (Lib.repeatL s n))), (6, .c (.int .i64 n))]) (fun n => n ≤ m) (fun n => m - n) 0 ?_ (Nat.zero_le _) ?_
 · repeat' first
    | exact z18
    | refine z47 rfl ?_
 intro n hn
 have hlen : (Lib.repeatL s n).length ≤ 2^50 := by
  rw [Lib.repeatL_length]
  have : n * s.length ≤ 2^30 * 2^20 := Nat.mul_le_mul (by omega) hl
  omega
 by_cases hns : n < m
 · repeat' first
    | apply z01
    | exact z17
    | (apply z12; exact rfl; exact rfl)
    | (apply z88; exact rfl; exact rfl; omega)
    | (apply zg3; exact rfl; exact rfl; (omega))
    | (apply z23; (iterate 3 exact rfl))
    | (apply z04; focus (repeat (first | exact z18 | (apply kq_c; exact rfl))))
    | apply z03
    | apply z00
    | apply z02
    | apply z05
    | apply z06
    | apply z07
    | apply z42
    | (apply z15; exact rfl)
    | (with_reducible apply z56; intro hc)
    | (with_reducible apply z40; intro hc)
    | (apply z49; exact rfl)
   any_goals (exfalso; omega)
   refine ⟨n + 1, ?_, rfl, by omega, by omega⟩
   rw [zp7]
   repeat' first
    | exact z18
    | refine z47 rfl ?_
 · have hnl : n = m := by omega
   subst hnl
   repeat' first
    | apply z01
    | exact z17
    | (apply z12; exact rfl; exact rfl)
    | (apply z88; exact rfl; exact rfl; omega)
    | (apply zg3; exact rfl; exact rfl; (omega))
    | (apply z23; (iterate 3 exact rfl))
    | (apply z04; focus (repeat (first | exact z18 | (apply kq_c; exact rfl))))
    | apply z03
    | apply z00
    | apply z02
    | apply z05
    | apply z06
    | apply z07
    | apply z42
    | (apply z15; exact rfl)
    | (with_reducible apply z56; intro hc)
    | (with_reducible apply z40; intro hc)
    | (apply z49; exact rfl)
   any_goals (exfalso; omega)
   rfl
end Go.Proofs.TryzL
namespace Go.Proofs.TryzL
open Go.Proofs.Lz
theorem w53 : ∀ s ∈ rwordL, zl7 s = true := by decide +kernel
theorem jp5 : ∀ s ∈ rsymL, zc6 s = true ∧ zl7 s = false := by decide +kernel
theorem ju9 (s : List UInt8) : zu1 s = zj0 s ∨ ((zu1 s = 0 ∨ zu1 s = 7) ∧ (zj0 s = 0 ∨ zj0 s = 7)) := by
 unfold zu1 zj0 zf3
 by_cases h1 : s ∈ rwordL
 · have hw := w53 s h1
   left; simp [h1, hw]
 · by_cases h2 : s ∈ rsymL
   · obtain ⟨hs, hw⟩ := jp5 s h2
     left; simp [h1, h2, hs, hw]
   · by_cases hw : zl7 s = true
     · left
       by_cases hu : q10 s = true
       · simp [h1, h2, hw, hu]
       · simp [h1, h2, hw, hu]
     · by_cases hs : zc6 s = true
       · left
         by_cases hc : s[0]? = some 58
         · simp [h1, h2, hw, hs, hc]
         · simp [h1, h2, hw, hs, hc]
       · right
         simp only [List.contains_eq_mem, h1, h2, hw, hs, decide_false, if_false, Bool.false_eq_true, Bool.false_and]
         constructor
         · by_cases hb : (je2 s).isSome = true
           · simp [hb]
           · simp [hb]
         · by_cases hb : (qw3 s).isSome = true
           · simp [hb]
           · simp [hb]
theorem z87 (s : List UInt8) {k : Nat} (h1 : 1 ≤ k) (h6 : k ≤ 6) : zu1 s = k ↔ zj0 s = k := by
 rcases ju9 s with h | ⟨h, h'⟩
 · rw [h]
 · omega
end Go.Proofs.TryzL
namespace Go.Proofs.TryzL
open Go.Proofs.Lz
theorem in96 (c : UInt8) (s : List UInt8) (hl : s.length < 2^31) : Rets Vv 96 [.c (bC c), .c (.str s)] (.c (.bool (s.contains c))) := by
 refine z35 wv4 ?_
 repeat' first
  | apply z01
  | exact z17
  | (apply z12; exact rfl; exact rfl)
  | apply z03
  | apply z00
  | apply z02
  | apply z05
 refine z93 (fun n : Nat => [(0, .c (bC c)), (1, .c (.str s)), (5, .c (.int .i64 n))]) (fun n => n ≤ s.length ∧ (s.take n).all (· != c) = true) (fun n => s.length - n) 0 ?_ ⟨Nat.zero_le _, tk0⟩ ?_
 · repeat' first
    | exact z18
    | refine z47 rfl ?_
 rintro n ⟨hn, hall⟩
 repeat' first
  | apply z01
  | exact z17
  | (apply z12; exact rfl; exact rfl)
  | (apply z88; exact rfl; exact rfl; omega)
  | (apply z23; (iterate 3 exact rfl))
  | (apply z27; exact rfl)
  | (apply za2; (iterate 3 exact rfl); exact List.getElem?_eq_getElem (by omega))
  | (apply z04; focus (repeat (first | exact z18 | (apply kq_c; exact rfl))))
  | apply z03
  | apply z00
  | apply z02
  | apply z05
  | apply z06
  | apply z07
  | apply z42
  | (apply z15; exact rfl)
  | (with_reducible apply z96; intro hc)
  | (with_reducible apply z62; intro hc)
  | (with_reducible apply z56; intro hc)
  | (with_reducible apply z40; intro hc)
  | (apply z49; exact rfl)
 · refine cb ?_
   rename_i hc
   have e := u8i.1 hc
   simp only [true_iff, List.contains_eq_mem, decide_eq_true_eq]
   rw [← e]
   exact List.getElem_mem _
 · refine ⟨n + 1, ?_, rfl, ⟨by omega, tkS (by omega) hall ?_⟩, by omega⟩
   · repeat' first
      | exact z18
      | refine z47 rfl ?_
   · rename_i hc
     rw [u8i] at hc
     simpa using hc
 · refine cb ?_
   have := tkE (by omega) hall
   simp only [List.contains_eq_mem]
   simp only [List.all_eq_true, bne_iff_ne] at this
   constructor
   · intro h; cases h
   · intro h; exact absurd rfl (this c (by simpa using h))
theorem jm5 (c : UInt8) : Rets Vv 75 [.c (bC c)] (.c (.bool (spS.contains c))) := by
 refine z35 wy5 ?_
 repeat' first
  | apply z01
  | exact z17
  | (apply z12; exact rfl; exact rfl)
  | (apply z08 (hc := in96 c spS (by decide)); exact rfl; exact rfl; exact rfl)
  | apply z03
  | apply z00
  | apply z02
  | apply z07
  | (apply z49; exact rfl)
 rfl
end Go.Proofs.TryzL
namespace Go.Proofs.TryzL
open Go.Proofs.Lz
theorem ws0 (qual text : List UInt8) (n : Int) (auto : Bool) (line col : Int) (hl : text.length < 2^31) (hq : qual.length < 2^31) : Rets Vv 47 [.c (tokA 1 qual text n auto line col)] (.c (.bool (z63 1 qual text n))) := by
 refine z35 qb0 ?_
 repeat' first
  | apply z01
  | exact z17
  | exact z30 rfl
  | exact z68 rfl
  | (apply z12; exact rfl; exact rfl)
  | (apply z22; (iterate 3 exact rfl))
  | (apply z23; (iterate 3 exact rfl))
  | (apply z09; exact rfl; (with_reducible rfl); exact rfl)
  | (apply z13; exact rfl; (with_reducible rfl); exact rfl)
  | (apply z19; exact rfl; exact z74 rfl)
  | (apply z58; exact rfl; exact rfl; first | exact z41 (by first | exact rfl | assumption | exact z14 (by assumption)) | exact z45 (by first | exact rfl | assumption | exact z14 (by assumption)))
  | (apply z08 (hc := z54 qual hq); exact rfl; exact rfl; exact rfl)
  | (apply z08 (hc := z54 text hl); exact rfl; exact rfl; exact rfl)
  | (apply z04; focus (repeat (first | exact z18 | (apply kq_c; exact rfl) | (apply z48; exact rfl))))
  | apply z03
  | apply z00
  | apply z02
  | apply z05
  | apply z06
  | apply z07
  | (apply z34; exact rfl; (with_reducible rfl))
  | (apply z15; exact rfl)
  | (apply z39; exact rfl; (with_reducible rfl))
  | (apply z29; exact rfl; (with_reducible rfl))
  | (apply z28; exact rfl)
  | with_reducible apply z50
  | with_reducible apply z52
  | (with_reducible apply z96; intro hc; try (exfalso; omega))
  | (with_reducible apply zb1; intro hc)
  | (with_reducible apply z62; intro hc; try (exfalso; omega))
  | (with_reducible apply z69; intro hc)
  | (with_reducible apply zc9; intro hc; try (exfalso; omega))
  | (with_reducible apply z97; intro hc; try (exfalso; omega))
  | (apply z49; exact rfl)
 all_goals first | contradiction | (refine cb ?_; simp [z63, zg8, ← z87 qual (k := 2) (by decide) (by decide), ← z87 text (k := 1) (by decide) (by decide), *] <;> omega)
theorem wt1 (qual text : List UInt8) (n : Int) (auto : Bool) (line col : Int) (hl : text.length < 2^31) (hq : qual.length < 2^31) : Rets Vv 47 [.c (tokA 2 qual text n auto line col)] (.c (.bool (z63 2 qual text n))) := by
 refine z35 qb0 ?_
 repeat' first
  | apply z01
  | exact z17
  | exact z30 rfl
  | exact z68 rfl
  | (apply z12; exact rfl; exact rfl)
  | (apply z22; (iterate 3 exact rfl))
  | (apply z23; (iterate 3 exact rfl))
  | (apply z09; exact rfl; (with_reducible rfl); exact rfl)
  | (apply z13; exact rfl; (with_reducible rfl); exact rfl)
  | (apply z19; exact rfl; exact z74 rfl)
  | (apply z58; exact rfl; exact rfl; first | exact z41 (by first | exact rfl | assumption | exact z14 (by assumption)) | exact z45 (by first | exact rfl | assumption | exact z14 (by assumption)))
  | (apply z08 (hc := z54 qual hq); exact rfl; exact rfl; exact rfl)
  | (apply z08 (hc := z54 text hl); exact rfl; exact rfl; exact rfl)
  | (apply z04; focus (repeat (first | exact z18 | (apply kq_c; exact rfl) | (apply z48; exact rfl))))
  | apply z03
  | apply z00
  | apply z02
  | apply z05
  | apply z06
  | apply z07
  | (apply z34; exact rfl; (with_reducible rfl))
  | (apply z15; exact rfl)
  | (apply z39; exact rfl; (with_reducible rfl))
  | (apply z29; exact rfl; (with_reducible rfl))
  | (apply z28; exact rfl)
  | with_reducible apply z50
  | with_reducible apply z52
  | (with_reducible apply z96; intro hc; try (exfalso; omega))
  | (with_reducible apply zb1; intro hc)
  | (with_reducible apply z62; intro hc; try (exfalso; omega))
  | (with_reducible apply z69; intro hc)
  | (with_reducible apply zc9; intro hc; try (exfalso; omega))
  | (with_reducible apply z97; intro hc; try (exfalso; omega))
  | (apply z49; exact rfl)
 all_goals first | contradiction | (refine cb ?_; simp [z63, zg8, ← z87 qual (k := 2) (by decide) (by decide), ← z87 text (k := 2) (by decide) (by decide), *] <;> omega)
theorem wx4 (qual text : List UInt8) (n : Int) (auto : Bool) (line col : Int) (hl : text.length < 2^31) (hq : qual.length < 2^31) : Rets Vv 47 [.c (tokA 3 qual text n auto line col)] (.c (.bool (z63 3 qual text n))) := by
 refine z35 qb0 ?_
 repeat' first
  | apply z01
  | exact z17
  | exact z30 rfl
  | exact z68 rfl
  | (apply z12; exact rfl; exact rfl)
  | (apply z22; (iterate 3 exact rfl))
  | (apply z23; (iterate 3 exact rfl))
  | (apply z09; exact rfl; (with_reducible rfl); exact rfl)
  | (apply z13; exact rfl; (with_reducible rfl); exact rfl)
  | (apply z19; exact rfl; exact z74 rfl)
  | (apply z58; exact rfl; exact rfl; first | exact z41 (by first | exact rfl | assumption | exact z14 (by assumption)) | exact z45 (by first | exact rfl | assumption | exact z14 (by assumption)))
  | (apply z08 (hc := z54 qual hq); exact rfl; exact rfl; exact rfl)
  | (apply z08 (hc := z54 text hl); exact rfl; exact rfl; exact rfl)
  | (apply z04; focus (repeat (first | exact z18 | (apply kq_c; exact rfl) | (apply z48; exact rfl))))
  | apply z03
  | apply z00
  | apply z02
  | apply z05
  | apply z06
  | apply z07
  | (apply z34; exact rfl; (with_reducible rfl))
  | (apply z15; exact rfl)
  | (apply z39; exact rfl; (with_reducible rfl))
  | (apply z29; exact rfl; (with_reducible rfl))
  | (apply z28; exact rfl)
  | with_reducible apply z50
  | with_reducible apply z52
  | (with_reducible apply z96; intro hc; try (exfalso; omega))
  | (with_reducible apply zb1; intro hc)
  | (with_reducible apply z62; intro hc; try (exfalso; omega))
  | (with_reducible apply z69; intro hc)
  | (with_reducible apply zc9; intro hc; try (exfalso; omega))
  | (with_reducible apply z97; intro hc; try (exfalso; omega))
  | (apply z49; exact rfl)
 all_goals first | contradiction | (refine cb ?_; simp [z63, zg8, ← z87 qual (k := 2) (by decide) (by decide), ← z87 text (k := 3) (by decide) (by decide), *] <;> omega)
theorem wz4 (qual text : List UInt8) (n : Int) (auto : Bool) (line col : Int) (hl : text.length < 2^31) (hq : qual.length < 2^31) : Rets Vv 47 [.c (tokA 4 qual text n auto line col)] (.c (.bool (z63 4 qual text n))) := by
 refine z35 qb0 ?_
 repeat' first
  | apply z01
  | exact z17
  | exact z30 rfl
  | exact z68 rfl
  | (apply z12; exact rfl; exact rfl)
  | (apply z22; (iterate 3 exact rfl))
  | (apply z23; (iterate 3 exact rfl))
  | (apply z09; exact rfl; (with_reducible rfl); exact rfl)
  | (apply z13; exact rfl; (with_reducible rfl); exact rfl)
  | (apply z19; exact rfl; exact z74 rfl)
  | (apply z58; exact rfl; exact rfl; first | exact z41 (by first | exact rfl | assumption | exact z14 (by assumption)) | exact z45 (by first | exact rfl | assumption | exact z14 (by assumption)))
  | (apply z08 (hc := z54 qual hq); exact rfl; exact rfl; exact rfl)
  | (apply z08 (hc := z54 text hl); exact rfl; exact rfl; exact rfl)
  | (apply z04; focus (repeat (first | exact z18 | (apply kq_c; exact rfl) | (apply z48; exact rfl))))
  | apply z03
  | apply z00
  | apply z02
  | apply z05
  | apply z06
  | apply z07
  | (apply z34; exact rfl; (with_reducible rfl))
  | (apply z15; exact rfl)
  | (apply z39; exact rfl; (with_reducible rfl))
  | (apply z29; exact rfl; (with_reducible rfl))
  | (apply z28; exact rfl)
  | with_reducible apply z50
  | with_reducible apply z52
  | (with_reducible apply z96; intro hc; try (exfalso; omega))
  | (with_reducible apply zb1; intro hc)
  | (with_reducible apply z62; intro hc; try (exfalso; omega))
  | (with_reducible apply z69; intro hc)
  | (with_reducible apply zc9; intro hc; try (exfalso; omega))
  | (with_reducible apply z97; intro hc; try (exfalso; omega))
  | (apply z49; exact rfl)
 all_goals first | contradiction | (refine cb ?_; simp [z63, zg8, ← z87 qual (k := 2) (by decide) (by decide), ← z87 text (k := 4) (by decide) (by decide), *] <;> omega)
theorem wv7 (qual text : List UInt8) (n : Int) (auto : Bool) (line col : Int) (hl : text.length < 2^31) (hq : qual.length < 2^31) : Rets Vv 47 [.c (tokA 9 qual text n auto line col)] (.c (.bool (z63 9 qual text n))) := by
 refine z35 qb0 ?_
 repeat' first
  | apply z01
  | exact z17
  | exact z30 rfl
  | exact z68 rfl
  | (apply z12; exact rfl; exact rfl)
  | (apply z22; (iterate 3 exact rfl))
  | (apply z23; (iterate 3 exact rfl))
  | (apply z09; exact rfl; (with_reducible rfl); exact rfl)
  | (apply z13; exact rfl; (with_reducible rfl); exact rfl)
  | (apply z19; exact rfl; exact z74 rfl)
  | (apply z58; exact rfl; exact rfl; first | exact z41 (by first | exact rfl | assumption | exact z14 (by assumption)) | exact z45 (by first | exact rfl | assumption | exact z14 (by assumption)))
  | (apply z08 (hc := z54 qual hq); exact rfl; exact rfl; exact rfl)
  | (apply z08 (hc := z54 text hl); exact rfl; exact rfl; exact rfl)
  | (apply z04; focus (repeat (first | exact z18 | (apply kq_c; exact rfl) | (apply z48; exact rfl))))
  | apply z03
  | apply z00
  | apply z02
  | apply z05
  | apply z06
  | apply z07
  | (apply z34; exact rfl; (with_reducible rfl))
  | (apply z15; exact rfl)
  | (apply z39; exact rfl; (with_reducible rfl))
  | (apply z29; exact rfl; (with_reducible rfl))
  | (apply z28; exact rfl)
  | with_reducible apply z50
  | with_reducible apply z52
  | (with_reducible apply z96; intro hc; try (exfalso; omega))
  | (with_reducible apply zb1; intro hc)
  | (with_reducible apply z62; intro hc; try (exfalso; omega))
  | (with_reducible apply z69; intro hc)
  | (with_reducible apply zc9; intro hc; try (exfalso; omega))
  | (with_reducible apply z97; intro hc; try (exfalso; omega))
  | (apply z49; exact rfl)
 all_goals first | contradiction | (refine cb ?_; simp [z63, zg8, ← z87 qual (k := 2) (by decide) (by decide), ← z87 text (k := 5) (by decide) (by decide), *] <;> omega)
theorem wk1 (qual text : List UInt8) (n : Int) (auto : Bool) (line col : Int) (hl : text.length < 2^31) (hq : qual.length < 2^31) : Rets Vv 47 [.c (tokA 10 qual text n auto line col)] (.c (.bool (z63 10 qual text n))) := by
 refine z35 qb0 ?_
 repeat' first
  | apply z01
  | exact z17
  | exact z30 rfl
  | exact z68 rfl
  | (apply z12; exact rfl; exact rfl)
  | (apply z22; (iterate 3 exact rfl))
  | (apply z23; (iterate 3 exact rfl))
  | (apply z09; exact rfl; (with_reducible rfl); exact rfl)
  | (apply z13; exact rfl; (with_reducible rfl); exact rfl)
  | (apply z19; exact rfl; exact z74 rfl)
  | (apply z58; exact rfl; exact rfl; first | exact z41 (by first | exact rfl | assumption | exact z14 (by assumption)) | exact z45 (by first | exact rfl | assumption | exact z14 (by assumption)))
  | (apply z08 (hc := z54 qual hq); exact rfl; exact rfl; exact rfl)
  | (apply z08 (hc := z54 text hl); exact rfl; exact rfl; exact rfl)
  | (apply z04; focus (repeat (first | exact z18 | (apply kq_c; exact rfl) | (apply z48; exact rfl))))
  | apply z03
  | apply z00
  | apply z02
  | apply z05
  | apply z06
  | apply z07
  | (apply z34; exact rfl; (with_reducible rfl))
  | (apply z15; exact rfl)
  | (apply z39; exact rfl; (with_reducible rfl))
  | (apply z29; exact rfl; (with_reducible rfl))
  | (apply z28; exact rfl)
  | with_reducible apply z50
  | with_reducible apply z52
  | (with_reducible apply z96; intro hc; try (exfalso; omega))
  | (with_reducible apply zb1; intro hc)
  | (with_reducible apply z62; intro hc; try (exfalso; omega))
  | (with_reducible apply z69; intro hc)
  | (with_reducible apply zc9; intro hc; try (exfalso; omega))
  | (with_reducible apply z97; intro hc; try (exfalso; omega))
  | (apply z49; exact rfl)
 all_goals first | contradiction | (refine cb ?_; simp [z63, zg8, ← z87 qual (k := 2) (by decide) (by decide), ← z87 text (k := 6) (by decide) (by decide), *] <;> omega)
end Go.Proofs.TryzL
