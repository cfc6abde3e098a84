/- Chapter 02: a token's text. -/
import Derived.Test.YtencoceemejcnaaGreatDoorLzT17
set_option linter.unusedSimpArgs false
set_option linter.unusedVariables false
namespace Go.Proofs.TryzL
open Go.Proofs.Lz
set_option maxHeartbeats 4000000
structure Tok where
 op : Int
 qual : List UInt8
 text : List UInt8
 n : Int
 auto : Bool
 line : Int
 col : Int
def tokC (t : Tok) : CV := .agg [.int .i64 t.op, .str t.qual, .str t.text, .int .i64 t.n, .bool t.auto, .int .i64 t.line, .int .i64 t.col]
theorem jq7 (c : List UInt8) (h : c.length = 1) : Rets Vv 77 [.c (.str spS), .c (.str c)] (.c (.bool (spS.contains (c.headD 0)))) := by
 obtain ⟨x, rfl⟩ := List.length_eq_one_iff.1 h
 have h := zr1 (V := Vv) (f := 77) (xs := [.str spS, .str [x]]) (u := .bool (decide (0 ≤ Lib.indexByte spS x))) (g := hasG) rfl rfl rfl
 rw [jg3] at h
 exact h
def zg8 (op : Int) (text : List UInt8) (n : Int) : Bool :=
 if op = 1 then decide (zj0 text = 1) && decide (n = 0) else if op = 2 then decide (zj0 text = 2) && decide (n = 0) else if op = 3 then decide (zj0 text = 3) && decide (n = 0)
 else if op = 4 then decide (zj0 text = 4) && decide (n = 0) else if op = 9 then decide (zj0 text = 5) && decide (n = 0) else if op = 10 then decide (zj0 text = 6) && decide (n = 0)
 else if op = 8 then decide (text.length = 1) && (spS.contains (text.headD 0)) && decide (n = 0) else if op = 7 then decide (text.length ≤ 200) && decide (n = 0)
 else if op = 5 then decide (text = []) && decide (0 ≤ n) else if op = 6 then decide (text = []) && decide (0 ≤ n) && decide (n ≤ 255) else false
def zt9 (t : Tok) : Bool := (decide (t.qual = []) || (decide (1 ≤ t.op) && decide (t.op ≤ 4) && decide (zj0 t.qual = 2))) && zg8 t.op t.text t.n
def tokA (op : Int) (qual text : List UInt8) (n : Int) (auto : Bool) (line col : Int) : CV := .agg [.int .i64 op, .str qual, .str text, .int .i64 n, .bool auto, .int .i64 line, .int .i64 col]
def z63 (op : Int) (qual text : List UInt8) (n : Int) : Bool := (decide (qual = []) || (decide (1 ≤ op) && decide (op ≤ 4) && decide (zj0 qual = 2))) && zg8 op text n
theorem ws9 (qual text : List UInt8) (n : Int) (auto : Bool) (line col : Int) (hl : text.length < 2^31) (hq : qual.length < 2^31) : Rets Vv 40 [.c (tokA 1 qual text n auto line col)] (.c (.bool (z63 1 qual text n))) := by
 refine z35 q88 ?_
 repeat' first
  | apply z01
  | exact z17
  | exact z30 rfl
  | exact z68 rfl
  | (apply z12; exact rfl; exact rfl)
  | (apply z22; (iterate 3 exact rfl))
  | (apply z23; (iterate 3 exact rfl))
  | (apply za8; exact rfl; exact rfl)
  | (apply z09; exact rfl; (with_reducible rfl); exact rfl)
  | (apply z13; exact rfl; (with_reducible rfl); exact rfl)
  | (apply z19; exact rfl; exact z74 rfl)
  | (apply z58; exact rfl; exact rfl; first | exact z41 (by first | exact rfl | assumption | exact z14 (by assumption)) | exact z45 (by first | exact rfl | assumption | exact z14 (by assumption)))
  | (apply z08 (hc := z79 qual hq); exact rfl; exact rfl; exact rfl)
  | (apply z08 (hc := z79 text hl); exact rfl; exact rfl; exact rfl)
  | (apply z04; focus (repeat (first | exact z18 | (apply kq_c; exact rfl) | (apply z48; exact rfl))))
  | apply z03
  | apply z00
  | apply z02
  | apply z05
  | apply z06
  | apply z07
  | (apply z34; exact rfl; (with_reducible rfl))
  | (apply z15; exact rfl)
  | (apply z39; exact rfl; (with_reducible rfl))
  | (apply z29; exact rfl; (with_reducible rfl))
  | (apply z90; exact rfl)
  | (apply z28; exact rfl)
  | with_reducible apply z50
  | with_reducible apply z52
  | (with_reducible apply z96; intro hc; try (exfalso; omega))
  | (with_reducible apply zb1; intro hc)
  | (with_reducible apply z62; intro hc; try (exfalso; omega))
  | (with_reducible apply z69; intro hc)
  | (with_reducible apply zc9; intro hc; try (exfalso; omega))
  | (with_reducible apply z97; intro hc; try (exfalso; omega))
  | (with_reducible apply z56; intro hc; try (exfalso; omega))
  | (with_reducible apply z40; intro hc; try (exfalso; omega))
  | (apply z49; exact rfl)
 all_goals (refine cb ?_; simp [z63, zg8, *] <;> omega)
theorem v01 (qual text : List UInt8) (n : Int) (auto : Bool) (line col : Int) (hl : text.length < 2^31) (hq : qual.length < 2^31) : Rets Vv 40 [.c (tokA 2 qual text n auto line col)] (.c (.bool (z63 2 qual text n))) := by
 refine z35 q88 ?_
 repeat' first
  | apply z01
  | exact z17
  | exact z30 rfl
  | exact z68 rfl
  | (apply z12; exact rfl; exact rfl)
  | (apply z22; (iterate 3 exact rfl))
  | (apply z23; (iterate 3 exact rfl))
  | (apply za8; exact rfl; exact rfl)
  | (apply z09; exact rfl; (with_reducible rfl); exact rfl)
  | (apply z13; exact rfl; (with_reducible rfl); exact rfl)
  | (apply z19; exact rfl; exact z74 rfl)
  | (apply z58; exact rfl; exact rfl; first | exact z41 (by first | exact rfl | assumption | exact z14 (by assumption)) | exact z45 (by first | exact rfl | assumption | exact z14 (by assumption)))
  | (apply z08 (hc := z79 qual hq); exact rfl; exact rfl; exact rfl)
  | (apply z08 (hc := z79 text hl); exact rfl; exact rfl; exact rfl)
  | (apply z04; focus (repeat (first | exact z18 | (apply kq_c; exact rfl) | (apply z48; exact rfl))))
  | apply z03
  | apply z00
  | apply z02
  | apply z05
  | apply z06
  | apply z07
  | (apply z34; exact rfl; (with_reducible rfl))
  | (apply z15; exact rfl)
  | (apply z39; exact rfl; (with_reducible rfl))
  | (apply z29; exact rfl; (with_reducible rfl))
  | (apply z90; exact rfl)
  | (apply z28; exact rfl)
  | with_reducible apply z50
  | with_reducible apply z52
  | (with_reducible apply z96; intro hc; try (exfalso; omega))
  | (with_reducible apply zb1; intro hc)
  | (with_reducible apply z62; intro hc; try (exfalso; omega))
  | (with_reducible apply z69; intro hc)
  | (with_reducible apply zc9; intro hc; try (exfalso; omega))
  | (with_reducible apply z97; intro hc; try (exfalso; omega))
  | (with_reducible apply z56; intro hc; try (exfalso; omega))
  | (with_reducible apply z40; intro hc; try (exfalso; omega))
  | (apply z49; exact rfl)
 all_goals (refine cb ?_; simp [z63, zg8, *] <;> omega)
theorem ww0 (qual text : List UInt8) (n : Int) (auto : Bool) (line col : Int) (hl : text.length < 2^31) (hq : qual.length < 2^31) : Rets Vv 40 [.c (tokA 3 qual text n auto line col)] (.c (.bool (z63 3 qual text n))) := by
 refine z35 q88 ?_
 repeat' first
  | apply z01
  | exact z17
  | exact z30 rfl
  | exact z68 rfl
  | (apply z12; exact rfl; exact rfl)
  | (apply z22; (iterate 3 exact rfl))
  | (apply z23; (iterate 3 exact rfl))
  | (apply za8; exact rfl; exact rfl)
  | (apply z09; exact rfl; (with_reducible rfl); exact rfl)
  | (apply z13; exact rfl; (with_reducible rfl); exact rfl)
  | (apply z19; exact rfl; exact z74 rfl)
  | (apply z58; exact rfl; exact rfl; first | exact z41 (by first | exact rfl | assumption | exact z14 (by assumption)) | exact z45 (by first | exact rfl | assumption | exact z14 (by assumption)))
  | (apply z08 (hc := z79 qual hq); exact rfl; exact rfl; exact rfl)
  | (apply z08 (hc := z79 text hl); exact rfl; exact rfl; exact rfl)
  | (apply z04; focus (repeat (first | exact z18 | (apply kq_c; exact rfl) | (apply z48; exact rfl))))
  | apply z03
  | apply z00
  | apply z02
  | apply z05
  | apply z06
  | apply z07
  | (apply z34; exact rfl; (with_reducible rfl))
  | (apply z15; exact rfl)
  | (apply z39; exact rfl; (with_reducible rfl))
  | (apply z29; exact rfl; (with_reducible rfl))
  | (apply z90; exact rfl)
  | (apply z28; exact rfl)
  | with_reducible apply z50
  | with_reducible apply z52
  | (with_reducible apply z96; intro hc; try (exfalso; omega))
  | (with_reducible apply zb1; intro hc)
  | (with_reducible apply z62; intro hc; try (exfalso; omega))
  | (with_reducible apply z69; intro hc)
  | (with_reducible apply zc9; intro hc; try (exfalso; omega))
  | (with_reducible apply z97; intro hc; try (exfalso; omega))
  | (with_reducible apply z56; intro hc; try (exfalso; omega))
  | (with_reducible apply z40; intro hc; try (exfalso; omega))
  | (apply z49; exact rfl)
 all_goals (refine cb ?_; simp [z63, zg8, *] <;> omega)
theorem wy2 (qual text : List UInt8) (n : Int) (auto : Bool) (line col : Int) (hl : text.length < 2^31) (hq : qual.length < 2^31) : Rets Vv 40 [.c (tokA 4 qual text n auto line col)] (.c (.bool (z63 4 qual text n))) := by
 refine z35 q88 ?_
 repeat' first
  | apply z01
  | exact z17
  | exact z30 rfl
  | exact z68 rfl
  | (apply z12; exact rfl; exact rfl)
  | (apply z22; (iterate 3 exact rfl))
  | (apply z23; (iterate 3 exact rfl))
  | (apply za8; exact rfl; exact rfl)
  | (apply z09; exact rfl; (with_reducible rfl); exact rfl)
  | (apply z13; exact rfl; (with_reducible rfl); exact rfl)
  | (apply z19; exact rfl; exact z74 rfl)
  | (apply z58; exact rfl; exact rfl; first | exact z41 (by first | exact rfl | assumption | exact z14 (by assumption)) | exact z45 (by first | exact rfl | assumption | exact z14 (by assumption)))
  | (apply z08 (hc := z79 qual hq); exact rfl; exact rfl; exact rfl)
  | (apply z08 (hc := z79 text hl); exact rfl; exact rfl; exact rfl)
  | (apply z04; focus (repeat (first | exact z18 | (apply kq_c; exact rfl) | (apply z48; exact rfl))))
  | apply z03
  | apply z00
  | apply z02
  | apply z05
  | apply z06
  | apply z07
  | (apply z34; exact rfl; (with_reducible rfl))
  | (apply z15; exact rfl)
  | (apply z39; exact rfl; (with_reducible rfl))
  | (apply z29; exact rfl; (with_reducible rfl))
  | (apply z90; exact rfl)
  | (apply z28; exact rfl)
  | with_reducible apply z50
  | with_reducible apply z52
  | (with_reducible apply z96; intro hc; try (exfalso; omega))
  | (with_reducible apply zb1; intro hc)
  | (with_reducible apply z62; intro hc; try (exfalso; omega))
  | (with_reducible apply z69; intro hc)
  | (with_reducible apply zc9; intro hc; try (exfalso; omega))
  | (with_reducible apply z97; intro hc; try (exfalso; omega))
  | (with_reducible apply z56; intro hc; try (exfalso; omega))
  | (with_reducible apply z40; intro hc; try (exfalso; omega))
  | (apply z49; exact rfl)
 all_goals (refine cb ?_; simp [z63, zg8, *] <;> omega)
theorem ws5 (qual text : List UInt8) (n : Int) (auto : Bool) (line col : Int) (hl : text.length < 2^31) (hq : qual.length < 2^31) : Rets Vv 40 [.c (tokA 5 qual text n auto line col)] (.c (.bool (z63 5 qual text n))) := by
 refine z35 q88 ?_
 repeat' first
  | apply z01
  | exact z17
  | exact z68 rfl
  | (apply z12; exact rfl; exact rfl)
  | (apply z22; (iterate 3 exact rfl))
  | (apply z23; (iterate 3 exact rfl))
  | (apply za8; exact rfl; exact rfl)
  | (apply z09; exact rfl; (with_reducible rfl); exact rfl)
  | (apply z13; exact rfl; (with_reducible rfl); exact rfl)
  | (apply z19; exact rfl; exact z74 rfl)
  | (apply z58; exact rfl; exact rfl; first | exact z41 (by first | exact rfl | assumption | exact z14 (by assumption)) | exact z45 (by first | exact rfl | assumption | exact z14 (by assumption)))
  | (apply z08 (hc := z79 text hl); exact rfl; exact rfl; exact rfl)
  | (apply z04; focus (repeat (first | exact z18 | (apply kq_c; exact rfl) | (apply z48; exact rfl))))
  | apply z03
  | apply z00
  | apply z02
  | apply z05
  | apply z06
  | apply z07
  | (apply z38; exact rfl; (with_reducible rfl))
  | (apply z34; exact rfl; (with_reducible rfl))
  | (apply z15; exact rfl)
  | (apply z39; exact rfl; (with_reducible rfl))
  | (apply z29; exact rfl; (with_reducible rfl))
  | (apply z32; exact rfl; (with_reducible rfl))
  | (apply z90; exact rfl)
  | (apply z28; exact rfl)
  | with_reducible apply z50
  | with_reducible apply z52
  | (with_reducible apply z96; intro hc; try (exfalso; omega))
  | (with_reducible apply zb1; intro hc)
  | (with_reducible apply z62; intro hc; try (exfalso; omega))
  | (with_reducible apply z69; intro hc)
  | (with_reducible apply z56; intro hc; try (exfalso; omega))
  | (with_reducible apply z40; intro hc; try (exfalso; omega))
  | (apply z49; exact rfl)
 all_goals (refine cb ?_; simp [z63, zg8, *] <;> omega)
theorem wx0 (qual text : List UInt8) (n : Int) (auto : Bool) (line col : Int) (hl : text.length < 2^31) (hq : qual.length < 2^31) : Rets Vv 40 [.c (tokA 6 qual text n auto line col)] (.c (.bool (z63 6 qual text n))) := by
 refine z35 q88 ?_
 repeat' first
  | apply z01
  | exact z17
  | exact z68 rfl
  | (apply z12; exact rfl; exact rfl)
  | (apply z22; (iterate 3 exact rfl))
  | (apply z23; (iterate 3 exact rfl))
  | (apply za8; exact rfl; exact rfl)
  | (apply z09; exact rfl; (with_reducible rfl); exact rfl)
  | (apply z13; exact rfl; (with_reducible rfl); exact rfl)
  | (apply z19; exact rfl; exact z74 rfl)
  | (apply z58; exact rfl; exact rfl; first | exact z41 (by first | exact rfl | assumption | exact z14 (by assumption)) | exact z45 (by first | exact rfl | assumption | exact z14 (by assumption)))
  | (apply z08 (hc := z79 text hl); exact rfl; exact rfl; exact rfl)
  | (apply z04; focus (repeat (first | exact z18 | (apply kq_c; exact rfl) | (apply z48; exact rfl))))
  | apply z03
  | apply z00
  | apply z02
  | apply z05
  | apply z06
  | apply z07
  | (apply z38; exact rfl; (with_reducible rfl))
  | (apply z34; exact rfl; (with_reducible rfl))
  | (apply z15; exact rfl)
  | (apply z39; exact rfl; (with_reducible rfl))
  | (apply z29; exact rfl; (with_reducible rfl))
  | (apply z32; exact rfl; (with_reducible rfl))
  | (apply z90; exact rfl)
  | (apply z28; exact rfl)
  | with_reducible apply z50
  | with_reducible apply z52
  | (with_reducible apply z96; intro hc; try (exfalso; omega))
  | (with_reducible apply zb1; intro hc)
  | (with_reducible apply z62; intro hc; try (exfalso; omega))
  | (with_reducible apply z69; intro hc)
  | (with_reducible apply z56; intro hc; try (exfalso; omega))
  | (with_reducible apply z40; intro hc; try (exfalso; omega))
  | (apply z49; exact rfl)
 all_goals (refine cb ?_; simp [z63, zg8, *] <;> omega)
theorem wy1 (qual text : List UInt8) (n : Int) (auto : Bool) (line col : Int) (hl : text.length < 2^31) (hq : qual.length < 2^31) : Rets Vv 40 [.c (tokA 7 qual text n auto line col)] (.c (.bool (z63 7 qual text n))) := by
 refine z35 q88 ?_
 repeat' first
  | apply z01
  | exact z17
  | exact z68 rfl
  | (apply z12; exact rfl; exact rfl)
  | (apply z22; (iterate 3 exact rfl))
  | (apply z23; (iterate 3 exact rfl))
  | (apply z27; exact rfl)
  | (apply za8; exact rfl; exact rfl)
  | (apply z09; exact rfl; (with_reducible rfl); exact rfl)
  | (apply z13; exact rfl; (with_reducible rfl); exact rfl)
  | (apply z19; exact rfl; exact z74 rfl)
  | (apply z58; exact rfl; exact rfl; first | exact z41 (by first | exact rfl | assumption | exact z14 (by assumption)) | exact z45 (by first | exact rfl | assumption | exact z14 (by assumption)))
  | (apply z08 (hc := z79 text hl); exact rfl; exact rfl; exact rfl)
  | (apply z04; focus (repeat (first | exact z18 | (apply kq_c; exact rfl) | (apply z48; exact rfl))))
  | apply z03
  | apply z00
  | apply z02
  | apply z05
  | apply z06
  | apply z07
  | (apply z38; exact rfl; (with_reducible rfl))
  | (apply z34; exact rfl; (with_reducible rfl))
  | (apply z15; exact rfl)
  | (apply z39; exact rfl; (with_reducible rfl))
  | (apply z29; exact rfl; (with_reducible rfl))
  | (apply z32; exact rfl; (with_reducible rfl))
  | (apply z90; exact rfl)
  | (apply z28; exact rfl)
  | with_reducible apply z50
  | with_reducible apply z52
  | (with_reducible apply z96; intro hc; try (exfalso; omega))
  | (with_reducible apply zb1; intro hc)
  | (with_reducible apply z62; intro hc; try (exfalso; omega))
  | (with_reducible apply z69; intro hc)
  | (with_reducible apply z56; intro hc; try (exfalso; omega))
  | (with_reducible apply z40; intro hc; try (exfalso; omega))
  | (apply z49; exact rfl)
 all_goals (refine cb ?_; simp [z63, zg8, *] <;> omega)
theorem v02 (qual text : List UInt8) (n : Int) (auto : Bool) (line col : Int) (hl : text.length < 2^31) (hq : qual.length < 2^31) : Rets Vv 40 [.c (tokA 8 qual text n auto line col)] (.c (.bool (z63 8 qual text n))) := by
 refine z35 q88 ?_
 by_cases h1 : text.length = 1
 · repeat' first
    | apply z01
    | exact z17
    | exact z68 rfl
    | (apply z12; exact rfl; exact rfl)
    | (apply z22; (iterate 3 exact rfl))
    | (apply z23; (iterate 3 exact rfl))
    | (apply z27; exact rfl)
    | (apply za8; exact rfl; exact rfl)
    | (apply z09; exact rfl; (with_reducible rfl); exact rfl)
    | (apply z13; exact rfl; (with_reducible rfl); exact rfl)
    | (apply z19; exact rfl; exact z74 rfl)
    | (apply z58; exact rfl; exact rfl; first | exact z41 (by first | exact rfl | assumption | exact z14 (by assumption)) | exact z45 (by first | exact rfl | assumption | exact z14 (by assumption)))
    | (apply z08 (hc := z79 text hl); exact rfl; exact rfl; exact rfl)
    | (apply z08 (hc := jq7 text h1); exact rfl; exact rfl; exact rfl)
    | (apply z04; focus (repeat (first | exact z18 | (apply kq_c; exact rfl) | (apply z48; exact rfl))))
    | apply z03
    | apply z00
    | apply z02
    | apply z05
    | apply z06
    | apply z07
    | (apply z38; exact rfl; (with_reducible rfl))
    | (apply z34; exact rfl; (with_reducible rfl))
    | (apply z15; exact rfl)
    | (apply z39; exact rfl; (with_reducible rfl))
    | (apply z29; exact rfl; (with_reducible rfl))
    | (apply z32; exact rfl; (with_reducible rfl))
    | (apply z90; exact rfl)
    | (apply z28; exact rfl)
    | with_reducible apply z50
    | with_reducible apply z52
    | (with_reducible apply z96; intro hc; try (exfalso; omega))
    | (with_reducible apply zb1; intro hc)
    | (with_reducible apply z62; intro hc; try (exfalso; omega))
    | (with_reducible apply z69; intro hc)
    | (with_reducible apply z56; intro hc; try (exfalso; omega))
    | (with_reducible apply z40; intro hc; try (exfalso; omega))
    | (with_reducible apply zg9; intro hc)
    | (apply z49; exact rfl)
   all_goals (refine cb ?_; simp_all [z63, zg8]; try omega)
 · repeat' first
    | apply z01
    | exact z17
    | exact z68 rfl
    | (apply z12; exact rfl; exact rfl)
    | (apply z22; (iterate 3 exact rfl))
    | (apply z23; (iterate 3 exact rfl))
    | (apply z27; exact rfl)
    | (apply za8; exact rfl; exact rfl)
    | (apply z09; exact rfl; (with_reducible rfl); exact rfl)
    | (apply z13; exact rfl; (with_reducible rfl); exact rfl)
    | (apply z19; exact rfl; exact z74 rfl)
    | (apply z58; exact rfl; exact rfl; first | exact z41 (by first | exact rfl | assumption | exact z14 (by assumption)) | exact z45 (by first | exact rfl | assumption | exact z14 (by assumption)))
    | (apply z08 (hc := z79 text hl); exact rfl; exact rfl; exact rfl)
    | (apply z04; focus (repeat (first | exact z18 | (apply kq_c; exact rfl) | (apply z48; exact rfl))))
    | apply z03
    | apply z00
    | apply z02
    | apply z05
    | apply z06
    | apply z07
    | (apply z38; exact rfl; (with_reducible rfl))
    | (apply z34; exact rfl; (with_reducible rfl))
    | (apply z15; exact rfl)
    | (apply z39; exact rfl; (with_reducible rfl))
    | (apply z29; exact rfl; (with_reducible rfl))
    | (apply z32; exact rfl; (with_reducible rfl))
    | (apply z90; exact rfl)
    | (apply z28; exact rfl)
    | with_reducible apply z50
    | with_reducible apply z52
    | (with_reducible apply z96; intro hc; try (exfalso; omega))
    | (with_reducible apply zb1; intro hc)
    | (with_reducible apply z62; intro hc; try (exfalso; omega))
    | (with_reducible apply z69; intro hc)
    | (with_reducible apply z56; intro hc; try (exfalso; omega))
    | (with_reducible apply z40; intro hc; try (exfalso; omega))
    | (apply z49; exact rfl)
   all_goals (refine cb ?_; simp [z63, zg8, *] <;> omega)
theorem ws3 (qual text : List UInt8) (n : Int) (auto : Bool) (line col : Int) (hl : text.length < 2^31) (hq : qual.length < 2^31) : Rets Vv 40 [.c (tokA 9 qual text n auto line col)] (.c (.bool (z63 9 qual text n))) := by
 refine z35 q88 ?_
 repeat' first
  | apply z01
  | exact z17
  | exact z30 rfl
  | exact z68 rfl
  | (apply z12; exact rfl; exact rfl)
  | (apply z22; (iterate 3 exact rfl))
  | (apply z23; (iterate 3 exact rfl))
  | (apply za8; exact rfl; exact rfl)
  | (apply z09; exact rfl; (with_reducible rfl); exact rfl)
  | (apply z13; exact rfl; (with_reducible rfl); exact rfl)
  | (apply z19; exact rfl; exact z74 rfl)
  | (apply z58; exact rfl; exact rfl; first | exact z41 (by first | exact rfl | assumption | exact z14 (by assumption)) | exact z45 (by first | exact rfl | assumption | exact z14 (by assumption)))
  | (apply z08 (hc := z79 text hl); exact rfl; exact rfl; exact rfl)
  | (apply z04; focus (repeat (first | exact z18 | (apply kq_c; exact rfl) | (apply z48; exact rfl))))
  | apply z03
  | apply z00
  | apply z02
  | apply z05
  | apply z06
  | apply z07
  | (apply z38; exact rfl; (with_reducible rfl))
  | (apply z34; exact rfl; (with_reducible rfl))
  | (apply z15; exact rfl)
  | (apply z39; exact rfl; (with_reducible rfl))
  | (apply z29; exact rfl; (with_reducible rfl))
  | (apply z32; exact rfl; (with_reducible rfl))
  | (apply z90; exact rfl)
  | (apply z28; exact rfl)
  | with_reducible apply z50
  | with_reducible apply z52
  | (with_reducible apply z96; intro hc; try (exfalso; omega))
  | (with_reducible apply zb1; intro hc)
  | (with_reducible apply z62; intro hc; try (exfalso; omega))
  | (with_reducible apply z69; intro hc)
  | (with_reducible apply z56; intro hc; try (exfalso; omega))
  | (with_reducible apply z40; intro hc; try (exfalso; omega))
  | (apply z49; exact rfl)
 all_goals (refine cb ?_; simp [z63, zg8, *] <;> omega)
theorem wj8 (qual text : List UInt8) (n : Int) (auto : Bool) (line col : Int) (hl : text.length < 2^31) (hq : qual.length < 2^31) : Rets Vv 40 [.c (tokA 10 qual text n auto line col)] (.c (.bool (z63 10 qual text n))) := by
 refine z35 q88 ?_
 repeat' first
  | apply z01
  | exact z17
  | exact z30 rfl
  | exact z68 rfl
  | (apply z12; exact rfl; exact rfl)
  | (apply z22; (iterate 3 exact rfl))
  | (apply z23; (iterate 3 exact rfl))
  | (apply za8; exact rfl; exact rfl)
  | (apply z09; exact rfl; (with_reducible rfl); exact rfl)
  | (apply z13; exact rfl; (with_reducible rfl); exact rfl)
  | (apply z19; exact rfl; exact z74 rfl)
  | (apply z58; exact rfl; exact rfl; first | exact z41 (by first | exact rfl | assumption | exact z14 (by assumption)) | exact z45 (by first | exact rfl | assumption | exact z14 (by assumption)))
  | (apply z08 (hc := z79 text hl); exact rfl; exact rfl; exact rfl)
  | (apply z04; focus (repeat (first | exact z18 | (apply kq_c; exact rfl) | (apply z48; exact rfl))))
  | apply z03
  | apply z00
  | apply z02
  | apply z05
  | apply z06
  | apply z07
  | (apply z38; exact rfl; (with_reducible rfl))
  | (apply z34; exact rfl; (with_reducible rfl))
  | (apply z15; exact rfl)
  | (apply z39; exact rfl; (with_reducible rfl))
  | (apply z29; exact rfl; (with_reducible rfl))
  | (apply z32; exact rfl; (with_reducible rfl))
  | (apply z90; exact rfl)
  | (apply z28; exact rfl)
  | with_reducible apply z50
  | with_reducible apply z52
  | (with_reducible apply z96; intro hc; try (exfalso; omega))
  | (with_reducible apply zb1; intro hc)
  | (with_reducible apply z62; intro hc; try (exfalso; omega))
  | (with_reducible apply z69; intro hc)
  | (with_reducible apply z56; intro hc; try (exfalso; omega))
  | (with_reducible apply z40; intro hc; try (exfalso; omega))
  | (apply z49; exact rfl)
 all_goals (refine cb ?_; simp [z63, zg8, *] <;> omega)
end Go.Proofs.TryzL
namespace Go.Proofs.TryzL
open Go.Proofs.Lz
theorem wp7 {op : Int} (h : op < 1 ∨ 10 < op) (text : List UInt8) (n : Int) : zg8 op text n = false := by
 unfold zg8
 rw [if_neg (by omega), if_neg (by omega), if_neg (by omega), if_neg (by omega), if_neg (by omega), if_neg (by omega), if_neg (by omega), if_neg (by omega), if_neg (by omega), if_neg (by omega)]
theorem wx3 (op : Int) (h : op < 1 ∨ 10 < op) (qual text : List UInt8) (n : Int) (auto : Bool) (line col : Int) (hl : text.length < 2^31) (hq : qual.length < 2^31) : Rets Vv 40 [.c (tokA op qual text n auto line col)] (.c (.bool (z63 op qual text n))) := by
 refine z35 q88 ?_
 have hb := wp7 h text n
 repeat' first
  | apply z01
  | exact z17
  | exact z68 rfl
  | (apply z12; exact rfl; exact rfl)
  | (apply z22; (iterate 3 exact rfl))
  | (apply z23; (iterate 3 exact rfl))
  | (apply za8; exact rfl; exact rfl)
  | (apply z09; exact rfl; (with_reducible rfl); exact rfl)
  | (apply z13; exact rfl; (with_reducible rfl); exact rfl)
  | (apply z19; exact rfl; exact z74 rfl)
  | (apply z58; exact rfl; exact rfl; first | exact z41 (by first | exact rfl | assumption | exact z14 (by assumption)) | exact z45 (by first | exact rfl | assumption | exact z14 (by assumption)))
  | (apply z08 (hc := z79 text hl); exact rfl; exact rfl; exact rfl)
  | (apply z04; focus (repeat (first | exact z18 | (apply kq_c; exact rfl) | (apply z48; exact rfl))))
  | apply z03
  | apply z00
  | apply z02
  | apply z05
  | apply z06
  | apply z07
  | (apply z38; exact rfl; (with_reducible rfl))
  | (apply z34; exact rfl; (with_reducible rfl))
  | (apply z15; exact rfl)
  | (apply z39; exact rfl; (with_reducible rfl))
  | (apply z29; exact rfl; (with_reducible rfl))
  | (apply z32; exact rfl; (with_reducible rfl))
  | (apply z90; exact rfl)
  | (apply z28; exact rfl)
  | with_reducible exact qm3
  | with_reducible apply qp5
  | with_reducible apply z50
  | with_reducible apply z52
  | (with_reducible apply z96; intro hc; try (exfalso; omega))
  | (with_reducible apply zb1; intro hc)
  | (with_reducible apply z62; intro hc; try (exfalso; omega))
  | (with_reducible apply z69; intro hc)
  | (with_reducible apply z56; intro hc; try (exfalso; omega))
  | (with_reducible apply z40; intro hc; try (exfalso; omega))
  | (apply z49; exact rfl)
 all_goals (refine cb ?_; simp [z63, hb])
theorem qt8 (op : Int) (qual text : List UInt8) (n : Int) (auto : Bool) (line col : Int) (hl : text.length < 2^31) (hq : qual.length < 2^31) : Rets Vv 40 [.c (tokA op qual text n auto line col)] (.c (.bool (z63 op qual text n))) := by
 by_cases h : op < 1 ∨ 10 < op
 · exact wx3 op h qual text n auto line col hl hq
 · have : op = 1 ∨ op = 2 ∨ op = 3 ∨ op = 4 ∨ op = 5 ∨ op = 6 ∨ op = 7 ∨ op = 8 ∨ op = 9 ∨ op = 10 := by omega
   rcases this with rfl | rfl | rfl | rfl | rfl | rfl | rfl | rfl | rfl | rfl
   · exact ws9 qual text n auto line col hl hq
   · exact v01 qual text n auto line col hl hq
   · exact ww0 qual text n auto line col hl hq
   · exact wy2 qual text n auto line col hl hq
   · exact ws5 qual text n auto line col hl hq
   · exact wx0 qual text n auto line col hl hq
   · exact wy1 qual text n auto line col hl hq
   · exact v02 qual text n auto line col hl hq
   · exact ws3 qual text n auto line col hl hq
   · exact wj8 qual text n auto line col hl hq
end Go.Proofs.TryzL
namespace Go.Proofs.TryzL
open Go.Proofs.Lz
def qcS (n : Int) : List UInt8 := if 0 ≤ n ∧ n ≤ 255 then [39] ++ escB (UInt8.ofNat n.toNat) 39 ++ [39] else []
theorem wm3 {n : Int} {r : List UInt8} (h1 : ∀ c : UInt8, n = c.toNat → r = [39] ++ escB c 39 ++ [39]) (h2 : ¬ (0 ≤ n ∧ n ≤ 255) → r = []) : r = qcS n := by
 unfold qcS
 split
 · rename_i h
   exact h1 _ (by simp; omega)
 · rename_i h
   exact h2 h
theorem qc20 (n : Int) : Rets Vv 20 [.c (.int .i64 n)] (.c (.str (qcS n))) := by
 obtain ⟨r, h, h1, h2⟩ := qw5 n
 rw [← wm3 h1 h2]; exact h
theorem qc22 (n : Int) : Rets Vv 22 [.c (.int .i64 n)] (.c (.str (qcS n))) := by
 obtain ⟨r, h, h1, h2⟩ := qz4 n
 rw [← wm3 h1 h2]; exact h
def textS (op : Int) (qual text : List UInt8) (n : Int) : List UInt8 := if op = 5 then Lib.itoa n else if op = 6 then qcS n else if op = 7 then [34] ++ escS text 34 ++ [34] else if qual = [] then text else qual ++ [46] ++ text
theorem wh7 (op : Int) (qual text : List UInt8) (n : Int) (auto : Bool) (line col : Int) (hl : text.length < 2^31) (hq : qual.length < 2^31) (hn : -9223372036854775808 ≤ n ∧ n ≤ 9223372036854775807) : Rets Vv 44 [.c (tokA op qual text n auto line col)] (.c (.str (textS op qual text n))) := by
 refine z35 wx1 ?_
 repeat' first
  | apply z01
  | exact z17
  | exact z68 rfl
  | (apply z12; exact rfl; exact rfl)
  | (apply z22; (iterate 3 exact rfl))
  | (apply zg3; exact rfl; exact rfl; (simp only [List.length_map, List.length_cons, List.length_nil, List.length_append, List.length_replicate]; omega))
  | (apply z23; (iterate 3 exact rfl))
  | (apply z19; exact rfl; exact z74 rfl)
  | (apply z58; exact rfl; exact rfl; first | exact z41 (by first | exact rfl | assumption | exact z14 (by assumption)) | exact z45 (by first | exact rfl | assumption | exact z14 (by assumption)))
  | (apply z08 (hc := qn3 n hn); exact rfl; exact rfl; exact rfl)
  | (apply z08 (hc := qc20 n); exact rfl; exact rfl; exact rfl)
  | (apply z08 (hc := w80 text hl); exact rfl; exact rfl; exact rfl)
  | (apply z04; focus (repeat (first | exact z18 | (apply kq_c; exact rfl) | (apply z48; exact rfl))))
  | apply z03
  | apply z00
  | apply z02
  | apply z05
  | apply z06
  | apply z07
  | (apply z15; exact rfl)
  | with_reducible apply z50
  | with_reducible apply z52
  | (with_reducible apply z96; intro hc; try (exfalso; omega))
  | (with_reducible apply zb1; intro hc)
  | (with_reducible apply z62; intro hc; try (exfalso; omega))
  | (with_reducible apply z69; intro hc)
  | (apply z49; exact rfl)
 all_goals (congr 1; simp [textS, *])
end Go.Proofs.TryzL
