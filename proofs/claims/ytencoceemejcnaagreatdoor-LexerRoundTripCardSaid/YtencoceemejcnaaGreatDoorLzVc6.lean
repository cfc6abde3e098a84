/- More rules of the calculus: strings.Builder. -/
import Derived.Test.YtencoceemejcnaaGreatDoorLzT17
set_option linter.unusedSimpArgs false
set_option linter.unusedVariables false
namespace Go.Proofs.TryzL
open Go.Proofs.Lz
set_option maxHeartbeats 4000000
structure Tok where
 op:Int
 qual:List UInt8
 text:List UInt8
 n:Int
 auto:Bool
 line:Int
 col:Int
def tokC (t:Tok):CV:=.agg [.int .i64 t.op,.str t.qual,.str t.text,.int .i64 t.n,.bool t.auto,.int .i64 t.line,.int .i64 t.col]
theorem wa6 (c:List UInt8) (h:c.length=1):Rets Vv 77 [.c (.str spS),.c (.str c)] (.c (.bool (spS.contains (c.headD 0)))):=by
 obtain ⟨x,rfl⟩:=List.length_eq_one_iff.1 h
 have h:=zn3 (V:=Vv) (f:=77) (xs:=[.str spS,.str [x]]) (u:=.bool (decide (0≤Lib.indexByte spS x))) (g:=hasG) rfl rfl rfl
 rw [q07] at h
 exact h
def zz5 (op:Int) (text:List UInt8) (n:Int):Bool:=
 if op=1 then decide (z94 text=1)&&decide (n=0) else if op=2 then decide (z94 text=2)&&decide (n=0) else if op=3 then decide (z94 text=3)&&decide (n=0)
 else if op=4 then decide (z94 text=4)&&decide (n=0) else if op=9 then decide (z94 text=5)&&decide (n=0) else if op=10 then decide (z94 text=6)&&decide (n=0)
 else if op=8 then decide (text.length=1)&&(spS.contains (text.headD 0))&&decide (n=0) else if op=7 then decide (text.length≤200)&&decide (n=0)
 else if op=5 then decide (text=[])&&decide (0≤n) else if op=6 then decide (text=[])&&decide (0≤n)&&decide (n≤255) else false
def qy2 (t:Tok):Bool:=(decide (t.qual=[])||(decide (1≤t.op)&&decide (t.op≤4)&&decide (z94 t.qual=2)))&&zz5 t.op t.text t.n
def tokA (op:Int) (qual text:List UInt8) (n:Int) (auto:Bool) (line col:Int):CV:=.agg [.int .i64 op,.str qual,.str text,.int .i64 n,.bool auto,.int .i64 line,.int .i64 col]
def zc1 (op:Int) (qual text:List UInt8) (n:Int):Bool:=(decide (qual=[])||(decide (1≤op)&&decide (op≤4)&&decide (z94 qual=2)))&&zz5 op text n
theorem va8 (qual text:List UInt8) (n:Int) (auto:Bool) (line col:Int) (hl:text.length<2^31) (hq:qual.length<2^31):Rets Vv 40 [.c (tokA 1 qual text n auto line col)] (.c (.bool (zc1 1 qual text n))):=by
 refine z67 qh3 ?_
 repeat' first
  | apply z01
  | exact z13
  | exact z19 rfl
  | exact zd4 rfl
  | (apply z15;rfl;rfl)
  | (apply z45;(iterate 3 rfl))
  | (apply z30;(iterate 3 rfl))
  | (apply z84;rfl;rfl)
  | (apply z17;rfl;(with_reducible rfl);rfl)
  | (apply z16;rfl;(with_reducible rfl);rfl)
  | (apply z49;rfl;exact zd0 rfl)
  | (apply z88;rfl;rfl;first | exact z65 (by first | exact rfl | assumption | exact z06 (by assumption)) | exact z73 (by first | exact rfl | assumption | exact z06 (by assumption)))
  | (apply z08 (hc:=z91 qual hq);rfl;rfl;rfl)
  | (apply z08 (hc:=z91 text hl);rfl;rfl;rfl)
  | (apply z04;focus (repeat (first | exact z23 | (apply kq_c;rfl) | (apply z38;rfl))))
  | apply z02
  | apply z00
  | apply z03
  | apply z05
  | apply z07
  | apply z09
  | (apply z32;rfl;(with_reducible rfl))
  | (apply z12;rfl)
  | (apply z47;rfl;(with_reducible rfl))
  | (apply z43;rfl;(with_reducible rfl))
  | (apply zc2;rfl)
  | (apply z39;rfl)
  | with_reducible apply z57
  | with_reducible apply z58
  | (with_reducible apply za1;intro hc;try (exfalso;omega))
  | (with_reducible apply zh3;intro hc)
  | (with_reducible apply z71;intro hc;try (exfalso;omega))
  | (with_reducible apply zb2;intro hc)
  | (with_reducible apply zd3;intro hc;try (exfalso;omega))
  | (with_reducible apply za6;intro hc;try (exfalso;omega))
  | (with_reducible apply z69;intro hc;try (exfalso;omega))
  | (with_reducible apply z52;intro hc;try (exfalso;omega))
  | (apply z98;rfl)
 all_goals (refine cb ?_;simp [zc1,zz5, *]<;>omega)
theorem vb8 (qual text:List UInt8) (n:Int) (auto:Bool) (line col:Int) (hl:text.length<2^31) (hq:qual.length<2^31):Rets Vv 40 [.c (tokA 2 qual text n auto line col)] (.c (.bool (zc1 2 qual text n))):=by
 refine z67 qh3 ?_
 repeat' first
  | apply z01
  | exact z13
  | exact z19 rfl
  | exact zd4 rfl
  | (apply z15;rfl;rfl)
  | (apply z45;(iterate 3 rfl))
  | (apply z30;(iterate 3 rfl))
  | (apply z84;rfl;rfl)
  | (apply z17;rfl;(with_reducible rfl);rfl)
  | (apply z16;rfl;(with_reducible rfl);rfl)
  | (apply z49;rfl;exact zd0 rfl)
  | (apply z88;rfl;rfl;first | exact z65 (by first | exact rfl | assumption | exact z06 (by assumption)) | exact z73 (by first | exact rfl | assumption | exact z06 (by assumption)))
  | (apply z08 (hc:=z91 qual hq);rfl;rfl;rfl)
  | (apply z08 (hc:=z91 text hl);rfl;rfl;rfl)
  | (apply z04;focus (repeat (first | exact z23 | (apply kq_c;rfl) | (apply z38;rfl))))
  | apply z02
  | apply z00
  | apply z03
  | apply z05
  | apply z07
  | apply z09
  | (apply z32;rfl;(with_reducible rfl))
  | (apply z12;rfl)
  | (apply z47;rfl;(with_reducible rfl))
  | (apply z43;rfl;(with_reducible rfl))
  | (apply zc2;rfl)
  | (apply z39;rfl)
  | with_reducible apply z57
  | with_reducible apply z58
  | (with_reducible apply za1;intro hc;try (exfalso;omega))
  | (with_reducible apply zh3;intro hc)
  | (with_reducible apply z71;intro hc;try (exfalso;omega))
  | (with_reducible apply zb2;intro hc)
  | (with_reducible apply zd3;intro hc;try (exfalso;omega))
  | (with_reducible apply za6;intro hc;try (exfalso;omega))
  | (with_reducible apply z69;intro hc;try (exfalso;omega))
  | (with_reducible apply z52;intro hc;try (exfalso;omega))
  | (apply z98;rfl)
 all_goals (refine cb ?_;simp [zc1,zz5, *]<;>omega)
theorem vb4 (qual text:List UInt8) (n:Int) (auto:Bool) (line col:Int) (hl:text.length<2^31) (hq:qual.length<2^31):Rets Vv 40 [.c (tokA 3 qual text n auto line col)] (.c (.bool (zc1 3 qual text n))):=by
 refine z67 qh3 ?_
 repeat' first
  | apply z01
  | exact z13
  | exact z19 rfl
  | exact zd4 rfl
  | (apply z15;rfl;rfl)
  | (apply z45;(iterate 3 rfl))
  | (apply z30;(iterate 3 rfl))
  | (apply z84;rfl;rfl)
  | (apply z17;rfl;(with_reducible rfl);rfl)
  | (apply z16;rfl;(with_reducible rfl);rfl)
  | (apply z49;rfl;exact zd0 rfl)
  | (apply z88;rfl;rfl;first | exact z65 (by first | exact rfl | assumption | exact z06 (by assumption)) | exact z73 (by first | exact rfl | assumption | exact z06 (by assumption)))
  | (apply z08 (hc:=z91 qual hq);rfl;rfl;rfl)
  | (apply z08 (hc:=z91 text hl);rfl;rfl;rfl)
  | (apply z04;focus (repeat (first | exact z23 | (apply kq_c;rfl) | (apply z38;rfl))))
  | apply z02
  | apply z00
  | apply z03
  | apply z05
  | apply z07
  | apply z09
  | (apply z32;rfl;(with_reducible rfl))
  | (apply z12;rfl)
  | (apply z47;rfl;(with_reducible rfl))
  | (apply z43;rfl;(with_reducible rfl))
  | (apply zc2;rfl)
  | (apply z39;rfl)
  | with_reducible apply z57
  | with_reducible apply z58
  | (with_reducible apply za1;intro hc;try (exfalso;omega))
  | (with_reducible apply zh3;intro hc)
  | (with_reducible apply z71;intro hc;try (exfalso;omega))
  | (with_reducible apply zb2;intro hc)
  | (with_reducible apply zd3;intro hc;try (exfalso;omega))
  | (with_reducible apply za6;intro hc;try (exfalso;omega))
  | (with_reducible apply z69;intro hc;try (exfalso;omega))
  | (with_reducible apply z52;intro hc;try (exfalso;omega))
  | (apply z98;rfl)
 all_goals (refine cb ?_;simp [zc1,zz5, *]<;>omega)
theorem v61 (qual text:List UInt8) (n:Int) (auto:Bool) (line col:Int) (hl:text.length<2^31) (hq:qual.length<2^31):Rets Vv 40 [.c (tokA 4 qual text n auto line col)] (.c (.bool (zc1 4 qual text n))):=by
 refine z67 qh3 ?_
 repeat' first
  | apply z01
  | exact z13
  | exact z19 rfl
  | exact zd4 rfl
  | (apply z15;rfl;rfl)
  | (apply z45;(iterate 3 rfl))
  | (apply z30;(iterate 3 rfl))
  | (apply z84;rfl;rfl)
  | (apply z17;rfl;(with_reducible rfl);rfl)
  | (apply z16;rfl;(with_reducible rfl);rfl)
  | (apply z49;rfl;exact zd0 rfl)
  | (apply z88;rfl;rfl;first | exact z65 (by first | exact rfl | assumption | exact z06 (by assumption)) | exact z73 (by first | exact rfl | assumption | exact z06 (by assumption)))
  | (apply z08 (hc:=z91 qual hq);rfl;rfl;rfl)
  | (apply z08 (hc:=z91 text hl);rfl;rfl;rfl)
  | (apply z04;focus (repeat (first | exact z23 | (apply kq_c;rfl) | (apply z38;rfl))))
  | apply z02
  | apply z00
  | apply z03
  | apply z05
  | apply z07
  | apply z09
  | (apply z32;rfl;(with_reducible rfl))
  | (apply z12;rfl)
  | (apply z47;rfl;(with_reducible rfl))
  | (apply z43;rfl;(with_reducible rfl))
  | (apply zc2;rfl)
  | (apply z39;rfl)
  | with_reducible apply z57
  | with_reducible apply z58
  | (with_reducible apply za1;intro hc;try (exfalso;omega))
  | (with_reducible apply zh3;intro hc)
  | (with_reducible apply z71;intro hc;try (exfalso;omega))
  | (with_reducible apply zb2;intro hc)
  | (with_reducible apply zd3;intro hc;try (exfalso;omega))
  | (with_reducible apply za6;intro hc;try (exfalso;omega))
  | (with_reducible apply z69;intro hc;try (exfalso;omega))
  | (with_reducible apply z52;intro hc;try (exfalso;omega))
  | (apply z98;rfl)
 all_goals (refine cb ?_;simp [zc1,zz5, *]<;>omega)
theorem v94 (qual text:List UInt8) (n:Int) (auto:Bool) (line col:Int) (hl:text.length<2^31) (hq:qual.length<2^31):Rets Vv 40 [.c (tokA 5 qual text n auto line col)] (.c (.bool (zc1 5 qual text n))):=by
 refine z67 qh3 ?_
 repeat' first
  | apply z01
  | exact z13
  | exact zd4 rfl
  | (apply z15;rfl;rfl)
  | (apply z45;(iterate 3 rfl))
  | (apply z30;(iterate 3 rfl))
  | (apply z84;rfl;rfl)
  | (apply z17;rfl;(with_reducible rfl);rfl)
  | (apply z16;rfl;(with_reducible rfl);rfl)
  | (apply z49;rfl;exact zd0 rfl)
  | (apply z88;rfl;rfl;first | exact z65 (by first | exact rfl | assumption | exact z06 (by assumption)) | exact z73 (by first | exact rfl | assumption | exact z06 (by assumption)))
  | (apply z08 (hc:=z91 text hl);rfl;rfl;rfl)
  | (apply z04;focus (repeat (first | exact z23 | (apply kq_c;rfl) | (apply z38;rfl))))
  | apply z02
  | apply z00
  | apply z03
  | apply z05
  | apply z07
  | apply z09
  | (apply z35;rfl;(with_reducible rfl))
  | (apply z32;rfl;(with_reducible rfl))
  | (apply z12;rfl)
  | (apply z47;rfl;(with_reducible rfl))
  | (apply z43;rfl;(with_reducible rfl))
  | (apply z41;rfl;(with_reducible rfl))
  | (apply zc2;rfl)
  | (apply z39;rfl)
  | with_reducible apply z57
  | with_reducible apply z58
  | (with_reducible apply za1;intro hc;try (exfalso;omega))
  | (with_reducible apply zh3;intro hc)
  | (with_reducible apply z71;intro hc;try (exfalso;omega))
  | (with_reducible apply zb2;intro hc)
  | (with_reducible apply z69;intro hc;try (exfalso;omega))
  | (with_reducible apply z52;intro hc;try (exfalso;omega))
  | (apply z98;rfl)
 all_goals (refine cb ?_;simp [zc1,zz5, *]<;>omega)
theorem v84 (qual text:List UInt8) (n:Int) (auto:Bool) (line col:Int) (hl:text.length<2^31) (hq:qual.length<2^31):Rets Vv 40 [.c (tokA 6 qual text n auto line col)] (.c (.bool (zc1 6 qual text n))):=by
 refine z67 qh3 ?_
 repeat' first
  | apply z01
  | exact z13
  | exact zd4 rfl
  | (apply z15;rfl;rfl)
  | (apply z45;(iterate 3 rfl))
  | (apply z30;(iterate 3 rfl))
  | (apply z84;rfl;rfl)
  | (apply z17;rfl;(with_reducible rfl);rfl)
  | (apply z16;rfl;(with_reducible rfl);rfl)
  | (apply z49;rfl;exact zd0 rfl)
  | (apply z88;rfl;rfl;first | exact z65 (by first | exact rfl | assumption | exact z06 (by assumption)) | exact z73 (by first | exact rfl | assumption | exact z06 (by assumption)))
  | (apply z08 (hc:=z91 text hl);rfl;rfl;rfl)
  | (apply z04;focus (repeat (first | exact z23 | (apply kq_c;rfl) | (apply z38;rfl))))
  | apply z02
  | apply z00
  | apply z03
  | apply z05
  | apply z07
  | apply z09
  | (apply z35;rfl;(with_reducible rfl))
  | (apply z32;rfl;(with_reducible rfl))
  | (apply z12;rfl)
  | (apply z47;rfl;(with_reducible rfl))
  | (apply z43;rfl;(with_reducible rfl))
  | (apply z41;rfl;(with_reducible rfl))
  | (apply zc2;rfl)
  | (apply z39;rfl)
  | with_reducible apply z57
  | with_reducible apply z58
  | (with_reducible apply za1;intro hc;try (exfalso;omega))
  | (with_reducible apply zh3;intro hc)
  | (with_reducible apply z71;intro hc;try (exfalso;omega))
  | (with_reducible apply zb2;intro hc)
  | (with_reducible apply z69;intro hc;try (exfalso;omega))
  | (with_reducible apply z52;intro hc;try (exfalso;omega))
  | (apply z98;rfl)
 all_goals (refine cb ?_;simp [zc1,zz5, *]<;>omega)
theorem v45 (qual text:List UInt8) (n:Int) (auto:Bool) (line col:Int) (hl:text.length<2^31) (hq:qual.length<2^31):Rets Vv 40 [.c (tokA 7 qual text n auto line col)] (.c (.bool (zc1 7 qual text n))):=by
 refine z67 qh3 ?_
 repeat' first
  | apply z01
  | exact z13
  | exact zd4 rfl
  | (apply z15;rfl;rfl)
  | (apply z45;(iterate 3 rfl))
  | (apply z30;(iterate 3 rfl))
  | (apply z44;rfl)
  | (apply z84;rfl;rfl)
  | (apply z17;rfl;(with_reducible rfl);rfl)
  | (apply z16;rfl;(with_reducible rfl);rfl)
  | (apply z49;rfl;exact zd0 rfl)
  | (apply z88;rfl;rfl;first | exact z65 (by first | exact rfl | assumption | exact z06 (by assumption)) | exact z73 (by first | exact rfl | assumption | exact z06 (by assumption)))
  | (apply z08 (hc:=z91 text hl);rfl;rfl;rfl)
  | (apply z04;focus (repeat (first | exact z23 | (apply kq_c;rfl) | (apply z38;rfl))))
  | apply z02
  | apply z00
  | apply z03
  | apply z05
  | apply z07
  | apply z09
  | (apply z35;rfl;(with_reducible rfl))
  | (apply z32;rfl;(with_reducible rfl))
  | (apply z12;rfl)
  | (apply z47;rfl;(with_reducible rfl))
  | (apply z43;rfl;(with_reducible rfl))
  | (apply z41;rfl;(with_reducible rfl))
  | (apply zc2;rfl)
  | (apply z39;rfl)
  | with_reducible apply z57
  | with_reducible apply z58
  | (with_reducible apply za1;intro hc;try (exfalso;omega))
  | (with_reducible apply zh3;intro hc)
  | (with_reducible apply z71;intro hc;try (exfalso;omega))
  | (with_reducible apply zb2;intro hc)
  | (with_reducible apply z69;intro hc;try (exfalso;omega))
  | (with_reducible apply z52;intro hc;try (exfalso;omega))
  | (apply z98;rfl)
 all_goals (refine cb ?_;simp [zc1,zz5, *]<;>omega)
theorem v57 (qual text:List UInt8) (n:Int) (auto:Bool) (line col:Int) (hl:text.length<2^31) (hq:qual.length<2^31):Rets Vv 40 [.c (tokA 8 qual text n auto line col)] (.c (.bool (zc1 8 qual text n))):=by
 refine z67 qh3 ?_
 by_cases h1:text.length=1
 · repeat' first
    | apply z01
    | exact z13
    | exact zd4 rfl
    | (apply z15;rfl;rfl)
    | (apply z45;(iterate 3 rfl))
    | (apply z30;(iterate 3 rfl))
    | (apply z44;rfl)
    | (apply z84;rfl;rfl)
    | (apply z17;rfl;(with_reducible rfl);rfl)
    | (apply z16;rfl;(with_reducible rfl);rfl)
    | (apply z49;rfl;exact zd0 rfl)
    | (apply z88;rfl;rfl;first | exact z65 (by first | exact rfl | assumption | exact z06 (by assumption)) | exact z73 (by first | exact rfl | assumption | exact z06 (by assumption)))
    | (apply z08 (hc:=z91 text hl);rfl;rfl;rfl)
    | (apply z08 (hc:=wa6 text h1);rfl;rfl;rfl)
    | (apply z04;focus (repeat (first | exact z23 | (apply kq_c;rfl) | (apply z38;rfl))))
    | apply z02
    | apply z00
    | apply z03
    | apply z05
    | apply z07
    | apply z09
    | (apply z35;rfl;(with_reducible rfl))
    | (apply z32;rfl;(with_reducible rfl))
    | (apply z12;rfl)
    | (apply z47;rfl;(with_reducible rfl))
    | (apply z43;rfl;(with_reducible rfl))
    | (apply z41;rfl;(with_reducible rfl))
    | (apply zc2;rfl)
    | (apply z39;rfl)
    | with_reducible apply z57
    | with_reducible apply z58
    | (with_reducible apply za1;intro hc;try (exfalso;omega))
    | (with_reducible apply zh3;intro hc)
    | (with_reducible apply z71;intro hc;try (exfalso;omega))
    | (with_reducible apply zb2;intro hc)
    | (with_reducible apply z69;intro hc;try (exfalso;omega))
    | (with_reducible apply z52;intro hc;try (exfalso;omega))
    | (with_reducible apply zh6;intro hc)
    | (apply z98;rfl)
   all_goals (refine cb ?_;simp_all [zc1,zz5];try omega)
 · repeat' first
    | apply z01
    | exact z13
    | exact zd4 rfl
    | (apply z15;rfl;rfl)
    | (apply z45;(iterate 3 rfl))
    | (apply z30;(iterate 3 rfl))
    | (apply z44;rfl)
    | (apply z84;rfl;rfl)
    | (apply z17;rfl;(with_reducible rfl);rfl)
    | (apply z16;rfl;(with_reducible rfl);rfl)
    | (apply z49;rfl;exact zd0 rfl)
    | (apply z88;rfl;rfl;first | exact z65 (by first | exact rfl | assumption | exact z06 (by assumption)) | exact z73 (by first | exact rfl | assumption | exact z06 (by assumption)))
    | (apply z08 (hc:=z91 text hl);rfl;rfl;rfl)
    | (apply z04;focus (repeat (first | exact z23 | (apply kq_c;rfl) | (apply z38;rfl))))
    | apply z02
    | apply z00
    | apply z03
    | apply z05
    | apply z07
    | apply z09
    | (apply z35;rfl;(with_reducible rfl))
    | (apply z32;rfl;(with_reducible rfl))
    | (apply z12;rfl)
    | (apply z47;rfl;(with_reducible rfl))
    | (apply z43;rfl;(with_reducible rfl))
    | (apply z41;rfl;(with_reducible rfl))
    | (apply zc2;rfl)
    | (apply z39;rfl)
    | with_reducible apply z57
    | with_reducible apply z58
    | (with_reducible apply za1;intro hc;try (exfalso;omega))
    | (with_reducible apply zh3;intro hc)
    | (with_reducible apply z71;intro hc;try (exfalso;omega))
    | (with_reducible apply zb2;intro hc)
    | (with_reducible apply z69;intro hc;try (exfalso;omega))
    | (with_reducible apply z52;intro hc;try (exfalso;omega))
    | (apply z98;rfl)
   all_goals (refine cb ?_;simp [zc1,zz5, *]<;>omega)
theorem v96 (qual text:List UInt8) (n:Int) (auto:Bool) (line col:Int) (hl:text.length<2^31) (hq:qual.length<2^31):Rets Vv 40 [.c (tokA 9 qual text n auto line col)] (.c (.bool (zc1 9 qual text n))):=by
 refine z67 qh3 ?_
 repeat' first
  | apply z01
  | exact z13
  | exact z19 rfl
  | exact zd4 rfl
  | (apply z15;rfl;rfl)
  | (apply z45;(iterate 3 rfl))
  | (apply z30;(iterate 3 rfl))
  | (apply z84;rfl;rfl)
  | (apply z17;rfl;(with_reducible rfl);rfl)
  | (apply z16;rfl;(with_reducible rfl);rfl)
  | (apply z49;rfl;exact zd0 rfl)
  | (apply z88;rfl;rfl;first | exact z65 (by first | exact rfl | assumption | exact z06 (by assumption)) | exact z73 (by first | exact rfl | assumption | exact z06 (by assumption)))
  | (apply z08 (hc:=z91 text hl);rfl;rfl;rfl)
  | (apply z04;focus (repeat (first | exact z23 | (apply kq_c;rfl) | (apply z38;rfl))))
  | apply z02
  | apply z00
  | apply z03
  | apply z05
  | apply z07
  | apply z09
  | (apply z35;rfl;(with_reducible rfl))
  | (apply z32;rfl;(with_reducible rfl))
  | (apply z12;rfl)
  | (apply z47;rfl;(with_reducible rfl))
  | (apply z43;rfl;(with_reducible rfl))
  | (apply z41;rfl;(with_reducible rfl))
  | (apply zc2;rfl)
  | (apply z39;rfl)
  | with_reducible apply z57
  | with_reducible apply z58
  | (with_reducible apply za1;intro hc;try (exfalso;omega))
  | (with_reducible apply zh3;intro hc)
  | (with_reducible apply z71;intro hc;try (exfalso;omega))
  | (with_reducible apply zb2;intro hc)
  | (with_reducible apply z69;intro hc;try (exfalso;omega))
  | (with_reducible apply z52;intro hc;try (exfalso;omega))
  | (apply z98;rfl)
 all_goals (refine cb ?_;simp [zc1,zz5, *]<;>omega)
theorem wt4 (qual text:List UInt8) (n:Int) (auto:Bool) (line col:Int) (hl:text.length<2^31) (hq:qual.length<2^31):Rets Vv 40 [.c (tokA 10 qual text n auto line col)] (.c (.bool (zc1 10 qual text n))):=by
 refine z67 qh3 ?_
 repeat' first
  | apply z01
  | exact z13
  | exact z19 rfl
  | exact zd4 rfl
  | (apply z15;rfl;rfl)
  | (apply z45;(iterate 3 rfl))
  | (apply z30;(iterate 3 rfl))
  | (apply z84;rfl;rfl)
  | (apply z17;rfl;(with_reducible rfl);rfl)
  | (apply z16;rfl;(with_reducible rfl);rfl)
  | (apply z49;rfl;exact zd0 rfl)
  | (apply z88;rfl;rfl;first | exact z65 (by first | exact rfl | assumption | exact z06 (by assumption)) | exact z73 (by first | exact rfl | assumption | exact z06 (by assumption)))
  | (apply z08 (hc:=z91 text hl);rfl;rfl;rfl)
  | (apply z04;focus (repeat (first | exact z23 | (apply kq_c;rfl) | (apply z38;rfl))))
  | apply z02
  | apply z00
  | apply z03
  | apply z05
  | apply z07
  | apply z09
  | (apply z35;rfl;(with_reducible rfl))
  | (apply z32;rfl;(with_reducible rfl))
  | (apply z12;rfl)
  | (apply z47;rfl;(with_reducible rfl))
  | (apply z43;rfl;(with_reducible rfl))
  | (apply z41;rfl;(with_reducible rfl))
  | (apply zc2;rfl)
  | (apply z39;rfl)
  | with_reducible apply z57
  | with_reducible apply z58
  | (with_reducible apply za1;intro hc;try (exfalso;omega))
  | (with_reducible apply zh3;intro hc)
  | (with_reducible apply z71;intro hc;try (exfalso;omega))
  | (with_reducible apply zb2;intro hc)
  | (with_reducible apply z69;intro hc;try (exfalso;omega))
  | (with_reducible apply z52;intro hc;try (exfalso;omega))
  | (apply z98;rfl)
 all_goals (refine cb ?_;simp [zc1,zz5, *]<;>omega)
end Go.Proofs.TryzL
namespace Go.Proofs.TryzL
open Go.Proofs.Lz
set_option maxHeartbeats 4000000
theorem v63 {op:Int} (h:op<1∨10<op) (text:List UInt8) (n:Int):zz5 op text n=false:=by
 unfold zz5
 rw [if_neg (by omega),if_neg (by omega),if_neg (by omega),if_neg (by omega),if_neg (by omega),if_neg (by omega),if_neg (by omega),if_neg (by omega),if_neg (by omega),if_neg (by omega)]
theorem v49 (op:Int) (h:op<1∨10<op) (qual text:List UInt8) (n:Int) (auto:Bool) (line col:Int) (hl:text.length<2^31) (hq:qual.length<2^31):Rets Vv 40 [.c (tokA op qual text n auto line col)] (.c (.bool (zc1 op qual text n))):=by
 refine z67 qh3 ?_
 have hb:=v63 h text n
 repeat' first
  | apply z01
  | exact z13
  | exact zd4 rfl
  | (apply z15;rfl;rfl)
  | (apply z45;(iterate 3 rfl))
  | (apply z30;(iterate 3 rfl))
  | (apply z84;rfl;rfl)
  | (apply z17;rfl;(with_reducible rfl);rfl)
  | (apply z16;rfl;(with_reducible rfl);rfl)
  | (apply z49;rfl;exact zd0 rfl)
  | (apply z88;rfl;rfl;first | exact z65 (by first | exact rfl | assumption | exact z06 (by assumption)) | exact z73 (by first | exact rfl | assumption | exact z06 (by assumption)))
  | (apply z08 (hc:=z91 text hl);rfl;rfl;rfl)
  | (apply z04;focus (repeat (first | exact z23 | (apply kq_c;rfl) | (apply z38;rfl))))
  | apply z02
  | apply z00
  | apply z03
  | apply z05
  | apply z07
  | apply z09
  | (apply z35;rfl;(with_reducible rfl))
  | (apply z32;rfl;(with_reducible rfl))
  | (apply z12;rfl)
  | (apply z47;rfl;(with_reducible rfl))
  | (apply z43;rfl;(with_reducible rfl))
  | (apply z41;rfl;(with_reducible rfl))
  | (apply zc2;rfl)
  | (apply z39;rfl)
  | with_reducible exact ze7
  | with_reducible apply ze2
  | with_reducible apply z57
  | with_reducible apply z58
  | (with_reducible apply za1;intro hc;try (exfalso;omega))
  | (with_reducible apply zh3;intro hc)
  | (with_reducible apply z71;intro hc;try (exfalso;omega))
  | (with_reducible apply zb2;intro hc)
  | (with_reducible apply z69;intro hc;try (exfalso;omega))
  | (with_reducible apply z52;intro hc;try (exfalso;omega))
  | (apply z98;rfl)
 all_goals (refine cb ?_;simp [zc1,hb])
theorem j77 (op:Int) (qual text:List UInt8) (n:Int) (auto:Bool) (line col:Int) (hl:text.length<2^31) (hq:qual.length<2^31):Rets Vv 40 [.c (tokA op qual text n auto line col)] (.c (.bool (zc1 op qual text n))):=by
 by_cases h:op<1∨10<op
 · exact v49 op h qual text n auto line col hl hq
 · have:op=1∨op=2∨op=3∨op=4∨op=5∨op=6∨op=7∨op=8∨op=9∨op=10:=by omega
   rcases this with rfl | rfl | rfl | rfl | rfl | rfl | rfl | rfl | rfl | rfl
   · exact va8 qual text n auto line col hl hq
   · exact vb8 qual text n auto line col hl hq
   · exact vb4 qual text n auto line col hl hq
   · exact v61 qual text n auto line col hl hq
   · exact v94 qual text n auto line col hl hq
   · exact v84 qual text n auto line col hl hq
   · exact v45 qual text n auto line col hl hq
   · exact v57 qual text n auto line col hl hq
   · exact v96 qual text n auto line col hl hq
   · exact wt4 qual text n auto line col hl hq
end Go.Proofs.TryzL
namespace Go.Proofs.TryzL
open Go.Proofs.Lz
set_option maxHeartbeats 4000000
def qcS (n:Int):List UInt8:=if 0≤n∧n≤255 then [39]++escB (UInt8.ofNat n.toNat) 39++[39] else []
theorem v97 {n:Int} {r:List UInt8} (h1:∀ c:UInt8,n=c.toNat→r=[39]++escB c 39++[39]) (h2:¬ (0≤n∧n≤255)→r=[]):r=qcS n:=by
 unfold qcS
 split
 · rename_i h
   exact h1 _ (by simp;omega)
 · rename_i h
   exact h2 h
theorem qc20 (n:Int):Rets Vv 20 [.c (.int .i64 n)] (.c (.str (qcS n))):=by
 obtain ⟨r,h,h1,h2⟩:=j79 n
 rw [← v97 h1 h2];exact h
def textS (op:Int) (qual text:List UInt8) (n:Int):List UInt8:=if op=5 then Lib.itoa n else if op=6 then qcS n else if op=7 then [34]++escS text 34++[34] else if qual=[] then text else qual++[46]++text
theorem wy5 (op:Int) (qual text:List UInt8) (n:Int) (auto:Bool) (line col:Int) (hl:text.length<2^31) (hq:qual.length<2^31) (hn:-9223372036854775808≤n∧n≤9223372036854775807):Rets Vv 44 [.c (tokA op qual text n auto line col)] (.c (.str (textS op qual text n))):=by
 refine z67 v31 ?_
 repeat' first
  | apply z01
  | exact z13
  | exact zd4 rfl
  | (apply z15;rfl;rfl)
  | (apply z45;(iterate 3 rfl))
  | (apply jl4;rfl;rfl;(simp only [List.length_map,List.length_cons,List.length_nil,List.length_append,List.length_replicate];omega))
  | (apply z30;(iterate 3 rfl))
  | (apply z49;rfl;exact zd0 rfl)
  | (apply z88;rfl;rfl;first | exact z65 (by first | exact rfl | assumption | exact z06 (by assumption)) | exact z73 (by first | exact rfl | assumption | exact z06 (by assumption)))
  | (apply z08 (hc:=qy0 n hn);rfl;rfl;rfl)
  | (apply z08 (hc:=qc20 n);rfl;rfl;rfl)
  | (apply z08 (hc:=wf2 text hl);rfl;rfl;rfl)
  | (apply z04;focus (repeat (first | exact z23 | (apply kq_c;rfl) | (apply z38;rfl))))
  | apply z02
  | apply z00
  | apply z03
  | apply z05
  | apply z07
  | apply z09
  | (apply z12;rfl)
  | with_reducible apply z57
  | with_reducible apply z58
  | (with_reducible apply za1;intro hc;try (exfalso;omega))
  | (with_reducible apply zh3;intro hc)
  | (with_reducible apply z71;intro hc;try (exfalso;omega))
  | (with_reducible apply zb2;intro hc)
  | (apply z98;rfl)
 all_goals (congr 1;simp [textS, *])
end Go.Proofs.TryzL
namespace Go.Proofs.TryzL
open Go.Proofs.Lz
set_option maxHeartbeats 4000000
section
variable {V:WEnv} {fr fr':WFr} {H H':z18} {N:Post} {dst:Option Nat}
end
end Go.Proofs.TryzL
namespace Go.Proofs.TryzL
open Go.Proofs.Lz
set_option maxHeartbeats 4000000
theorem qw2 (s:List UInt8):∀ k,Lib.repeatL s (k+1)=Lib.repeatL s k++s
 | 0=>by simp [Lib.repeatL]
 | k+1=>by
   show s++Lib.repeatL s (k+1)=(s++Lib.repeatL s k)++s
   rw [qw2 s k,List.append_assoc]
end Go.Proofs.TryzL
namespace Go.Proofs.TryzL
open Go.Proofs.Lz
end Go.Proofs.TryzL
namespace Go.Proofs.TryzL
open Go.Proofs.Lz
set_option maxHeartbeats 4000000
end Go.Proofs.TryzL
namespace Go.Proofs.TryzL
open Go.Proofs.Lz
set_option maxHeartbeats 4000000
end Go.Proofs.TryzL
namespace Go.Proofs.TryzL
open Go.Proofs.Lz
set_option maxHeartbeats 4000000
end Go.Proofs.TryzL
namespace Go.Proofs.Lz
section
variable {V:WEnv} {fr fr':WFr} {H H':z18} {N:Post} {dst:Option Nat}
theorem qr1 {T n id:Nat} {x:Opd} {ek:Option Nat} {cs:List WV} (hx:fr.rd x=.ptr id 0) (hH:H[id]?=some (.var ek cs)) (hT:tyOf ek=some T) (hn:Nat.beq cs.length n=true) (hq:Put fr dst (.ptr id 0) fr') (h:N fr' H):OpP V (.tyck T n x) dst fr H N:=
 ⟨fr',H,by show wOp0 (.tyck T n x) dst fr H=_;simp only [wOp0,hx,hH,hT,Nat.eq_of_beq_eq_true hn,and_self,if_true,hq.eq],h⟩
theorem ww7 {x y:Opd} {id:Nat} (hx:fr.rd x=.ptr id 0) (hy:fr.rd y=.ptr id 0) (hq:Put fr dst (.c (.bool true)) fr') (h:N fr' H):OpP V (.peq x y) dst fr H N:=
 ⟨fr',H,by show wOp0 (.peq x y) dst fr H=_;simp only [wOp0,hx,hy,and_self,decide_true,hq.eq],h⟩
theorem jq2 {e:Nat} {x:Opd} (hx:fr.rd x=.nils) (hq:Put fr dst (.c (.bool true)) fr') (h:N fr' H):OpP V (.rowck e x) dst fr H N:=
 ⟨fr',H,by show wOp0 (.rowck e x) dst fr H=_;simp only [wOp0,hx,hq.eq],h⟩
theorem wa9 {e:Nat} {x:Opd} {p:Pl} {xs:List CV} (hx:fr.rd x=.view p true 0 e none xs) (hc:(0<xs.length∧zx2 xs=true)) (hq:Put fr dst (.c (.bool false)) fr') (h:N fr' H):OpP V (.rowck e x) dst fr H N:=
 ⟨fr',H,by show wOp0 (.rowck e x) dst fr H=_;simp only [wOp0,hx,hc.1,hc.2,and_self,if_true,hq.eq],h⟩
theorem wp4 {l:List (Nat×WV)} {al:List (Nat×Option (Nat×Nat))} {e:Nat} {ek:Option Nat} {zero:List CV} {n:Nat} {parts:List (Nat×Opd)} {z:CV} {xs:List CV} {p:Pl} {ps:List Pl} (hz:zc3 ek zero=some z) (hf:fits ek z=true) (hr:zg7 ek (List.replicate n z) (parts.map fun p=>(p.1,(FL l al).rd p.2))=some (xs,p::ps)) (hq:Put (FL (hitM (inK (p::ps)) true l) al) dst (.c (.frz ek xs)) fr') (h:N fr' (hitH true (p::ps) H)):OpP V (.bsl true e ek zero n parts) dst (FL l al) H N:=
 ⟨fr',_,by
  show wOp0 (.bsl true e ek zero n parts) dst (FL l al) H=_
  have hh:zh0 (p::ps) true (FL l al) H=(FL (hitM (inK (p::ps)) true l) al,hitH true (p::ps) H):=by
   rw [← q16];rfl
  simp only [wOp0,hz,if_pos hf,hr,hh,if_true,hq.eq],h⟩
theorem qm8 {k:Option Nat} {a x:Opd} {id off:Nat} {cs:List WV} (hp:fr.place a=none) (ha:fr.rd a=.ptr id off) (hx:fr.rd x=.nils) (hH:H[id]?=some (.var k cs)) (hb:(decide (off+1≤cs.length))=true)
 (h:∀ H',H'[id]?=some (.var k (cs.set off .nils))→(∀ (i:Nat) (o:WO),i≠id→H[i]?=some o→H'[i]?=some o)→N fr H'):OpP V (.store none a x) none fr H N:=by
 have hb:=of_decide_eq_true hb
 refine ⟨fr,H.set id (.var k (cs.set off .nils)),?_,h _ (qe9 hH _) (fun i o hi ho=>by rw [List.getElem?_set_ne (Ne.symm hi)];exact ho)⟩
 show wOp0 (.store none a x) none fr H=_
 have ht:Lz.take .nils fr H=some (.nils,fr,H):=by simp [Lz.take,srcs,srcC,src1,zh0,zg6,z60,ze6]
 have hs:z96 cs off [.nils]=cs.set off .nils:=by
  simp only [z96,List.length_singleton]
  rw [List.set_eq_take_append_cons_drop,if_pos (by omega),List.append_assoc,List.singleton_append]
 have hf:fitsW none .nils=true:=rfl
 simp only [wOp0,hp,ha,hx,q01,if_pos hf,ht,hH]
 show (if off+1≤cs.length then some (if false=true then _ else fr,H.set id (.var k (z96 cs off [.nils]))) else none)=_
 rw [if_pos hb,hs]
 rfl
theorem qb1 {k:Option Nat} {a x:Opd} {id off j o:Nat} {cs:List WV} (hp:fr.place a=none) (ha:fr.rd a=.ptr id off) (hx:fr.rd x=.ptr j o) (hH:H[id]?=some (.var k cs)) (hb:(decide (off+1≤cs.length))=true)
 (h:∀ H',H'[id]?=some (.var k (cs.set off (.ptr j o)))→(∀ (i:Nat) (o:WO),i≠id→H[i]?=some o→H'[i]?=some o)→N fr H'):OpP V (.store none a x) none fr H N:=by
 have hb:=of_decide_eq_true hb
 refine ⟨fr,H.set id (.var k (cs.set off (.ptr j o))),?_,h _ (qe9 hH _) (fun i o hi ho=>by rw [List.getElem?_set_ne (Ne.symm hi)];exact ho)⟩
 show wOp0 (.store none a x) none fr H=_
 have ht:Lz.take (.ptr j o) fr H=some (.ptr j o,fr,H):=by simp [Lz.take,srcs,srcC,src1,zh0,zg6,z60,ze6]
 have hs:z96 cs off [.ptr j o]=cs.set off (.ptr j o):=by
  simp only [z96,List.length_singleton]
  rw [List.set_eq_take_append_cons_drop,if_pos (by omega),List.append_assoc,List.singleton_append]
 have hf:fitsW none (.ptr j o)=true:=rfl
 simp only [wOp0,hp,ha,hx,q01,if_pos hf,ht,hH]
 show (if off+1≤cs.length then some (if false=true then _ else fr,H.set id (.var k (z96 cs off [.ptr j o]))) else none)=_
 rw [if_pos hb,hs]
 rfl
theorem q73 {n a b:Nat} {u v:CV} {r:WV} {Q:z18→Prop} (h1:fr.env a=.c u) (h2:fr.env b=.c v) (hr:r=.tup [.c u,.c v]) (h:Q H):finS n [.tmp a,.tmp b] r Q fr H:=by
 subst hr
 refine ⟨[.c u,.c v],.tup [.c u,.c v],H,?_,?_,rfl,h⟩
 · simp only [zg0,h1,h2];rfl
 · rfl
theorem zt5 {n a b:Nat} {ek:Option Nat} {u v:CV} {r:WV} {Q:z18→Prop} (h1:fr.env a=.lbox ek (.c u)) (h2:fr.env b=.c v) (hr:r=.tup [.c u,.c v]) (h:Q H):finS n [.cell a ek,.tmp b] r Q fr H:=by
 subst hr
 refine ⟨[.c u,.c v],.tup [.c u,.c v],H,?_,?_,rfl,h⟩
 · simp only [zg0,h1,h2,if_true];rfl
 · rfl
end
end Go.Proofs.Lz
