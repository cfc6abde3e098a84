/- Chapter 02: the reference's names: generated names, classes. -/
import Derived.Test.YtencoceemejcnaaGreatDoorLzT8
import Derived.Lib.ItoaLen
import Derived.Test.YtencoceemejcnaaGreatDoorLzLays02
set_option linter.unusedSimpArgs false
set_option linter.unusedVariables false
namespace Go.Proofs.TryzL
open Go.Proofs.Lz
def qm9 (s:List UInt8):Bool:=(zo6 s&&!rwordL.contains s)||(zf7 s&&!rsymL.contains s)
set_option maxHeartbeats 2000000
theorem qs2 (s:List UInt8) (hl:s.length<2^60):Rets Vv 161 [.c (.str s)] (.c (.bool (qm9 s))):=by
 refine z83 wn5 ?_
 repeat' first
  | apply z01
  | exact z13
  | exact z19 rfl
  | (apply z17;rfl;rfl)
  | (apply z94;rfl;rfl)
  | (apply z18;rfl;(with_reducible rfl);rfl)
  | (apply z16;rfl;(with_reducible rfl);rfl)
  | (apply z05 (hc:=qj2 s hl);rfl;rfl;rfl)
  | (apply z05 (hc:=zj7 s);rfl;rfl;rfl)
  | (apply z05 (hc:=q86 s hl);rfl;rfl;rfl)
  | (apply z05 (hc:=zg4 s);rfl;rfl;rfl)
  | apply z02
  | apply z00
  | apply z03
  | apply z15
  | (apply z50;rfl;(with_reducible rfl))
  | (apply z48;rfl;(with_reducible rfl))
  | (apply z41;rfl;(with_reducible rfl))
  | (apply q12;rfl)
  | (apply z40;rfl)
  | with_reducible apply z64
  | with_reducible apply z63
  | (with_reducible apply zh7;intro hc)
  | (apply zb5;rfl)
 all_goals (simp only [qm9, *];rfl)
def q09 (s:List UInt8):Bool:=match s[0]? with
 | none=>false
 | some c=>upperB c
def w15 (m n:List UInt8):List UInt8:=if zo6 m&&q09 m&&qm9 n then m++[46]++n else []
theorem wb8 (m n:List UInt8) (hm:m.length<2^59) (hn:n.length<2^59):Rets Vv 174 [.c (.str m),.c (.str n)] (.c (.str (w15 m n))):=by
 refine z83 wq2 ?_
 cases h0:m[0]? with
 | none=>
   have hw:zo6 m=false:=by simp [zo6,h0]
   repeat' first
    | apply z01
    | exact z13
    | exact z19 rfl
    | (apply z17;rfl;rfl)
    | (apply z94;rfl;rfl)
    | (apply z18;rfl;(with_reducible rfl);rfl)
    | (apply z05 (hc:=qj2 m (by omega));rfl;rfl;rfl)
    | (apply z04;focus (repeat (exact z28)))
    | apply z02
    | apply z00
    | apply z03
    | apply z15
    | (apply z39;rfl;(with_reducible rfl))
    | (apply z50;rfl;(with_reducible rfl))
    | (apply z41;rfl;(with_reducible rfl))
    | (apply z40;rfl)
    | with_reducible apply z64
    | with_reducible apply z63
    | (with_reducible apply zh7;intro hc)
    | (apply zb5;rfl)
   all_goals first
    | (congr 1;simp [w15, *];done)
    | (exfalso;simp_all;done)
 | some c=>
   repeat' first
    | apply z01
    | exact z13
    | exact z19 rfl
    | (apply z17;rfl;rfl)
    | (apply qi6;rfl;rfl;(simp only [List.length_map,List.length_cons,List.length_nil,List.length_append,List.length_replicate];omega))
    | (apply z94;rfl;rfl)
    | (apply z18;rfl;(with_reducible rfl);rfl)
    | (apply z16;rfl;(with_reducible rfl);rfl)
    | (apply z60;(iterate 3 rfl);assumption)
    | (apply z05 (hc:=qj2 m (by omega));rfl;rfl;rfl)
    | (apply z05 (hc:=qs2 n (by omega));rfl;rfl;rfl)
    | (apply z05 (hc:=qm2 c);rfl;rfl;rfl)
    | (apply z04;focus (repeat (first | exact z28 | (apply kq_c;rfl))))
    | apply z02
    | apply z00
    | apply z03
    | apply z12
    | apply z15
    | (apply z39;rfl;(with_reducible rfl))
    | (apply z14;rfl)
    | (apply z50;rfl;(with_reducible rfl))
    | (apply z41;rfl;(with_reducible rfl))
    | (apply z40;rfl)
    | with_reducible apply z64
    | with_reducible apply z63
    | (with_reducible apply zh7;intro hc)
    | (apply zb5;rfl)
   all_goals first
    | (congr 1;simp [w15,q09, *];done)
    | (exfalso;simp_all;done)
def jc4 (s:List UInt8):Option (List UInt8×List UInt8):=if (Lib.cut s [46]).2.2&&!(w15 (Lib.cut s [46]).1 (Lib.cut s [46]).2.1==[]) then some ((Lib.cut s [46]).1,(Lib.cut s [46]).2.1) else none
def splitV (o:Option (List UInt8×List UInt8)):WV:=match o with
 | none=>.tup [.c (.str []),.c (.str []),.c (.bool false)]
 | some p=>.tup [.c (.str p.1),.c (.str p.2),.c (.bool true)]
theorem w75 (s:List UInt8) (h:s.length<2^31):Rets Vv 173 [.c (.str s),.c (.str [46])] (.tup [.c (.str (Lib.cut s [46]).1),.c (.str (Lib.cut s [46]).2.1),.c (.bool (Lib.cut s [46]).2.2)]):=
 q04 (V:=Vv) (f:=173) (xs:=[.str s,.str [46]]) (us:=[.str (Lib.cut s [46]).1,.str (Lib.cut s [46]).2.1,.bool (Lib.cut s [46]).2.2]) (g:=cutG) rfl rfl (by simp only [cutG];rw [if_pos (by omega)]) (by simp)
theorem wm0 (s:List UInt8):(Lib.cut s [46]).1.length≤s.length∧(Lib.cut s [46]).2.1.length≤s.length:=by
 unfold Lib.cut
 split
 · simp;omega
 · simp
theorem j96 (s:List UInt8) (hl:s.length<2^31):Rets Vv 160 [.c (.str s)] (splitV (jc4 s)):=by
 refine z83 wo7 ?_
 obtain ⟨l1,l2⟩:=wm0 s
 repeat' first
  | apply z01
  | exact z13
  | exact z19 rfl
  | (apply z17;rfl;rfl)
  | (apply z30;(iterate 3 rfl))
  | (apply z94;rfl;rfl)
  | (apply z18;rfl;(with_reducible rfl);rfl)
  | (apply z16;rfl;(with_reducible rfl);rfl)
  | (apply z54;(iterate 3 rfl))
  | (apply z92;rfl;rfl)
  | (apply z05 (hc:=w75 s hl);rfl;rfl;rfl)
  | (apply z05 (hc:=wb8 (Lib.cut s [46]).1 (Lib.cut s [46]).2.1 (by omega) (by omega));rfl;rfl;rfl)
  | (apply z04;focus (repeat (first | exact z28 | (apply kq_c;rfl))))
  | apply z02
  | apply z00
  | apply z03
  | apply z12
  | apply z15
  | (apply z39;rfl;(with_reducible rfl))
  | (apply z14;rfl)
  | (apply z50;rfl;(with_reducible rfl))
  | (apply z41;rfl;(with_reducible rfl))
  | (apply z40;rfl)
  | with_reducible apply z64
  | with_reducible apply z63
  | (with_reducible apply zs8;intro hc)
  | (with_reducible apply zi5;intro hc)
  | (with_reducible apply zh7;intro hc)
  | (apply jx9;(exact ShI.c rfl);(exact ShI.c rfl);(exact ShI.c rfl);(exact by decide))
 all_goals (simp [jc4,splitV, *])
def qp0 (s:List UInt8):Bool:=(jc4 s).isSome||qm9 s
theorem jv3 (s:List UInt8) (hl:s.length<2^31):Rets Vv 139 [.c (.str s)] (.c (.bool (qp0 s))):=by
 refine z83 wp4 ?_
 cases h:jc4 s with
 | none=>
   have hs:Rets Vv 160 [.c (.str s)] (.tup [.c (.str []),.c (.str []),.c (.bool false)]):=by have:=j96 s hl;rw [h] at this;exact this
   repeat' first
    | apply z01
    | exact z13
    | exact z19 rfl
    | (apply z17;rfl;rfl)
    | (apply z16;rfl;(with_reducible rfl);rfl)
    | (apply z54;(iterate 3 rfl))
    | (apply z92;rfl;rfl)
    | (apply z05 (hc:=hs);rfl;rfl;rfl)
    | (apply z05 (hc:=qs2 s (by omega));rfl;rfl;rfl)
    | apply z02
    | apply z00
    | apply z03
    | apply z15
    | (apply z50;rfl;(with_reducible rfl))
    | (apply zb5;rfl)
   all_goals (simp only [qp0,h];rfl)
 | some p=>
   have hs:Rets Vv 160 [.c (.str s)] (.tup [.c (.str p.1),.c (.str p.2),.c (.bool true)]):=by have:=j96 s hl;rw [h] at this;exact this
   repeat' first
    | apply z01
    | exact z13
    | exact z19 rfl
    | (apply z17;rfl;rfl)
    | (apply z18;rfl;(with_reducible rfl);rfl)
    | (apply z54;(iterate 3 rfl))
    | (apply z92;rfl;rfl)
    | (apply z05 (hc:=hs);rfl;rfl;rfl)
    | apply z02
    | apply z00
    | apply z03
    | apply z15
    | (apply z41;rfl;(with_reducible rfl))
    | (apply zb5;rfl)
   all_goals (simp only [qp0,h];rfl)
def w04 (b:List UInt8) (n:Int):List UInt8:=if decide (0≤n)&&qp0 b then b++[36]++Lib.itoa n else []
theorem jr1 (n:Int) (h:-9223372036854775808≤n∧n≤9223372036854775807):Rets Vv 81 [.c (.int .i64 n)] (.c (.str (Lib.itoa n))):=
 zt1 (V:=Vv) (f:=81) (xs:=[.int .i64 n]) (u:=.str (Lib.itoa n)) (g:=jq8) rfl rfl (by simp only [jq8];rw [if_pos h])
theorem wg9 (b:List UInt8) (n:Int) (hl:b.length<2^31) (hn:-9223372036854775808≤n∧n≤9223372036854775807):Rets Vv 119 [.c (.str b),.c (.int .i64 n)] (.c (.str (w04 b n))):=by
 refine z83 wo6 ?_
 have hi:=Lib.itoa_length_le n hn.1 hn.2
 repeat' first
  | apply z01
  | exact z13
  | exact z19 rfl
  | (apply z17;rfl;rfl)
  | (apply qi6;rfl;rfl;(simp only [List.length_map,List.length_cons,List.length_nil,List.length_append,List.length_replicate];omega))
  | (apply z30;(iterate 3 rfl))
  | (apply z94;rfl;rfl)
  | (apply z18;rfl;(with_reducible rfl);rfl)
  | (apply z16;rfl;(with_reducible rfl);rfl)
  | (apply z05 (hc:=jv3 b hl);rfl;rfl;rfl)
  | (apply z05 (hc:=jr1 n hn);rfl;rfl;rfl)
  | (apply z04;focus (repeat (first | exact z28 | (apply kq_c;rfl))))
  | apply z02
  | apply z00
  | apply z03
  | apply z12
  | apply z15
  | (apply z39;rfl;(with_reducible rfl))
  | (apply z14;rfl)
  | (apply z50;rfl;(with_reducible rfl))
  | (apply z41;rfl;(with_reducible rfl))
  | (apply z40;rfl)
  | with_reducible apply z64
  | with_reducible apply z63
  | (with_reducible apply z78;intro hc)
  | (with_reducible apply z57;intro hc)
  | (with_reducible apply zh7;intro hc)
  | (apply zb5;rfl)
 all_goals first
  | (have:¬ 0≤n:=by omega
     simp [w04, *];done)
  | (have:0≤n:=by omega
     simp [w04, *];done)
theorem last_call (s:List UInt8) (h:s.length<2^31):Rets Vv 117 [.c (.str s),.c (.int .u8 36)] (.c (.int .i64 (Lib.lastIndexByte ⟨s.toArray⟩ 36))):=
 zt1 (V:=Vv) (f:=117) (xs:=[.str s,.int .u8 36]) (u:=.int .i64 (Lib.lastIndexByte ⟨s.toArray⟩ 36)) (g:=jk0) rfl rfl (by simp only [jk0];rw [if_pos (by omega)])
theorem wa5 (s:List UInt8):-1≤Lib.lastIndexByte ⟨s.toArray⟩ 36∧Lib.lastIndexByte ⟨s.toArray⟩ 36<s.length:=by
 have h:=Lib.lastIndexByte_spec ⟨s.toArray⟩ 36
 have hsz:(⟨s.toArray⟩:ByteArray).size=s.length:=by simp [ByteArray.size]
 rcases h with ⟨h,_⟩ | ⟨i,h1,h2,_⟩
 · rw [h];omega
 · rw [h2];rw [hsz] at h1;omega
def j37 (s:List UInt8):WV:=match Lib.atoiAll s with
 | .ok v=>.tup [.c (.int .i64 v),.c .nili]
 | .range=>.tup [.c (.int .i64 (Lib.atoiSat s)),.c .opq]
 | _=>.tup [.c (.int .i64 0),.c .opq]
theorem jk8 (s:List UInt8) (h:s.length<2^31):Rets Vv 118 [.c (.str s)] (j37 s):=by
 cases ha:Lib.atoiAll s with
 | ok v=>
   simp only [j37,ha]
   exact q04 (V:=Vv) (f:=118) (xs:=[.str s]) (us:=[.int .i64 v,.nili]) (g:=qq2) rfl rfl (by simp only [qq2,ha];rw [if_pos (by omega)]) (by simp)
 | range=>
   simp only [j37,ha]
   exact q04 (V:=Vv) (f:=118) (xs:=[.str s]) (us:=[.int .i64 (Lib.atoiSat s),.opq]) (g:=qq2) rfl rfl (by simp only [qq2,ha];rw [if_pos (by omega)]) (by simp)
 | _=>
   simp only [j37,ha]
   exact q04 (V:=Vv) (f:=118) (xs:=[.str s]) (us:=[.int .i64 0,.opq]) (g:=qq2) rfl rfl (by simp only [qq2,ha];rw [if_pos (by omega)]) (by simp)
end Go.Proofs.TryzL
namespace Go.Proofs.TryzL
open Go.Proofs.Lz
def okA:Lib.NumEnd Int→Option Int
 | .ok v=>some v
 | _=>none
def qx7 (s:List UInt8) (k:Nat):Option (List UInt8×Int):=match okA (Lib.atoiAll (s.drop (k+1))) with
 | none=>none
 | some v=>if w04 (s.take k) v=s then some (s.take k,v) else none
def je9 (s:List UInt8):Option (List UInt8×Int):=if Lib.lastIndexByte ⟨s.toArray⟩ 36<0 then none else qx7 s (Lib.lastIndexByte ⟨s.toArray⟩ 36).toNat
def qb2 (o:Option (List UInt8×Int)):WV:=match o with
 | none=>.tup [.c (.str []),.c (.int .i64 0),.c (.bool false)]
 | some p=>.tup [.c (.str p.1),.c (.int .i64 p.2),.c (.bool true)]
set_option maxHeartbeats 2000000
theorem jl0 (s:List UInt8) (hl:s.length<2^31):Rets Vv 92 [.c (.str s)] (qb2 (je9 s)):=by
 refine z83 ww6 ?_
 obtain ⟨b1,b2⟩:=wa5 s
 by_cases h0:Lib.lastIndexByte ⟨s.toArray⟩ 36<0
 · repeat' first
    | apply z01
    | exact z13
    | (apply z17;rfl;rfl)
    | (apply za3;rfl;rfl;omega)
    | (apply z30;(iterate 3 rfl))
    | (apply qq9;rfl;rfl;omega;omega)
    | (apply z05 (hc:=last_call s hl);rfl;rfl;rfl)
    | (apply z04;focus (repeat (first | exact z28 | (apply kq_c;rfl))))
    | apply z02
    | apply z00
    | apply z03
    | apply z12
    | apply z15
    | (apply z14;rfl)
    | (with_reducible apply z78;intro hc)
    | (with_reducible apply z57;intro hc)
    | (apply jx9;(exact ShI.c rfl);(exact ShI.c rfl);(exact ShI.c rfl);(exact by decide))
   · simp [je9,h0,qb2]
   · omega
 · obtain ⟨k,hk⟩:∃ k:Nat,Lib.lastIndexByte ⟨s.toArray⟩ 36=k:=⟨_,(Int.toNat_of_nonneg (by omega)).symm⟩
   have hc:=last_call s hl
   rw [hk] at hc b2 h0
   have hb:je9 s=qx7 s k:=by simp only [je9,hk];rw [if_neg h0];simp
   have hd:(s.drop (k+1)).length<2^31:=by rw [List.length_drop];omega
   have hat:=jk8 (s.drop (k+1)) hd
   cases ha:Lib.atoiAll (s.drop (k+1)) with
   | ok v=>
     have hv:=Lib.atoiAll_bounds ha
     simp only [j37,ha] at hat
     have hm:=wg9 (s.take k) v (by rw [List.length_take];omega) hv
     repeat' first
      | apply z01
      | exact z13
      | exact z19 rfl
      | (apply z17;rfl;rfl)
      | (apply za3;rfl;rfl;omega)
      | (apply z30;(iterate 3 rfl))
      | (apply z18;rfl;(with_reducible rfl);rfl)
      | (apply z16;rfl;(with_reducible rfl);rfl)
      | (apply z54;(iterate 3 rfl))
      | (apply z92;rfl;rfl)
      | (apply jo8;rfl)
      | (apply zw0;rfl;rfl;omega)
      | (apply q13;(iterate 3 rfl);omega)
      | (apply z05 (hc:=hc);rfl;rfl;rfl)
      | (apply z05 (hc:=hat);rfl;rfl;rfl)
      | (apply z05 (hc:=hm);rfl;rfl;rfl)
      | (apply z04;focus (repeat (first | exact z28 | (apply kq_c;rfl))))
      | apply z02
      | apply z00
      | apply z03
      | apply z12
      | apply z15
      | (apply z39;rfl;(with_reducible rfl))
      | (apply z14;rfl)
      | (apply z50;rfl;(with_reducible rfl))
      | (apply z41;rfl;(with_reducible rfl))
      | (apply z40;rfl)
      | with_reducible apply z64
      | with_reducible apply z63
      | (with_reducible apply zs8;intro hc)
      | (with_reducible apply zi5;intro hc)
      | (with_reducible apply z78;intro hc)
      | (with_reducible apply z57;intro hc)
      | (with_reducible apply zh7;intro hc)
      | (apply jx9;(exact ShI.c rfl);(exact ShI.c rfl);(exact ShI.c rfl);(exact by decide))
     all_goals first
      | (exfalso;omega)
      | (exfalso;simp at hc;done)
      | (rw [hb];simp [qx7,ha,okA,qb2, *];done)
   | range=>
     simp only [j37,ha] at hat
     repeat' first
      | apply z01
      | exact z13
      | exact z19 rfl
      | (apply z17;rfl;rfl)
      | (apply za3;rfl;rfl;omega)
      | (apply z30;(iterate 3 rfl))
      | (apply z18;rfl;(with_reducible rfl);rfl)
      | (apply z54;(iterate 3 rfl))
      | (apply z92;rfl;rfl)
      | (apply jo8;rfl)
      | (apply zw0;rfl;rfl;omega)
      | (apply q13;(iterate 3 rfl);omega)
      | (apply z05 (hc:=hc);rfl;rfl;rfl)
      | (apply z05 (hc:=hat);rfl;rfl;rfl)
      | (apply z04;focus (repeat (first | exact z28 | (apply kq_c;rfl))))
      | apply z02
      | apply z00
      | apply z03
      | apply z12
      | apply z15
      | (apply z39;rfl;(with_reducible rfl))
      | (apply z14;rfl)
      | (apply z50;rfl;(with_reducible rfl))
      | (apply z41;rfl;(with_reducible rfl))
      | (apply z40;rfl)
      | (with_reducible apply z78;intro hc)
      | (with_reducible apply z57;intro hc)
      | (with_reducible apply zh7;intro hc)
      | (apply jx9;(exact ShI.c rfl);(exact ShI.c rfl);(exact ShI.c rfl);(exact by decide))
     all_goals first
      | (exfalso;omega)
      | (exfalso;simp at hc;done)
      | (rw [hb];simp [qx7,ha,okA,qb2, *];done)
   | _=>
     simp only [j37,ha] at hat
     repeat' first
      | apply z01
      | exact z13
      | exact z19 rfl
      | (apply z17;rfl;rfl)
      | (apply za3;rfl;rfl;omega)
      | (apply z30;(iterate 3 rfl))
      | (apply z18;rfl;(with_reducible rfl);rfl)
      | (apply z54;(iterate 3 rfl))
      | (apply z92;rfl;rfl)
      | (apply jo8;rfl)
      | (apply zw0;rfl;rfl;omega)
      | (apply q13;(iterate 3 rfl);omega)
      | (apply z05 (hc:=hc);rfl;rfl;rfl)
      | (apply z05 (hc:=hat);rfl;rfl;rfl)
      | (apply z04;focus (repeat (first | exact z28 | (apply kq_c;rfl))))
      | apply z02
      | apply z00
      | apply z03
      | apply z12
      | apply z15
      | (apply z39;rfl;(with_reducible rfl))
      | (apply z14;rfl)
      | (apply z50;rfl;(with_reducible rfl))
      | (apply z41;rfl;(with_reducible rfl))
      | (apply z40;rfl)
      | (with_reducible apply z78;intro hc)
      | (with_reducible apply z57;intro hc)
      | (with_reducible apply zh7;intro hc)
      | (apply jx9;(exact ShI.c rfl);(exact ShI.c rfl);(exact ShI.c rfl);(exact by decide))
     all_goals first
      | (exfalso;omega)
      | (exfalso;simp at hc;done)
      | (rw [hb];simp [qx7,ha,okA,qb2, *];done)
end Go.Proofs.TryzL
namespace Go.Proofs.TryzL
open Go.Proofs.Lz
set_option maxHeartbeats 2000000
def z86 (s:List UInt8):Nat:=if rwordL.contains s then 5 else if rsymL.contains s then 6 else if zo6 s&&q09 s then 2 else if zo6 s then 1 else if zf7 s&&s[0]?==some 58 then 4 else if zf7 s then 3 else if (je9 s).isSome then 7 else 0
theorem q51 (s:List UInt8) (hl:s.length<2^31):Rets Vv 60 [.c (.str s)] (.c (.int .i64 (z86 s))):=by
 refine z83 ww3 ?_
 cases h0:s[0]? with
 | none=>
   have:s=[]:=by cases s<;>simp_all
   subst this
   have hb:=jl0 [] hl
   have hb':Rets Vv 92 [.c (.str [])] (qb2 none):=hb
   simp only [qb2] at hb'
   have e1:rwordL.contains []=false:=rfl
   have e2:rsymL.contains []=false:=rfl
   have e3:zo6 []=false:=rfl
   have e4:zf7 []=false:=rfl
   have h1:=zj7 []
   have h2:=zg4 []
   have h3:=qj2 [] (by simp)
   have h4:=q86 [] (by simp)
   rw [e1] at h1;rw [e2] at h2;rw [e3] at h3;rw [e4] at h4
   repeat' first
    | apply z01
    | exact z13
    | exact z19 rfl
    | (apply z17;rfl;rfl)
    | (apply z16;rfl;(with_reducible rfl);rfl)
    | (apply z54;(iterate 3 rfl))
    | (apply z92;rfl;rfl)
    | (apply z05 (hc:=h1);rfl;rfl;rfl)
    | (apply z05 (hc:=h2);rfl;rfl;rfl)
    | (apply z05 (hc:=h3);rfl;rfl;rfl)
    | (apply z05 (hc:=h4);rfl;rfl;rfl)
    | (apply z05 (hc:=hb');rfl;rfl;rfl)
    | (apply z04;focus (repeat (first | exact z28 | (apply kq_c;rfl))))
    | apply z02
    | apply z00
    | apply z03
    | apply z09
    | apply z12
    | apply z15
    | (apply z35;rfl;(with_reducible rfl))
    | (apply z48;rfl;(with_reducible rfl))
    | (apply zb5;rfl)
   all_goals rfl
 | some c=>
   cases hb:je9 s with
   | none=>
     have hb':Rets Vv 92 [.c (.str s)] (qb2 none):=hb▸jl0 s hl
     simp only [qb2] at hb'
     repeat' first
      | apply z01
      | exact z13
      | exact z19 rfl
      | (apply z17;rfl;rfl)
      | (apply z30;(iterate 3 rfl))
      | (apply z18;rfl;(with_reducible rfl);rfl)
      | (apply z16;rfl;(with_reducible rfl);rfl)
      | (apply z60;(iterate 3 rfl);assumption)
      | (apply z54;(iterate 3 rfl))
      | (apply z92;rfl;rfl)
      | (apply z05 (hc:=zj7 s);rfl;rfl;rfl)
      | (apply z05 (hc:=zg4 s);rfl;rfl;rfl)
      | (apply z05 (hc:=qj2 s (by omega));rfl;rfl;rfl)
      | (apply z05 (hc:=q86 s (by omega));rfl;rfl;rfl)
      | (apply z05 (hc:=qm2 c);rfl;rfl;rfl)
      | (apply z05 (hc:=hb');rfl;rfl;rfl)
      | (apply z04;focus (repeat (first | exact z28 | (apply kq_c;rfl))))
      | apply z02
      | apply z00
      | apply z03
      | apply z09
      | apply z12
      | apply z15
      | (apply z35;rfl;(with_reducible rfl))
      | (apply z14;rfl)
      | (apply z50;rfl;(with_reducible rfl))
      | (apply z48;rfl;(with_reducible rfl))
      | (apply z40;rfl)
      | (with_reducible apply za2;intro hc)
      | (with_reducible apply z73;intro hc)
      | (with_reducible apply zh7;intro hc)
      | (apply zb5;rfl)
     all_goals have e58:((c.toNat:Int)=58)↔c=58:=u8eq (n:=58) (by decide)
     all_goals first
      | (exfalso;simp_all;done)
      | (congr 1;simp_all [z86,q09];done)
   | some p=>
     have hb':Rets Vv 92 [.c (.str s)] (qb2 (some p)):=hb▸jl0 s hl
     simp only [qb2] at hb'
     repeat' first
      | apply z01
      | exact z13
      | exact z19 rfl
      | (apply z17;rfl;rfl)
      | (apply z30;(iterate 3 rfl))
      | (apply z18;rfl;(with_reducible rfl);rfl)
      | (apply z16;rfl;(with_reducible rfl);rfl)
      | (apply z60;(iterate 3 rfl);assumption)
      | (apply z54;(iterate 3 rfl))
      | (apply z92;rfl;rfl)
      | (apply z05 (hc:=zj7 s);rfl;rfl;rfl)
      | (apply z05 (hc:=zg4 s);rfl;rfl;rfl)
      | (apply z05 (hc:=qj2 s (by omega));rfl;rfl;rfl)
      | (apply z05 (hc:=q86 s (by omega));rfl;rfl;rfl)
      | (apply z05 (hc:=qm2 c);rfl;rfl;rfl)
      | (apply z05 (hc:=hb');rfl;rfl;rfl)
      | (apply z04;focus (repeat (first | exact z28 | (apply kq_c;rfl))))
      | apply z02
      | apply z00
      | apply z03
      | apply z09
      | apply z12
      | apply z15
      | (apply z39;rfl;(with_reducible rfl))
      | (apply z35;rfl;(with_reducible rfl))
      | (apply z14;rfl)
      | (apply z50;rfl;(with_reducible rfl))
      | (apply z48;rfl;(with_reducible rfl))
      | (apply z40;rfl)
      | (with_reducible apply za2;intro hc)
      | (with_reducible apply z73;intro hc)
      | (with_reducible apply zh7;intro hc)
      | (apply zb5;rfl)
     all_goals have e58:((c.toNat:Int)=58)↔c=58:=u8eq (n:=58) (by decide)
     all_goals first
      | (exfalso;simp_all;done)
      | (congr 1;simp_all [z86,q09];done)
end Go.Proofs.TryzL
namespace Go.Proofs.TryzL
open Go.Proofs.Lz
set_option maxHeartbeats 2000000
theorem u8i {a b:UInt8}:((a.toNat:Int)=(b.toNat:Int))↔a=b:=by rw [← UInt8.toNat_inj];omega
end Go.Proofs.TryzL
namespace Go.Proofs.TryzL
open Go.Proofs.Lz
set_option maxHeartbeats 2000000
end Go.Proofs.TryzL
namespace Go.Proofs.TryzL
open Go.Proofs.Lz
set_option maxHeartbeats 2000000
end Go.Proofs.TryzL
namespace Go.Proofs.TryzL
open Go.Proofs.Lz
set_option maxHeartbeats 2000000
end Go.Proofs.TryzL
namespace Go.Proofs.TryzL
open Go.Proofs.Lz
set_option maxHeartbeats 2000000
end Go.Proofs.TryzL
namespace Go.Proofs.Lz
theorem je7 {n:Int} (h:0≤n∧n<256):IntKind.u8.wrap n=n:=by
 simp [IntKind.wrap,IntKind.bits,IntKind.signed]
 omega
section
variable {V:WEnv} {fr fr':WFr} {H H':z06} {N:Post} {dst:Option Nat}
theorem qc9 {x y:Opd} {a b:Int} (hx:fr.rd x=.c (.int .u8 a)) (hy:fr.rd y=.c (.int .u8 b)) (h0:0≤a - b∧a - b<256) (hq:Put fr dst (.c (.int .u8 (a - b))) fr') (h:N fr' H):OpP V (.bin .sub x y) dst fr H N:=
 z30 hx hy (by simp only [binC,if_true,je7 h0]) hq h
theorem wm7 {x y:Opd} {c:UInt8} (hx:fr.rd x=.c (.int .u8 c.toNat)) (hy:fr.rd y=.c (.int .u64 4)) (hq:Put fr dst (.c (.int .u8 (c.toNat / 16:Nat))) fr') (h:N fr' H):OpP V (.bin .shr x y) dst fr H N:=by
 refine z30 (v:=.int .u8 (c.toNat / 16:Nat)) hx hy ?_ hq h
 have e:((c.toNat:Int).fdiv (2 ^ (min (4:Int).toNat IntKind.u8.bits)))=((c.toNat / 16:Nat):Int):=by
  show (c.toNat:Int).fdiv 16=_
  rw [Int.fdiv_eq_ediv_of_nonneg _ (by omega)]
  omega
 show (if (0:Int)≤4 then some (CV.int .u8 ((c.toNat:Int).fdiv (2 ^ (min (4:Int).toNat IntKind.u8.bits)))) else none)=_
 rw [e]
 rfl
theorem v18:∀ c:UInt8,IntKind.u8.wrap ((BitVec.ofInt IntKind.u8.bits c.toNat &&& BitVec.ofInt IntKind.u8.bits 15).toNat)=((c.toNat % 16:Nat):Int):=by
 have h:∀ n:Fin 256,IntKind.u8.wrap ((BitVec.ofInt IntKind.u8.bits (n.val:Int) &&& BitVec.ofInt IntKind.u8.bits 15).toNat)=((n.val % 16:Nat):Int):=by decide +kernel
 intro c
 exact h ⟨c.toNat,c.toNat_lt⟩
theorem w02 {x y:Opd} {c:UInt8} (hx:fr.rd x=.c (.int .u8 c.toNat)) (hy:fr.rd y=.c (.int .u8 15)) (hq:Put fr dst (.c (.int .u8 (c.toNat % 16:Nat))) fr') (h:N fr' H):OpP V (.bin .and x y) dst fr H N:=
 z30 (v:=.int .u8 (c.toNat % 16:Nat)) hx hy (by simp only [binC,if_true,v18 c]) hq h
theorem j68 {l:List (Nat×WV)} {a:List (Nat×Option (Nat×Nat))} {f p:Nat} {args:List Opd} {r:WV} {Q:z06→Prop} (hm:V.md f=.S) (ht:V.tk f=[0]) (hp:zg1 [0] 0 (args.map (FL l a).rd)=[.sl p 0 0]) (hl:qs4 [0] 0 (args.map (FL l a).rd)=[]) (ho:(args.map (FL l a).rd).all okA=true)
 (hc:Shr V f (q16 [0] 0 (args.map (FL l a).rd)) H r Q) (hq:Put (FL (hitM isHp false (hitM (inK [.sl p 0 0]) false l)) a) dst r fr') (h:∀ H',Q H'→N fr' H'):OpP V (.call f args) dst (FL l a) H N:=by
 obtain ⟨H2,h1,h2⟩:=hc
 refine ⟨fr',H2,?_,h H2 h2⟩
 show zb8 V (wv V) f (args.map (FL l a).rd) dst (FL l a) H=_
 simp only [zb8,hm,ht,hp,hl,ho,List.nodup_cons,List.not_mem_nil,not_false_eq_true,List.nodup_nil,List.all_cons,List.all_nil,List.contains_nil,Bool.not_false,Bool.and_true,and_self,if_true,qa1,h1,j30,hq.eq]
theorem wo5 {n t e:Nat} {b:Bool} {ek:Option Nat} {xs:List CV} {r:WV} {Q:z06→Prop} (h1:fr.env t=.own b e ek xs) (hr:r=.own b e ek xs) (h:Q H):finS n [.tmp t] r Q fr H:=by
 subst hr
 refine ⟨[.view (.sl t 0 0) b 0 e ek xs],.own b e ek xs,H,?_,?_,rfl,h⟩
 · simp [ze3,h1,zv7,zj4,zn1]
 · unfold zo3
   have e:List.filter (zh8 n) [Pl.sl t 0 0]=[Pl.sl t 0 0]:=by simp [zh8]
   simp [zc4,srcC,src1,zn4,zt7,zh8,zc7,zk6,leave1,hitH,e]
theorem q57 {x:Opd} {xs:List CV} {s:List UInt8} (hx:q59 none (fr.rd x)=some xs) (hb:zd2 xs=some s) (hq:Put fr dst (.c (.str s)) fr') (h:N fr' H):OpP V (.b2s x) dst fr H N:=
 ⟨fr',H,by show wOp0 (.b2s x) dst fr H=_;simp only [wOp0,hx,Option.bind_some,hb,hq.eq],h⟩
end
end Go.Proofs.Lz
namespace Go.Proofs.TryzL
open Go.Proofs.Lz
set_option maxHeartbeats 4000000
def numF:List UInt8→Nat→Option Nat
 | [],a=>some a
 | c::r,a=>if z84 c=true∧a≤(9223372036854775807 - (c.toNat - 48)) / 10 then numF r (10 * a+(c.toNat - 48)) else none
theorem wy4 (x:Int) (h:0≤x∧x≤9):IntKind.i64.wrap ((9223372036854775807 - x).tdiv 10)=(9223372036854775807 - x) / 10:=by
 rw [Int.tdiv_eq_ediv_of_nonneg (by omega)]
 exact wrap64 (by omega)
theorem jp2 {c:UInt8} (h:z84 c=true):48≤c.toNat∧c.toNat≤57:=by simpa [z84] using h
end Go.Proofs.TryzL
namespace Go.Proofs.TryzL
open Go.Proofs.Lz
set_option maxHeartbeats 4000000
def jx0 (s:List UInt8):Nat→Int
 | 0=>-1
 | n+1=>if s[n]?=some 36 then (n:Int) else jx0 s n
theorem w19 (s:List UInt8):∀ n,-1≤jx0 s n∧jx0 s n<n
 | 0=>by simp [jx0]
 | n+1=>by
   have:=w19 s n
   unfold jx0
   split<;>omega
end Go.Proofs.TryzL
