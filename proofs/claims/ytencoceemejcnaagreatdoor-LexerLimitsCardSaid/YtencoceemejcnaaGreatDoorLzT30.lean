/- Chapter 02: the reference's Render. -/
import Derived.Test.YtencoceemejcnaaGreatDoorLzT8
import Derived.Lib.ItoaLen
import Derived.Test.YtencoceemejcnaaGreatDoorLzLays02
set_option linter.unusedSimpArgs false
set_option linter.unusedVariables false
namespace Go.Proofs.TryzL
open Go.Proofs.Lz
def qk7 (s:List UInt8):Bool:=(qa9 s&&!rwordL.contains s)||(zv4 s&&!rsymL.contains s)
set_option maxHeartbeats 2000000
theorem qu8 (s:List UInt8) (hl:s.length<2^60):Rets Vv 161 [.c (.str s)] (.c (.bool (qk7 s))):=by
 refine z92 wn0 ?_
 repeat' first
  | apply z01
  | exact z13
  | exact z18 rfl
  | (apply z17;rfl;rfl)
  | (apply z93;rfl;rfl)
  | (apply z16;rfl;(with_reducible rfl);rfl)
  | (apply z14;rfl;(with_reducible rfl);rfl)
  | (apply z05 (hc:=qi9 s hl);rfl;rfl;rfl)
  | (apply z05 (hc:=zi9 s);rfl;rfl;rfl)
  | (apply z05 (hc:=q70 s hl);rfl;rfl;rfl)
  | (apply z05 (hc:=zg1 s);rfl;rfl;rfl)
  | apply z02
  | apply z00
  | apply z04
  | apply z19
  | (apply z52;rfl;(with_reducible rfl))
  | (apply z43;rfl;(with_reducible rfl))
  | (apply z42;rfl;(with_reducible rfl))
  | (apply zj4;rfl)
  | (apply z40;rfl)
  | with_reducible apply z65
  | with_reducible apply z64
  | (with_reducible apply zf9;intro hc)
  | (apply zd7;rfl)
 all_goals (simp only [qk7, *];rfl)
def qr7 (s:List UInt8):Bool:=match s[0]? with
 | none=>false
 | some c=>upperB c
def w13 (m n:List UInt8):List UInt8:=if qa9 m&&qr7 m&&qk7 n then m++[46]++n else []
theorem w94 (m n:List UInt8) (hm:m.length<2^59) (hn:n.length<2^59):Rets Vv 174 [.c (.str m),.c (.str n)] (.c (.str (w13 m n))):=by
 refine z92 wl9 ?_
 cases h0:m[0]? with
 | none=>
   have hw:qa9 m=false:=by simp [qa9,h0]
   repeat' first
    | apply z01
    | exact z13
    | exact z18 rfl
    | (apply z17;rfl;rfl)
    | (apply z93;rfl;rfl)
    | (apply z16;rfl;(with_reducible rfl);rfl)
    | (apply z05 (hc:=qi9 m (by omega));rfl;rfl;rfl)
    | (apply z03;focus (repeat (exact z29)))
    | apply z02
    | apply z00
    | apply z04
    | apply z19
    | (apply z41;rfl;(with_reducible rfl))
    | (apply z52;rfl;(with_reducible rfl))
    | (apply z42;rfl;(with_reducible rfl))
    | (apply z40;rfl)
    | with_reducible apply z65
    | with_reducible apply z64
    | (with_reducible apply zf9;intro hc)
    | (apply zd7;rfl)
   all_goals first
    | (congr 1;simp [w13, *];done)
    | (exfalso;simp_all;done)
 | some c=>
   repeat' first
    | apply z01
    | exact z13
    | exact z18 rfl
    | (apply z17;rfl;rfl)
    | (apply w52;rfl;rfl;(simp only [List.length_map,List.length_cons,List.length_nil,List.length_append,List.length_replicate];omega))
    | (apply z93;rfl;rfl)
    | (apply z16;rfl;(with_reducible rfl);rfl)
    | (apply z14;rfl;(with_reducible rfl);rfl)
    | (apply z62;(iterate 3 rfl);assumption)
    | (apply z05 (hc:=qi9 m (by omega));rfl;rfl;rfl)
    | (apply z05 (hc:=qu8 n (by omega));rfl;rfl;rfl)
    | (apply z05 (hc:=qj5 c);rfl;rfl;rfl)
    | (apply z03;focus (repeat (first | exact z29 | (apply kq_c;rfl))))
    | apply z02
    | apply z00
    | apply z04
    | apply z12
    | apply z19
    | (apply z41;rfl;(with_reducible rfl))
    | (apply z15;rfl)
    | (apply z52;rfl;(with_reducible rfl))
    | (apply z42;rfl;(with_reducible rfl))
    | (apply z40;rfl)
    | with_reducible apply z65
    | with_reducible apply z64
    | (with_reducible apply zf9;intro hc)
    | (apply zd7;rfl)
   all_goals first
    | (congr 1;simp [w13,qr7, *];done)
    | (exfalso;simp_all;done)
def j34 (s:List UInt8):Option (List UInt8×List UInt8):=if (Lib.cut s [46]).2.2&&!(w13 (Lib.cut s [46]).1 (Lib.cut s [46]).2.1==[]) then some ((Lib.cut s [46]).1,(Lib.cut s [46]).2.1) else none
def splitV (o:Option (List UInt8×List UInt8)):WV:=match o with
 | none=>.tup [.c (.str []),.c (.str []),.c (.bool false)]
 | some p=>.tup [.c (.str p.1),.c (.str p.2),.c (.bool true)]
theorem w03 (s:List UInt8) (h:s.length<2^31):Rets Vv 173 [.c (.str s),.c (.str [46])] (.tup [.c (.str (Lib.cut s [46]).1),.c (.str (Lib.cut s [46]).2.1),.c (.bool (Lib.cut s [46]).2.2)]):=
 q05 (V:=Vv) (f:=173) (xs:=[.str s,.str [46]]) (us:=[.str (Lib.cut s [46]).1,.str (Lib.cut s [46]).2.1,.bool (Lib.cut s [46]).2.2]) (g:=cutG) rfl rfl (by simp only [cutG];rw [if_pos (by omega)]) (by simp)
theorem wb1 (s:List UInt8):(Lib.cut s [46]).1.length≤s.length∧(Lib.cut s [46]).2.1.length≤s.length:=by
 unfold Lib.cut
 split
 · simp;omega
 · simp
theorem j75 (s:List UInt8) (hl:s.length<2^31):Rets Vv 160 [.c (.str s)] (splitV (j34 s)):=by
 refine z92 wl6 ?_
 obtain ⟨l1,l2⟩:=wb1 s
 repeat' first
  | apply z01
  | exact z13
  | exact z18 rfl
  | (apply z17;rfl;rfl)
  | (apply z34;(iterate 3 rfl))
  | (apply z93;rfl;rfl)
  | (apply z16;rfl;(with_reducible rfl);rfl)
  | (apply z14;rfl;(with_reducible rfl);rfl)
  | (apply z50;(iterate 3 rfl))
  | (apply z87;rfl;rfl)
  | (apply z05 (hc:=w03 s hl);rfl;rfl;rfl)
  | (apply z05 (hc:=w94 (Lib.cut s [46]).1 (Lib.cut s [46]).2.1 (by omega) (by omega));rfl;rfl;rfl)
  | (apply z03;focus (repeat (first | exact z29 | (apply kq_c;rfl))))
  | apply z02
  | apply z00
  | apply z04
  | apply z12
  | apply z19
  | (apply z41;rfl;(with_reducible rfl))
  | (apply z15;rfl)
  | (apply z52;rfl;(with_reducible rfl))
  | (apply z42;rfl;(with_reducible rfl))
  | (apply z40;rfl)
  | with_reducible apply z65
  | with_reducible apply z64
  | (with_reducible apply zx3;intro hc)
  | (with_reducible apply zk8;intro hc)
  | (with_reducible apply zf9;intro hc)
  | (apply jg8;(exact ShI.c rfl);(exact ShI.c rfl);(exact ShI.c rfl);(exact by decide))
 all_goals (simp [j34,splitV, *])
def qm3 (s:List UInt8):Bool:=(j34 s).isSome||qk7 s
theorem jo7 (s:List UInt8) (hl:s.length<2^31):Rets Vv 139 [.c (.str s)] (.c (.bool (qm3 s))):=by
 refine z92 wm6 ?_
 cases h:j34 s with
 | none=>
   have hs:Rets Vv 160 [.c (.str s)] (.tup [.c (.str []),.c (.str []),.c (.bool false)]):=by have:=j75 s hl;rw [h] at this;exact this
   repeat' first
    | apply z01
    | exact z13
    | exact z18 rfl
    | (apply z17;rfl;rfl)
    | (apply z14;rfl;(with_reducible rfl);rfl)
    | (apply z50;(iterate 3 rfl))
    | (apply z87;rfl;rfl)
    | (apply z05 (hc:=hs);rfl;rfl;rfl)
    | (apply z05 (hc:=qu8 s (by omega));rfl;rfl;rfl)
    | apply z02
    | apply z00
    | apply z04
    | apply z19
    | (apply z52;rfl;(with_reducible rfl))
    | (apply zd7;rfl)
   all_goals (simp only [qm3,h];rfl)
 | some p=>
   have hs:Rets Vv 160 [.c (.str s)] (.tup [.c (.str p.1),.c (.str p.2),.c (.bool true)]):=by have:=j75 s hl;rw [h] at this;exact this
   repeat' first
    | apply z01
    | exact z13
    | exact z18 rfl
    | (apply z17;rfl;rfl)
    | (apply z16;rfl;(with_reducible rfl);rfl)
    | (apply z50;(iterate 3 rfl))
    | (apply z87;rfl;rfl)
    | (apply z05 (hc:=hs);rfl;rfl;rfl)
    | apply z02
    | apply z00
    | apply z04
    | apply z19
    | (apply z42;rfl;(with_reducible rfl))
    | (apply zd7;rfl)
   all_goals (simp only [qm3,h];rfl)
def w27 (b:List UInt8) (n:Int):List UInt8:=if decide (0≤n)&&qm3 b then b++[36]++Lib.itoa n else []
theorem jf4 (n:Int) (h:-9223372036854775808≤n∧n≤9223372036854775807):Rets Vv 81 [.c (.int .i64 n)] (.c (.str (Lib.itoa n))):=
 zs5 (V:=Vv) (f:=81) (xs:=[.int .i64 n]) (u:=.str (Lib.itoa n)) (g:=jq7) rfl rfl (by simp only [jq7];rw [if_pos h])
theorem w65 (b:List UInt8) (n:Int) (hl:b.length<2^31) (hn:-9223372036854775808≤n∧n≤9223372036854775807):Rets Vv 119 [.c (.str b),.c (.int .i64 n)] (.c (.str (w27 b n))):=by
 refine z92 wn9 ?_
 have hi:=Lib.itoa_length_le n hn.1 hn.2
 repeat' first
  | apply z01
  | exact z13
  | exact z18 rfl
  | (apply z17;rfl;rfl)
  | (apply w52;rfl;rfl;(simp only [List.length_map,List.length_cons,List.length_nil,List.length_append,List.length_replicate];omega))
  | (apply z34;(iterate 3 rfl))
  | (apply z93;rfl;rfl)
  | (apply z16;rfl;(with_reducible rfl);rfl)
  | (apply z14;rfl;(with_reducible rfl);rfl)
  | (apply z05 (hc:=jo7 b hl);rfl;rfl;rfl)
  | (apply z05 (hc:=jf4 n hn);rfl;rfl;rfl)
  | (apply z03;focus (repeat (first | exact z29 | (apply kq_c;rfl))))
  | apply z02
  | apply z00
  | apply z04
  | apply z12
  | apply z19
  | (apply z41;rfl;(with_reducible rfl))
  | (apply z15;rfl)
  | (apply z52;rfl;(with_reducible rfl))
  | (apply z42;rfl;(with_reducible rfl))
  | (apply z40;rfl)
  | with_reducible apply z65
  | with_reducible apply z64
  | (with_reducible apply z81;intro hc)
  | (with_reducible apply z60;intro hc)
  | (with_reducible apply zf9;intro hc)
  | (apply zd7;rfl)
 all_goals first
  | (have:¬ 0≤n:=by omega
     simp [w27, *];done)
  | (have:0≤n:=by omega
     simp [w27, *];done)
theorem last_call (s:List UInt8) (h:s.length<2^31):Rets Vv 117 [.c (.str s),.c (.int .u8 36)] (.c (.int .i64 (Lib.lastIndexByte ⟨s.toArray⟩ 36))):=
 zs5 (V:=Vv) (f:=117) (xs:=[.str s,.int .u8 36]) (u:=.int .i64 (Lib.lastIndexByte ⟨s.toArray⟩ 36)) (g:=jg2) rfl rfl (by simp only [jg2];rw [if_pos (by omega)])
theorem w96 (s:List UInt8):-1≤Lib.lastIndexByte ⟨s.toArray⟩ 36∧Lib.lastIndexByte ⟨s.toArray⟩ 36<s.length:=by
 have h:=Lib.lastIndexByte_spec ⟨s.toArray⟩ 36
 have hsz:(⟨s.toArray⟩:ByteArray).size=s.length:=by simp [ByteArray.size]
 rcases h with ⟨h,_⟩ | ⟨i,h1,h2,_⟩
 · rw [h];omega
 · rw [h2];rw [hsz] at h1;omega
def j23 (s:List UInt8):WV:=match Lib.atoiAll s with
 | .ok v=>.tup [.c (.int .i64 v),.c .nili]
 | .range=>.tup [.c (.int .i64 (Lib.atoiSat s)),.c .opq]
 | _=>.tup [.c (.int .i64 0),.c .opq]
theorem jk5 (s:List UInt8) (h:s.length<2^31):Rets Vv 118 [.c (.str s)] (j23 s):=by
 cases ha:Lib.atoiAll s with
 | ok v=>
   simp only [j23,ha]
   exact q05 (V:=Vv) (f:=118) (xs:=[.str s]) (us:=[.int .i64 v,.nili]) (g:=qm0) rfl rfl (by simp only [qm0,ha];rw [if_pos (by omega)]) (by simp)
 | range=>
   simp only [j23,ha]
   exact q05 (V:=Vv) (f:=118) (xs:=[.str s]) (us:=[.int .i64 (Lib.atoiSat s),.opq]) (g:=qm0) rfl rfl (by simp only [qm0,ha];rw [if_pos (by omega)]) (by simp)
 | _=>
   simp only [j23,ha]
   exact q05 (V:=Vv) (f:=118) (xs:=[.str s]) (us:=[.int .i64 0,.opq]) (g:=qm0) rfl rfl (by simp only [qm0,ha];rw [if_pos (by omega)]) (by simp)
end Go.Proofs.TryzL
namespace Go.Proofs.TryzL
open Go.Proofs.Lz
def okA:Lib.NumEnd Int→Option Int
 | .ok v=>some v
 | _=>none
def qw2 (s:List UInt8) (k:Nat):Option (List UInt8×Int):=match okA (Lib.atoiAll (s.drop (k+1))) with
 | none=>none
 | some v=>if w27 (s.take k) v=s then some (s.take k,v) else none
def je2 (s:List UInt8):Option (List UInt8×Int):=if Lib.lastIndexByte ⟨s.toArray⟩ 36<0 then none else qw2 s (Lib.lastIndexByte ⟨s.toArray⟩ 36).toNat
def qa4 (o:Option (List UInt8×Int)):WV:=match o with
 | none=>.tup [.c (.str []),.c (.int .i64 0),.c (.bool false)]
 | some p=>.tup [.c (.str p.1),.c (.int .i64 p.2),.c (.bool true)]
set_option maxHeartbeats 2000000
theorem ji5 (s:List UInt8) (hl:s.length<2^31):Rets Vv 92 [.c (.str s)] (qa4 (je2 s)):=by
 refine z92 wp1 ?_
 obtain ⟨b1,b2⟩:=w96 s
 by_cases h0:Lib.lastIndexByte ⟨s.toArray⟩ 36<0
 · repeat' first
    | apply z01
    | exact z13
    | (apply z17;rfl;rfl)
    | (apply z96;rfl;rfl;omega)
    | (apply z34;(iterate 3 rfl))
    | (apply qq9;rfl;rfl;omega;omega)
    | (apply z05 (hc:=last_call s hl);rfl;rfl;rfl)
    | (apply z03;focus (repeat (first | exact z29 | (apply kq_c;rfl))))
    | apply z02
    | apply z00
    | apply z04
    | apply z12
    | apply z19
    | (apply z15;rfl)
    | (with_reducible apply z81;intro hc)
    | (with_reducible apply z60;intro hc)
    | (apply jg8;(exact ShI.c rfl);(exact ShI.c rfl);(exact ShI.c rfl);(exact by decide))
   · simp [je2,h0,qa4]
   · omega
 · obtain ⟨k,hk⟩:∃ k:Nat,Lib.lastIndexByte ⟨s.toArray⟩ 36=k:=⟨_,(Int.toNat_of_nonneg (by omega)).symm⟩
   have hc:=last_call s hl
   rw [hk] at hc b2 h0
   have hb:je2 s=qw2 s k:=by simp only [je2,hk];rw [if_neg h0];simp
   have hd:(s.drop (k+1)).length<2^31:=by rw [List.length_drop];omega
   have hat:=jk5 (s.drop (k+1)) hd
   cases ha:Lib.atoiAll (s.drop (k+1)) with
   | ok v=>
     have hv:=Lib.atoiAll_bounds ha
     simp only [j23,ha] at hat
     have hm:=w65 (s.take k) v (by rw [List.length_take];omega) hv
     repeat' first
      | apply z01
      | exact z13
      | exact z18 rfl
      | (apply z17;rfl;rfl)
      | (apply z96;rfl;rfl;omega)
      | (apply z34;(iterate 3 rfl))
      | (apply z16;rfl;(with_reducible rfl);rfl)
      | (apply z14;rfl;(with_reducible rfl);rfl)
      | (apply z50;(iterate 3 rfl))
      | (apply z87;rfl;rfl)
      | (apply jj9;rfl)
      | (apply zu0;rfl;rfl;omega)
      | (apply q00;(iterate 3 rfl);omega)
      | (apply z05 (hc:=hc);rfl;rfl;rfl)
      | (apply z05 (hc:=hat);rfl;rfl;rfl)
      | (apply z05 (hc:=hm);rfl;rfl;rfl)
      | (apply z03;focus (repeat (first | exact z29 | (apply kq_c;rfl))))
      | apply z02
      | apply z00
      | apply z04
      | apply z12
      | apply z19
      | (apply z41;rfl;(with_reducible rfl))
      | (apply z15;rfl)
      | (apply z52;rfl;(with_reducible rfl))
      | (apply z42;rfl;(with_reducible rfl))
      | (apply z40;rfl)
      | with_reducible apply z65
      | with_reducible apply z64
      | (with_reducible apply zx3;intro hc)
      | (with_reducible apply zk8;intro hc)
      | (with_reducible apply z81;intro hc)
      | (with_reducible apply z60;intro hc)
      | (with_reducible apply zf9;intro hc)
      | (apply jg8;(exact ShI.c rfl);(exact ShI.c rfl);(exact ShI.c rfl);(exact by decide))
     all_goals first
      | (exfalso;omega)
      | (exfalso;simp at hc;done)
      | (rw [hb];simp [qw2,ha,okA,qa4, *];done)
   | range=>
     simp only [j23,ha] at hat
     repeat' first
      | apply z01
      | exact z13
      | exact z18 rfl
      | (apply z17;rfl;rfl)
      | (apply z96;rfl;rfl;omega)
      | (apply z34;(iterate 3 rfl))
      | (apply z16;rfl;(with_reducible rfl);rfl)
      | (apply z50;(iterate 3 rfl))
      | (apply z87;rfl;rfl)
      | (apply jj9;rfl)
      | (apply zu0;rfl;rfl;omega)
      | (apply q00;(iterate 3 rfl);omega)
      | (apply z05 (hc:=hc);rfl;rfl;rfl)
      | (apply z05 (hc:=hat);rfl;rfl;rfl)
      | (apply z03;focus (repeat (first | exact z29 | (apply kq_c;rfl))))
      | apply z02
      | apply z00
      | apply z04
      | apply z12
      | apply z19
      | (apply z41;rfl;(with_reducible rfl))
      | (apply z15;rfl)
      | (apply z52;rfl;(with_reducible rfl))
      | (apply z42;rfl;(with_reducible rfl))
      | (apply z40;rfl)
      | (with_reducible apply z81;intro hc)
      | (with_reducible apply z60;intro hc)
      | (with_reducible apply zf9;intro hc)
      | (apply jg8;(exact ShI.c rfl);(exact ShI.c rfl);(exact ShI.c rfl);(exact by decide))
     all_goals first
      | (exfalso;omega)
      | (exfalso;simp at hc;done)
      | (rw [hb];simp [qw2,ha,okA,qa4, *];done)
   | _=>
     simp only [j23,ha] at hat
     repeat' first
      | apply z01
      | exact z13
      | exact z18 rfl
      | (apply z17;rfl;rfl)
      | (apply z96;rfl;rfl;omega)
      | (apply z34;(iterate 3 rfl))
      | (apply z16;rfl;(with_reducible rfl);rfl)
      | (apply z50;(iterate 3 rfl))
      | (apply z87;rfl;rfl)
      | (apply jj9;rfl)
      | (apply zu0;rfl;rfl;omega)
      | (apply q00;(iterate 3 rfl);omega)
      | (apply z05 (hc:=hc);rfl;rfl;rfl)
      | (apply z05 (hc:=hat);rfl;rfl;rfl)
      | (apply z03;focus (repeat (first | exact z29 | (apply kq_c;rfl))))
      | apply z02
      | apply z00
      | apply z04
      | apply z12
      | apply z19
      | (apply z41;rfl;(with_reducible rfl))
      | (apply z15;rfl)
      | (apply z52;rfl;(with_reducible rfl))
      | (apply z42;rfl;(with_reducible rfl))
      | (apply z40;rfl)
      | (with_reducible apply z81;intro hc)
      | (with_reducible apply z60;intro hc)
      | (with_reducible apply zf9;intro hc)
      | (apply jg8;(exact ShI.c rfl);(exact ShI.c rfl);(exact ShI.c rfl);(exact by decide))
     all_goals first
      | (exfalso;omega)
      | (exfalso;simp at hc;done)
      | (rw [hb];simp [qw2,ha,okA,qa4, *];done)
end Go.Proofs.TryzL
namespace Go.Proofs.TryzL
open Go.Proofs.Lz
set_option maxHeartbeats 2000000
def zy1 (s:List UInt8):Nat:=if rwordL.contains s then 5 else if rsymL.contains s then 6 else if qa9 s&&qr7 s then 2 else if qa9 s then 1 else if zv4 s&&s[0]?==some 58 then 4 else if zv4 s then 3 else if (je2 s).isSome then 7 else 0
theorem q41 (s:List UInt8) (hl:s.length<2^31):Rets Vv 60 [.c (.str s)] (.c (.int .i64 (zy1 s))):=by
 refine z92 wu7 ?_
 cases h0:s[0]? with
 | none=>
   have:s=[]:=by cases s<;>simp_all
   subst this
   have hb:=ji5 [] hl
   have hb':Rets Vv 92 [.c (.str [])] (qa4 none):=hb
   simp only [qa4] at hb'
   have e1:rwordL.contains []=false:=rfl
   have e2:rsymL.contains []=false:=rfl
   have e3:qa9 []=false:=rfl
   have e4:zv4 []=false:=rfl
   have h1:=zi9 []
   have h2:=zg1 []
   have h3:=qi9 [] (by simp)
   have h4:=q70 [] (by simp)
   rw [e1] at h1;rw [e2] at h2;rw [e3] at h3;rw [e4] at h4
   repeat' first
    | apply z01
    | exact z13
    | exact z18 rfl
    | (apply z17;rfl;rfl)
    | (apply z14;rfl;(with_reducible rfl);rfl)
    | (apply z50;(iterate 3 rfl))
    | (apply z87;rfl;rfl)
    | (apply z05 (hc:=h1);rfl;rfl;rfl)
    | (apply z05 (hc:=h2);rfl;rfl;rfl)
    | (apply z05 (hc:=h3);rfl;rfl;rfl)
    | (apply z05 (hc:=h4);rfl;rfl;rfl)
    | (apply z05 (hc:=hb');rfl;rfl;rfl)
    | (apply z03;focus (repeat (first | exact z29 | (apply kq_c;rfl))))
    | apply z02
    | apply z00
    | apply z04
    | apply z08
    | apply z12
    | apply z19
    | (apply z38;rfl;(with_reducible rfl))
    | (apply z43;rfl;(with_reducible rfl))
    | (apply zd7;rfl)
   all_goals rfl
 | some c=>
   cases hb:je2 s with
   | none=>
     have hb':Rets Vv 92 [.c (.str s)] (qa4 none):=hb▸ji5 s hl
     simp only [qa4] at hb'
     repeat' first
      | apply z01
      | exact z13
      | exact z18 rfl
      | (apply z17;rfl;rfl)
      | (apply z34;(iterate 3 rfl))
      | (apply z16;rfl;(with_reducible rfl);rfl)
      | (apply z14;rfl;(with_reducible rfl);rfl)
      | (apply z62;(iterate 3 rfl);assumption)
      | (apply z50;(iterate 3 rfl))
      | (apply z87;rfl;rfl)
      | (apply z05 (hc:=zi9 s);rfl;rfl;rfl)
      | (apply z05 (hc:=zg1 s);rfl;rfl;rfl)
      | (apply z05 (hc:=qi9 s (by omega));rfl;rfl;rfl)
      | (apply z05 (hc:=q70 s (by omega));rfl;rfl;rfl)
      | (apply z05 (hc:=qj5 c);rfl;rfl;rfl)
      | (apply z05 (hc:=hb');rfl;rfl;rfl)
      | (apply z03;focus (repeat (first | exact z29 | (apply kq_c;rfl))))
      | apply z02
      | apply z00
      | apply z04
      | apply z08
      | apply z12
      | apply z19
      | (apply z38;rfl;(with_reducible rfl))
      | (apply z15;rfl)
      | (apply z52;rfl;(with_reducible rfl))
      | (apply z43;rfl;(with_reducible rfl))
      | (apply z40;rfl)
      | (with_reducible apply za1;intro hc)
      | (with_reducible apply z69;intro hc)
      | (with_reducible apply zf9;intro hc)
      | (apply zd7;rfl)
     all_goals have e58:((c.toNat:Int)=58)↔c=58:=u8eq (n:=58) (by decide)
     all_goals first
      | (exfalso;simp_all;done)
      | (congr 1;simp_all [zy1,qr7];done)
   | some p=>
     have hb':Rets Vv 92 [.c (.str s)] (qa4 (some p)):=hb▸ji5 s hl
     simp only [qa4] at hb'
     repeat' first
      | apply z01
      | exact z13
      | exact z18 rfl
      | (apply z17;rfl;rfl)
      | (apply z34;(iterate 3 rfl))
      | (apply z16;rfl;(with_reducible rfl);rfl)
      | (apply z14;rfl;(with_reducible rfl);rfl)
      | (apply z62;(iterate 3 rfl);assumption)
      | (apply z50;(iterate 3 rfl))
      | (apply z87;rfl;rfl)
      | (apply z05 (hc:=zi9 s);rfl;rfl;rfl)
      | (apply z05 (hc:=zg1 s);rfl;rfl;rfl)
      | (apply z05 (hc:=qi9 s (by omega));rfl;rfl;rfl)
      | (apply z05 (hc:=q70 s (by omega));rfl;rfl;rfl)
      | (apply z05 (hc:=qj5 c);rfl;rfl;rfl)
      | (apply z05 (hc:=hb');rfl;rfl;rfl)
      | (apply z03;focus (repeat (first | exact z29 | (apply kq_c;rfl))))
      | apply z02
      | apply z00
      | apply z04
      | apply z08
      | apply z12
      | apply z19
      | (apply z41;rfl;(with_reducible rfl))
      | (apply z38;rfl;(with_reducible rfl))
      | (apply z15;rfl)
      | (apply z52;rfl;(with_reducible rfl))
      | (apply z43;rfl;(with_reducible rfl))
      | (apply z40;rfl)
      | (with_reducible apply za1;intro hc)
      | (with_reducible apply z69;intro hc)
      | (with_reducible apply zf9;intro hc)
      | (apply zd7;rfl)
     all_goals have e58:((c.toNat:Int)=58)↔c=58:=u8eq (n:=58) (by decide)
     all_goals first
      | (exfalso;simp_all;done)
      | (congr 1;simp_all [zy1,qr7];done)
end Go.Proofs.TryzL
namespace Go.Proofs.TryzL
open Go.Proofs.Lz
set_option maxHeartbeats 2000000
end Go.Proofs.TryzL
namespace Go.Proofs.TryzL
open Go.Proofs.Lz
set_option maxHeartbeats 2000000
end Go.Proofs.TryzL
namespace Go.Proofs.TryzL
open Go.Proofs.Lz
set_option maxHeartbeats 2000000
end Go.Proofs.TryzL
namespace Go.Proofs.TryzL
open Go.Proofs.Lz
set_option maxHeartbeats 2000000
end Go.Proofs.TryzL
namespace Go.Proofs.TryzL
open Go.Proofs.Lz
set_option maxHeartbeats 2000000
end Go.Proofs.TryzL
namespace Go.Proofs.Lz
theorem wi4 {n:Int} (h:0≤n∧n<256):IntKind.u8.wrap n=n:=by
 simp [IntKind.wrap,IntKind.bits,IntKind.signed]
 omega
section
variable {V:WEnv} {fr fr':WFr} {H H':z07} {N:Post} {dst:Option Nat}
theorem qe6 {x y:Opd} {a b:Int} (hx:fr.rd x=.c (.int .u8 a)) (hy:fr.rd y=.c (.int .u8 b)) (h0:0≤a - b∧a - b<256) (hq:Put fr dst (.c (.int .u8 (a - b))) fr') (h:N fr' H):OpP V (.bin .sub x y) dst fr H N:=
 z34 hx hy (by simp only [binC,if_true,wi4 h0]) hq h
theorem zs9 {x:Opd} {xs:List CV} {s:List UInt8} (hx:q56 none (fr.rd x)=some xs) (hb:zd6 xs=some s) (hq:Put fr dst (.c (.str s)) fr') (h:N fr' H):OpP V (.b2s x) dst fr H N:=
 ⟨fr',H,by show wOp0 (.b2s x) dst fr H=_;simp only [wOp0,hx,Option.bind_some,hb,hq.eq],h⟩
end
end Go.Proofs.Lz
namespace Go.Proofs.TryzL
open Go.Proofs.Lz
set_option maxHeartbeats 4000000
def numF:List UInt8→Nat→Option Nat
 | [],a=>some a
 | c::r,a=>if z94 c=true∧a≤(9223372036854775807 - (c.toNat - 48)) / 10 then numF r (10 * a+(c.toNat - 48)) else none
theorem wu0 (x:Int) (h:0≤x∧x≤9):IntKind.i64.wrap ((9223372036854775807 - x).tdiv 10)=(9223372036854775807 - x) / 10:=by
 rw [Int.tdiv_eq_ediv_of_nonneg (by omega)]
 exact wrap64 (by omega)
theorem jf5 {c:UInt8} (h:z94 c=true):48≤c.toNat∧c.toNat≤57:=by simpa [z94] using h
end Go.Proofs.TryzL
namespace Go.Proofs.TryzL
open Go.Proofs.Lz
set_option maxHeartbeats 4000000
def jt1 (s:List UInt8):Nat→Int
 | 0=>-1
 | n+1=>if s[n]?=some 36 then (n:Int) else jt1 s n
theorem jw1 (s:List UInt8):∀ n,-1≤jt1 s n∧jt1 s n<n
 | 0=>by simp [jt1]
 | n+1=>by
   have:=jw1 s n
   unfold jt1
   split<;>omega
end Go.Proofs.TryzL
namespace Go.Proofs.TryzL
open Go.Proofs.Lz
set_option maxHeartbeats 4000000
def hexD:List UInt8:=[48,49,50,51,52,53,54,55,56,57,97,98,99,100,101,102]
def hexd (n:Nat):UInt8:=hexD.getD n 0
def escB (c m:UInt8):List UInt8:=if c=10 then [92,110] else if c=9 then [92,116] else if c=92∨c=m then [92,c] else if 32≤c.toNat∧c.toNat≤126 then [c] else [92,120,hexd (c.toNat / 16),hexd (c.toNat % 16)]
def escS (s:List UInt8) (m:UInt8):List UInt8:=s.flatMap (escB · m)
theorem j62:∀ s:List UInt8,zd6 (bytesV s)=some s:=by
 intro s
 induction s with
 | nil=>rfl
 | cons c r ih=>
   show (match zd6 (bytesV r) with
    | some l=>some (UInt8.ofNat (c.toNat:Int).toNat::l)
    | none=>none)=_
   rw [ih]
   simp
end Go.Proofs.TryzL
namespace Go.Proofs.Lz
section
variable {V:WEnv} {fr fr':WFr} {H H':z07} {N:Post} {dst:Option Nat}
theorem zw9 {x lo hi:Opd} {s:List UInt8} {k k':IntKind} {m:Nat} {b:UInt8} (hx:fr.rd x=.c (.str s)) (hl:fr.rd lo=.c (.int k (m:Int))) (hh:fr.rd hi=.c (.int k' ((m:Int)+1))) (hb:s[m]?=some b) (hq:Put fr dst (.c (.str [b])) fr') (hN:N fr' H):OpP V (.slc true none x (some lo) (some hi)) dst fr H N:=by
 have hm:m<s.length:=(List.getElem?_eq_some_iff.1 hb).1
 refine zv6 (m:=m) (m':=m+1) hx hl hh rfl (by simp) ⟨by omega,by omega⟩ ?_ hN
 have e:(s.drop m).take (m+1 - m)=[b]:=by
  rw [Nat.add_sub_cancel_left,List.take_one,List.head?_drop,hb]
  rfl
 rw [e]
 exact hq
end
end Go.Proofs.Lz
namespace Go.Proofs.TryzL
open Go.Proofs.Lz
set_option maxHeartbeats 4000000
end Go.Proofs.TryzL
namespace Go.Proofs.TryzL
open Go.Proofs.Lz
set_option maxHeartbeats 4000000
structure Tok where
 op:Int
 qual:List UInt8
 text:List UInt8
 n:Int
 auto:Bool
 line:Int
 col:Int
def tokC (t:Tok):CV:=.agg [.int .i64 t.op,.str t.qual,.str t.text,.int .i64 t.n,.bool t.auto,.int .i64 t.line,.int .i64 t.col]
def tokA (op:Int) (qual text:List UInt8) (n:Int) (auto:Bool) (line col:Int):CV:=.agg [.int .i64 op,.str qual,.str text,.int .i64 n,.bool auto,.int .i64 line,.int .i64 col]
end Go.Proofs.TryzL
namespace Go.Proofs.TryzL
open Go.Proofs.Lz
set_option maxHeartbeats 4000000
end Go.Proofs.TryzL
namespace Go.Proofs.TryzL
open Go.Proofs.Lz
set_option maxHeartbeats 4000000
def qcS (n:Int):List UInt8:=if 0≤n∧n≤255 then [39]++escB (UInt8.ofNat n.toNat) 39++[39] else []
def textS (op:Int) (qual text:List UInt8) (n:Int):List UInt8:=if op=5 then Lib.itoa n else if op=6 then qcS n else if op=7 then [34]++escS text 34++[34] else if qual=[] then text else qual++[46]++text
end Go.Proofs.TryzL
namespace Go.Proofs.TryzL
open Go.Proofs.Lz
set_option maxHeartbeats 4000000
section
variable {V:WEnv} {fr fr':WFr} {H H':z07} {N:Post} {dst:Option Nat}
end
end Go.Proofs.TryzL
namespace Go.Proofs.TryzL
open Go.Proofs.Lz
set_option maxHeartbeats 4000000
theorem qo8 (s:List UInt8):∀ k,Lib.repeatL s (k+1)=Lib.repeatL s k++s
 | 0=>by simp [Lib.repeatL]
 | k+1=>by
   show s++Lib.repeatL s (k+1)=(s++Lib.repeatL s k)++s
   rw [qo8 s k,List.append_assoc]
end Go.Proofs.TryzL
namespace Go.Proofs.TryzL
open Go.Proofs.Lz
end Go.Proofs.TryzL
namespace Go.Proofs.TryzL
open Go.Proofs.Lz
set_option maxHeartbeats 4000000
end Go.Proofs.TryzL
namespace Go.Proofs.TryzL
open Go.Proofs.Lz
set_option maxHeartbeats 4000000
end Go.Proofs.TryzL
namespace Go.Proofs.TryzL
open Go.Proofs.Lz
set_option maxHeartbeats 4000000
end Go.Proofs.TryzL
namespace Go.Proofs.Lz
section
variable {V:WEnv} {fr fr':WFr} {H H':z07} {N:Post} {dst:Option Nat}
theorem qf2 {n a b:Nat} {u v:CV} {r:WV} {Q:z07→Prop} (h1:fr.env a=.c u) (h2:fr.env b=.c v) (hr:r=.tup [.c u,.c v]) (h:Q H):finS n [.tmp a,.tmp b] r Q fr H:=by
 subst hr
 refine ⟨[.c u,.c v],.tup [.c u,.c v],H,?_,?_,rfl,h⟩
 · simp only [zf2,h1,h2];rfl
 · rfl
theorem zr4 {n a b:Nat} {ek:Option Nat} {u v:CV} {r:WV} {Q:z07→Prop} (h1:fr.env a=.lbox ek (.c u)) (h2:fr.env b=.c v) (hr:r=.tup [.c u,.c v]) (h:Q H):finS n [.cell a ek,.tmp b] r Q fr H:=by
 subst hr
 refine ⟨[.c u,.c v],.tup [.c u,.c v],H,?_,?_,rfl,h⟩
 · simp only [zf2,h1,h2,if_true];rfl
 · rfl
end
end Go.Proofs.Lz
namespace Go.Proofs.TryzL
open Go.Proofs.Lz
end Go.Proofs.TryzL
namespace Go.Proofs.TryzL
open Go.Proofs.Lz
set_option maxHeartbeats 4000000
structure TokOk (t:Tok):Prop where
 text:t.text.length<2^20
 qual:t.qual.length<2^20
 n:-9223372036854775808≤t.n∧t.n≤9223372036854775807
 line:-9223372036854775808≤t.line∧t.line≤9223372036854775807
 col:-9223372036854775808≤t.col∧t.col≤9223372036854775807
def tokT (t:Tok):List UInt8:=textS t.op t.qual t.text t.n
structure RS where
 out:List UInt8
 line:Nat
 col:Nat
 first:Bool
def nlK (t:Tok) (s:RS):Nat:=min 200 (t.line - s.line).toNat
def rnl (t:Tok) (s:RS):RS:=if nlK t s=0 then s else ⟨s.out++List.replicate (nlK t s) 10,s.line+nlK t s,1,true⟩
def rsp (t:Tok) (s:RS):RS:=if (s.col:Int)<t.col∧t.col≤1000 then { s with out:=s.out++Lib.repeatL [32] (t.col - s.col).toNat,col:=t.col.toNat } else if s.first then s else { s with out:=s.out++[32],col:=s.col+1 }
def rtx (t:Tok) (s:RS):RS:=⟨s.out++tokT t,s.line,s.col+(tokT t).length,false⟩
def wn6 (t:Tok) (s:RS):RS:=rtx t (rsp t (rnl t s))
def rend:List Tok→RS→Option (List UInt8)
 | [],s=>some s.out
 | t::ts,s=>if 65536<(wn6 t s).out.length then none else rend ts (wn6 t s)
structure RsOk (s:RS):Prop where
 out:s.out.length≤65536
 col:s.col≤1000+s.out.length
 line:s.line≤9223372036854775807
end Go.Proofs.TryzL
namespace Go.Proofs.TryzL
open Go.Proofs.Lz
set_option maxHeartbeats 4000000
theorem KpH.trans {id:Nat} {H H1 H2:z07} (h:KpH id H H1) (k:KpH id H1 H2):KpH id H H2:=fun i o hi ho=>k i o hi (h i o hi ho)
end Go.Proofs.TryzL
namespace Go.Proofs.TryzL
open Go.Proofs.Lz
set_option maxHeartbeats 4000000
end Go.Proofs.TryzL
namespace Go.Proofs.TryzL
open Go.Proofs.Lz
set_option maxHeartbeats 4000000
end Go.Proofs.TryzL
