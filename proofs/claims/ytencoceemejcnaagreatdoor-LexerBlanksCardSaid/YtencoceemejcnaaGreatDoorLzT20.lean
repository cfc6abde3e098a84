/- Chapter 02: a token's text. -/
import Derived.Test.YtencoceemejcnaaGreatDoorLzVc4
set_option linter.unusedSimpArgs false
set_option linter.unusedVariables false
namespace Go.Proofs.TryzL
open Go.Proofs.Lz
set_option maxHeartbeats 4000000
def numF:List UInt8→Nat→Option Nat
 | [],a=>some a
 | c::r,a=>if z93 c=true∧a≤(9223372036854775807 - (c.toNat - 48)) / 10 then numF r (10 * a+(c.toNat - 48)) else none
theorem vd7 (x:Int) (h:0≤x∧x≤9):IntKind.i64.wrap ((9223372036854775807 - x).tdiv 10)=(9223372036854775807 - x) / 10:=by
 rw [Int.tdiv_eq_ediv_of_nonneg (by omega)]
 exact wrap64 (by omega)
theorem jw9 {c:UInt8} (h:z93 c=true):48≤c.toNat∧c.toNat≤57:=by simpa [z93] using h
end Go.Proofs.TryzL
namespace Go.Proofs.TryzL
open Go.Proofs.Lz
set_option maxHeartbeats 4000000
def jo0 (s:List UInt8):Nat→Int
 | 0=>-1
 | n+1=>if s[n]?=some 36 then (n:Int) else jo0 s n
theorem w36 (s:List UInt8):∀ n,-1≤jo0 s n∧jo0 s n<n
 | 0=>by simp [jo0]
 | n+1=>by
   have:=w36 s n
   unfold jo0
   split<;>omega
end Go.Proofs.TryzL
namespace Go.Proofs.TryzL
open Go.Proofs.Lz
set_option maxHeartbeats 4000000
def hexD:List UInt8:=[48,49,50,51,52,53,54,55,56,57,97,98,99,100,101,102]
def hexd (n:Nat):UInt8:=hexD.getD n 0
theorem jc2 {n:Nat} (h:n<16):hexD[n]?=some (hexd n):=by
 have:n<hexD.length:=h
 simp [hexd,List.getD,List.getElem?_eq_getElem this]
def escB (c m:UInt8):List UInt8:=if c=10 then [92,110] else if c=9 then [92,116] else if c=92∨c=m then [92,c] else if 32≤c.toNat∧c.toNat≤126 then [c] else [92,120,hexd (c.toNat / 16),hexd (c.toNat % 16)]
theorem qt8 {H:z18} {xs:List CV} (c m:UInt8) (hl:xs.length<2^40):Shr Vv 50 [.own true 5 none xs,.c (bC c),.c (bC m)] H (.own true 5 none (xs++bytesV (escB c m))) (fun H'=>H'=H):=by
 refine zh9 v48 ?_
 have hh1:([48,49,50,51,52,53,54,55,56,57,97,98,99,100,101,102]:List UInt8)[c.toNat / 16]?=some (hexd (c.toNat / 16)):=jc2 (by have:=c.toNat_lt;omega)
 have hh2:([48,49,50,51,52,53,54,55,56,57,97,98,99,100,101,102]:List UInt8)[c.toNat % 16]?=some (hexd (c.toNat % 16)):=jc2 (by omega)
 repeat' first|apply z01|exact z12|exact z19 rfl|exact zd6 rfl rfl|(apply z15;rfl;rfl)|(apply wn8;rfl;rfl)|(apply w81;rfl;rfl)|(apply z30;(iterate 3 rfl))|(apply z17;rfl;(with_reducible rfl);rfl)|(apply z14;rfl;(with_reducible rfl);rfl)|(apply z71;(iterate 3 rfl);assumption)|(apply zp5;(iterate 6 rfl))|(apply z68;rfl;rfl)|(apply zl2;(iterate 3 rfl))|(apply zc3;(iterate 3 rfl))|(apply zo5;rfl;rfl;(simp only [List.length_map,List.length_cons,List.length_nil,List.length_append,List.length_replicate];omega))|(apply z04;focus (repeat (first | exact z23 | (apply kq_c;rfl) | (apply ze6;rfl;rfl))))|apply z02|apply z00|apply z03|apply z06|apply z08|apply z09|apply z28|apply z55|(apply z35;rfl;(with_reducible rfl))|(apply z32;rfl;(with_reducible rfl))|(apply z13;rfl)|(apply z48;rfl;(with_reducible rfl))|(apply z44;rfl;(with_reducible rfl))|(apply z39;rfl;(with_reducible rfl))|(apply z38;rfl)|(apply z65;(exact rfl))|(with_reducible apply za1;intro hc)|(with_reducible apply z74;intro hc)|(with_reducible apply z67;intro hc)|(with_reducible apply z49;intro hc)|(apply z52;rfl)|(apply wm7;rfl)|(apply wt6)|(apply dand;rfl)
 all_goals refine wy6 rfl ?_ rfl
 all_goals have e10:((c.toNat:Int)=10)↔c=10:=u8eq (n:=10) (by decide)
 all_goals have e9:((c.toNat:Int)=9)↔c=9:=u8eq (n:=9) (by decide)
 all_goals have e92:((c.toNat:Int)=92)↔c=92:=u8eq (n:=92) (by decide)
 all_goals have em:((c.toNat:Int)=(m.toNat:Int))↔c=m:=u8i
 all_goals have e32:((32:Int)≤c.toNat)↔32≤c.toNat:=by omega
 all_goals have e126:((c.toNat:Int)≤126)↔c.toNat≤126:=by omega
 all_goals simp only [e10,e9,e92,em,e32,e126] at *
 all_goals clear hh1 hh2 hl
 all_goals first|(subst c;rfl)|(subst m;simp only [escB, *,if_true,if_false,or_true,true_or,or_self,and_self,not_false_eq_true,reduceIte];rfl)|(simp only [escB, *,if_true,if_false,or_true,true_or,or_self,and_self,and_true,true_and,and_false,false_and,not_false_eq_true,reduceIte];rfl)
theorem j35 (c m:UInt8):(escB c m).length≤4:=by
 unfold escB
 repeat' split
 all_goals simp
def escS (s:List UInt8) (m:UInt8):List UInt8:=s.flatMap (escB · m)
theorem qo3 (s:List UInt8) (m:UInt8):(escS s m).length≤4 * s.length:=by
 induction s with
 | nil=>simp [escS]
 | cons c r ih=>
   have:=j35 c m
   simp only [escS,List.flatMap_cons,List.length_append,List.length_cons] at *
   omega
theorem jq4 {s:List UInt8} {m:UInt8} {n:Nat} (h:n<s.length):escS (s.take (n+1)) m=escS (s.take n) m++escB s[n] m:=by
 rw [List.take_add_one,List.getElem?_eq_getElem h]
 simp only [escS,List.flatMap_append,Option.toList,List.flatMap_cons,List.flatMap_nil,List.append_nil]
theorem zn3 (a b:List UInt8):bytesV (a++b)=bytesV a++bytesV b:=by simp [bytesV]
theorem qo2:∀ s:List UInt8,zf4 (bytesV s)=some s:=by
 intro s
 induction s with
 | nil=>rfl
 | cons c r ih=>
   show (match zf4 (bytesV r) with
    | some l=>some (UInt8.ofNat (c.toNat:Int).toNat::l)
    | none=>none)=_
   rw [ih]
   simp
theorem wp7 (s:List UInt8) (hl:s.length<2^31):Rets Vv 19 [.c (.str s)] (.c (.str ([34]++escS s 34++[34]))):=by
 refine z73 v49 ?_
 have hel:=qo3 s 34
 repeat' first|apply z01|exact z12|exact zd6 rfl rfl|(apply z15;rfl;rfl)|(apply j71;(iterate 6 rfl))|(apply zl2;(iterate 3 rfl))|apply z02|apply z00|apply z03|apply z06
 refine ze9 (fun n:Nat=>[(0,.c (.str s)),(3,.own true 5 none (bytesV ([34]++escS (s.take n) 34))),(4,.c (.int .i64 n))]) (fun n=>n≤s.length) (fun n=>s.length - n) 0 ?_ (Nat.zero_le _) ?_
 · repeat' first|exact z23|refine z64 rfl ?_
 intro n hn
 have hen:=qo3 (s.take n) 34
 rw [List.length_take] at hen
 have hbl:(bytesV ([34]++escS (s.take n) 34)).length<2^40:=by simp [bytesV];omega
 by_cases hns:n<s.length
 · repeat' first|apply z01|exact z12|exact z19 rfl|exact zd6 rfl rfl|(apply z15;rfl;rfl)|(apply za2;rfl;rfl;omega)|(apply z30;(iterate 3 rfl))|(apply z41;rfl)|(apply z71;(iterate 3 rfl);exact List.getElem?_eq_getElem (by omega))|(apply zp5;(iterate 6 rfl))|(apply zl2;(iterate 3 rfl))|(apply zc3;(iterate 3 rfl))|(apply zo5;rfl;rfl;(omega))|(apply jf5 (hc:=⟨(qt8 s[n] 34 hbl).run⟩);rfl;rfl;rfl;rfl;rfl;(exact zd6 rfl rfl);rintro H1 hQ1)|(apply z04;focus (repeat (first | exact z23 | (apply kq_c;rfl) | (apply ze6;rfl;rfl))))|apply z02|apply z00|apply z03|apply z06|apply z08|apply z56|(apply z13;rfl)|(with_reducible apply z67;intro hc)|(with_reducible apply z49;intro hc)
   any_goals (exfalso;omega)
   subst hQ1
   refine ⟨n+1,?_,rfl,by omega,by omega⟩
   have e:bytesV ([34]++escS (s.take (n+1)) 34)=bytesV ([34]++escS (s.take n) 34)++bytesV (escB s[n] 34):=by
    rw [jq4 hns,← zn3,List.append_assoc]
   rw [e]
   repeat' first|exact z23|refine z64 rfl ?_
 · have hnl:n=s.length:=by omega
   subst hnl
   have hb2:zf4 (bytesV ([34]++escS (s.take s.length) 34)++[CV.int .u8 34])=some ([34]++escS s 34++[34]):=by
    have:[CV.int .u8 34]=bytesV [34]:=rfl
    rw [this,← zn3,qo2,List.take_length]
   repeat' first|apply z01|exact z12|exact z19 rfl|exact zd6 rfl rfl|(apply z15;rfl;rfl)|(apply q13;rfl;assumption)|(apply z30;(iterate 3 rfl))|(apply z41;rfl)|(apply z71;(iterate 3 rfl);exact List.getElem?_eq_getElem (by omega))|(apply zp5;(iterate 6 rfl))|(apply zc3;(iterate 3 rfl))|(apply zo5;rfl;rfl;(simp only [List.length_map,List.length_cons,List.length_nil,List.length_append,List.length_replicate];omega))|(apply z04;focus (repeat (first | exact z23 | (apply kq_c;rfl) | (apply ze6;rfl;rfl))))|apply z02|apply z00|apply z03|apply z06|apply z08|apply z09|apply z56|(apply z13;rfl)|(with_reducible apply z67;intro hc)|(with_reducible apply z49;intro hc)|(apply z97;rfl)
   any_goals (exfalso;omega)
   rfl
theorem j24 (n:Int):∃ r,Rets Vv 20 [.c (.int .i64 n)] (.c (.str r))∧(∀ c:UInt8,n=c.toNat→r=[39]++escB c 39++[39])∧(¬ (0≤n∧n≤255)→r=[]):=by
 by_cases h:0≤n∧n≤255
 · obtain ⟨c,rfl⟩:∃ c:UInt8,n=c.toNat:=⟨UInt8.ofNat n.toNat,by simp;omega⟩
   refine ⟨[39]++escB c 39++[39],?_,?_,fun hn=>absurd h hn⟩
   · refine z73 ww9 ?_
     have hbl:([CV.int .u8 39]:List CV).length<2^40:=by simp
     have hb2:zf4 ([CV.int .u8 39]++bytesV (escB c 39)++[CV.int .u8 39])=some ([39]++escB c 39++[39]):=by
      have:[CV.int .u8 39]=bytesV [39]:=rfl
      rw [this,← zn3,← zn3,qo2]
     have hel:=j35 c 39
     have hw:IntKind.u8.wrap (c.toNat:Int)=c.toNat:=wq4 (by omega)
     repeat' first|apply z01|exact z12|exact z19 rfl|exact zd6 rfl rfl|(apply z15;rfl;rfl)|(apply z30;(iterate 3 rfl))|(apply z17;rfl;(with_reducible rfl);rfl)|(apply z14;rfl;(with_reducible rfl);rfl)|(apply j71;(iterate 6 rfl))|(apply jf4;rfl)|(apply z04;focus (repeat (first | exact z23 | (apply kq_c;rfl))))|apply z02|apply z00|apply z03|apply z08|apply z09|(apply z35;rfl;(with_reducible rfl))|(apply z13;rfl)|(apply z48;rfl;(with_reducible rfl))|(apply z39;rfl;(with_reducible rfl))|(apply z38;rfl)|(with_reducible apply z67;intro hc)|(with_reducible apply z49;intro hc)|(apply z97;rfl)
     any_goals (exfalso;omega)
     rw [hw]
     have hbv:(bytesV (escB c 39)).length≤4:=by simpa [bytesV] using hel
     repeat' first|apply z01|exact z12|exact zd6 rfl rfl|(apply z15;rfl;rfl)|(apply q13;rfl;assumption)|(apply zp5;(iterate 6 rfl))|(apply zo5;rfl;rfl;(simp only [List.length_map,List.length_cons,List.length_nil,List.length_append,List.length_replicate];omega))|(apply jf5 (hc:=⟨(qt8 c 39 hbl).run⟩);rfl;rfl;rfl;rfl;rfl;(exact zd6 rfl rfl);rintro H1 hQ1)|apply z03|apply z09|(apply z97;rfl)
     all_goals first|rfl|(exfalso;omega)
   · intro c' hc
     have:c'=c:=UInt8.toNat_inj.1 (by omega)
     rw [this]
 · refine ⟨[],?_,fun c hc=>absurd ⟨by omega,by have:=c.toNat_lt;omega⟩ h,fun _=>rfl⟩
   refine z73 ww9 ?_
   repeat' first|apply z01|exact z12|exact z19 rfl|exact zd6 rfl rfl|(apply z15;rfl;rfl)|(apply z30;(iterate 3 rfl))|(apply z17;rfl;(with_reducible rfl);rfl)|(apply z14;rfl;(with_reducible rfl);rfl)|(apply j71;(iterate 6 rfl))|(apply jf4;rfl)|(apply z04;focus (repeat (first | exact z23 | (apply kq_c;rfl))))|apply z02|apply z00|apply z03|apply z08|apply z09|(apply z35;rfl;(with_reducible rfl))|(apply z13;rfl)|(apply z48;rfl;(with_reducible rfl))|(apply z39;rfl;(with_reducible rfl))|(apply z38;rfl)|(with_reducible apply z67;intro hc)|(with_reducible apply z49;intro hc)|(apply z97;rfl)
   any_goals (exfalso;omega)
   all_goals rfl
end Go.Proofs.TryzL
namespace Go.Proofs.Lz
section
variable {V:WEnv} {fr fr':WFr} {H H':z18} {N:Post} {dst:Option Nat}
theorem zy9 {x lo hi:Opd} {s:List UInt8} {k k':IntKind} {m:Nat} {b:UInt8} (hx:fr.rd x=.c (.str s)) (hl:fr.rd lo=.c (.int k (m:Int))) (hh:fr.rd hi=.c (.int k' ((m:Int)+1))) (hb:s[m]?=some b) (hq:Put fr dst (.c (.str [b])) fr') (hN:N fr' H):OpP V (.slc true none x (some lo) (some hi)) dst fr H N:=by
 have hm:m<s.length:=(List.getElem?_eq_some_iff.1 hb).1
 refine zy6 (m:=m) (m':=m+1) hx hl hh rfl (by simp) ⟨by omega,by omega⟩ ?_ hN
 have e:(s.drop m).take (m+1 - m)=[b]:=by
  rw [Nat.add_sub_cancel_left,List.take_one,List.head?_drop,hb]
  rfl
 rw [e]
 exact hq
end
end Go.Proofs.Lz
namespace Go.Proofs.TryzL
open Go.Proofs.Lz
set_option maxHeartbeats 4000000
end Go.Proofs.TryzL
namespace Go.Proofs.TryzL
open Go.Proofs.Lz
set_option maxHeartbeats 4000000
structure Tok where
 op:Int
 qual:List UInt8
 text:List UInt8
 n:Int
 auto:Bool
 line:Int
 col:Int
def tokC (t:Tok):CV:=.agg [.int .i64 t.op,.str t.qual,.str t.text,.int .i64 t.n,.bool t.auto,.int .i64 t.line,.int .i64 t.col]
theorem w74 (c:List UInt8) (h:c.length=1):Rets Vv 77 [.c (.str spS),.c (.str c)] (.c (.bool (spS.contains (c.headD 0)))):=by
 obtain ⟨x,rfl⟩:=List.length_eq_one_iff.1 h
 have h:=zo0 (V:=Vv) (f:=77) (xs:=[.str spS,.str [x]]) (u:=.bool (decide (0≤Lib.indexByte spS x))) (g:=hasG) rfl rfl rfl
 rw [q09] at h
 exact h
def q00 (op:Int) (text:List UInt8) (n:Int):Bool:=
 if op=1 then decide (z95 text=1)&&decide (n=0) else if op=2 then decide (z95 text=2)&&decide (n=0) else if op=3 then decide (z95 text=3)&&decide (n=0)
 else if op=4 then decide (z95 text=4)&&decide (n=0) else if op=9 then decide (z95 text=5)&&decide (n=0) else if op=10 then decide (z95 text=6)&&decide (n=0)
 else if op=8 then decide (text.length=1)&&(spS.contains (text.headD 0))&&decide (n=0) else if op=7 then decide (text.length≤200)&&decide (n=0)
 else if op=5 then decide (text=[])&&decide (0≤n) else if op=6 then decide (text=[])&&decide (0≤n)&&decide (n≤255) else false
def zw6 (t:Tok):Bool:=(decide (t.qual=[])||(decide (1≤t.op)&&decide (t.op≤4)&&decide (z95 t.qual=2)))&&q00 t.op t.text t.n
def tokA (op:Int) (qual text:List UInt8) (n:Int) (auto:Bool) (line col:Int):CV:=.agg [.int .i64 op,.str qual,.str text,.int .i64 n,.bool auto,.int .i64 line,.int .i64 col]
def zc5 (op:Int) (qual text:List UInt8) (n:Int):Bool:=(decide (qual=[])||(decide (1≤op)&&decide (op≤4)&&decide (z95 qual=2)))&&q00 op text n
theorem va8 (qual text:List UInt8) (n:Int) (auto:Bool) (line col:Int) (hl:text.length<2^31) (hq:qual.length<2^31):Rets Vv 40 [.c (tokA 1 qual text n auto line col)] (.c (.bool (zc5 1 qual text n))):=by
 refine z73 qg9 ?_
 repeat' first|apply z01|exact z12|exact z19 rfl|exact zb6 rfl|(apply z15;rfl;rfl)|(apply z43;(iterate 3 rfl))|(apply z30;(iterate 3 rfl))|(apply z84;rfl;rfl)|(apply z17;rfl;(with_reducible rfl);rfl)|(apply z14;rfl;(with_reducible rfl);rfl)|(apply z47;rfl;exact zb7 rfl)|(apply z81;rfl;rfl;first | exact z61 (by first | exact rfl | assumption | exact z05 (by assumption)) | exact z66 (by first | exact rfl | assumption | exact z05 (by assumption)))|(apply z07 (hc:=z92 qual hq);rfl;rfl;rfl)|(apply z07 (hc:=z92 text hl);rfl;rfl;rfl)|(apply z04;focus (repeat (first | exact z23 | (apply kq_c;rfl) | (apply z40;rfl))))|apply z02|apply z00|apply z03|apply z06|apply z08|apply z09|(apply z32;rfl;(with_reducible rfl))|(apply z13;rfl)|(apply z48;rfl;(with_reducible rfl))|(apply z44;rfl;(with_reducible rfl))|(apply zb4;rfl)|(apply z38;rfl)|with_reducible apply z58|with_reducible apply z60|(with_reducible apply za1;intro hc;try (exfalso;omega))|(with_reducible apply zi9;intro hc)|(with_reducible apply z74;intro hc;try (exfalso;omega))|(with_reducible apply zb9;intro hc)|(with_reducible apply zd3;intro hc;try (exfalso;omega))|(with_reducible apply za8;intro hc;try (exfalso;omega))|(with_reducible apply z67;intro hc;try (exfalso;omega))|(with_reducible apply z49;intro hc;try (exfalso;omega))|(apply z97;rfl)
 all_goals (refine cb ?_;simp [zc5,q00, *]<;>omega)
theorem vd1 (qual text:List UInt8) (n:Int) (auto:Bool) (line col:Int) (hl:text.length<2^31) (hq:qual.length<2^31):Rets Vv 40 [.c (tokA 2 qual text n auto line col)] (.c (.bool (zc5 2 qual text n))):=by
 refine z73 qg9 ?_
 repeat' first|apply z01|exact z12|exact z19 rfl|exact zb6 rfl|(apply z15;rfl;rfl)|(apply z43;(iterate 3 rfl))|(apply z30;(iterate 3 rfl))|(apply z84;rfl;rfl)|(apply z17;rfl;(with_reducible rfl);rfl)|(apply z14;rfl;(with_reducible rfl);rfl)|(apply z47;rfl;exact zb7 rfl)|(apply z81;rfl;rfl;first | exact z61 (by first | exact rfl | assumption | exact z05 (by assumption)) | exact z66 (by first | exact rfl | assumption | exact z05 (by assumption)))|(apply z07 (hc:=z92 qual hq);rfl;rfl;rfl)|(apply z07 (hc:=z92 text hl);rfl;rfl;rfl)|(apply z04;focus (repeat (first | exact z23 | (apply kq_c;rfl) | (apply z40;rfl))))|apply z02|apply z00|apply z03|apply z06|apply z08|apply z09|(apply z32;rfl;(with_reducible rfl))|(apply z13;rfl)|(apply z48;rfl;(with_reducible rfl))|(apply z44;rfl;(with_reducible rfl))|(apply zb4;rfl)|(apply z38;rfl)|with_reducible apply z58|with_reducible apply z60|(with_reducible apply za1;intro hc;try (exfalso;omega))|(with_reducible apply zi9;intro hc)|(with_reducible apply z74;intro hc;try (exfalso;omega))|(with_reducible apply zb9;intro hc)|(with_reducible apply zd3;intro hc;try (exfalso;omega))|(with_reducible apply za8;intro hc;try (exfalso;omega))|(with_reducible apply z67;intro hc;try (exfalso;omega))|(with_reducible apply z49;intro hc;try (exfalso;omega))|(apply z97;rfl)
 all_goals (refine cb ?_;simp [zc5,q00, *]<;>omega)
theorem v95 (qual text:List UInt8) (n:Int) (auto:Bool) (line col:Int) (hl:text.length<2^31) (hq:qual.length<2^31):Rets Vv 40 [.c (tokA 3 qual text n auto line col)] (.c (.bool (zc5 3 qual text n))):=by
 refine z73 qg9 ?_
 repeat' first|apply z01|exact z12|exact z19 rfl|exact zb6 rfl|(apply z15;rfl;rfl)|(apply z43;(iterate 3 rfl))|(apply z30;(iterate 3 rfl))|(apply z84;rfl;rfl)|(apply z17;rfl;(with_reducible rfl);rfl)|(apply z14;rfl;(with_reducible rfl);rfl)|(apply z47;rfl;exact zb7 rfl)|(apply z81;rfl;rfl;first | exact z61 (by first | exact rfl | assumption | exact z05 (by assumption)) | exact z66 (by first | exact rfl | assumption | exact z05 (by assumption)))|(apply z07 (hc:=z92 qual hq);rfl;rfl;rfl)|(apply z07 (hc:=z92 text hl);rfl;rfl;rfl)|(apply z04;focus (repeat (first | exact z23 | (apply kq_c;rfl) | (apply z40;rfl))))|apply z02|apply z00|apply z03|apply z06|apply z08|apply z09|(apply z32;rfl;(with_reducible rfl))|(apply z13;rfl)|(apply z48;rfl;(with_reducible rfl))|(apply z44;rfl;(with_reducible rfl))|(apply zb4;rfl)|(apply z38;rfl)|with_reducible apply z58|with_reducible apply z60|(with_reducible apply za1;intro hc;try (exfalso;omega))|(with_reducible apply zi9;intro hc)|(with_reducible apply z74;intro hc;try (exfalso;omega))|(with_reducible apply zb9;intro hc)|(with_reducible apply zd3;intro hc;try (exfalso;omega))|(with_reducible apply za8;intro hc;try (exfalso;omega))|(with_reducible apply z67;intro hc;try (exfalso;omega))|(with_reducible apply z49;intro hc;try (exfalso;omega))|(apply z97;rfl)
 all_goals (refine cb ?_;simp [zc5,q00, *]<;>omega)
theorem vb3 (qual text:List UInt8) (n:Int) (auto:Bool) (line col:Int) (hl:text.length<2^31) (hq:qual.length<2^31):Rets Vv 40 [.c (tokA 4 qual text n auto line col)] (.c (.bool (zc5 4 qual text n))):=by
 refine z73 qg9 ?_
 repeat' first|apply z01|exact z12|exact z19 rfl|exact zb6 rfl|(apply z15;rfl;rfl)|(apply z43;(iterate 3 rfl))|(apply z30;(iterate 3 rfl))|(apply z84;rfl;rfl)|(apply z17;rfl;(with_reducible rfl);rfl)|(apply z14;rfl;(with_reducible rfl);rfl)|(apply z47;rfl;exact zb7 rfl)|(apply z81;rfl;rfl;first | exact z61 (by first | exact rfl | assumption | exact z05 (by assumption)) | exact z66 (by first | exact rfl | assumption | exact z05 (by assumption)))|(apply z07 (hc:=z92 qual hq);rfl;rfl;rfl)|(apply z07 (hc:=z92 text hl);rfl;rfl;rfl)|(apply z04;focus (repeat (first | exact z23 | (apply kq_c;rfl) | (apply z40;rfl))))|apply z02|apply z00|apply z03|apply z06|apply z08|apply z09|(apply z32;rfl;(with_reducible rfl))|(apply z13;rfl)|(apply z48;rfl;(with_reducible rfl))|(apply z44;rfl;(with_reducible rfl))|(apply zb4;rfl)|(apply z38;rfl)|with_reducible apply z58|with_reducible apply z60|(with_reducible apply za1;intro hc;try (exfalso;omega))|(with_reducible apply zi9;intro hc)|(with_reducible apply z74;intro hc;try (exfalso;omega))|(with_reducible apply zb9;intro hc)|(with_reducible apply zd3;intro hc;try (exfalso;omega))|(with_reducible apply za8;intro hc;try (exfalso;omega))|(with_reducible apply z67;intro hc;try (exfalso;omega))|(with_reducible apply z49;intro hc;try (exfalso;omega))|(apply z97;rfl)
 all_goals (refine cb ?_;simp [zc5,q00, *]<;>omega)
theorem v89 (qual text:List UInt8) (n:Int) (auto:Bool) (line col:Int) (hl:text.length<2^31) (hq:qual.length<2^31):Rets Vv 40 [.c (tokA 5 qual text n auto line col)] (.c (.bool (zc5 5 qual text n))):=by
 refine z73 qg9 ?_
 repeat' first|apply z01|exact z12|exact zb6 rfl|(apply z15;rfl;rfl)|(apply z43;(iterate 3 rfl))|(apply z30;(iterate 3 rfl))|(apply z84;rfl;rfl)|(apply z17;rfl;(with_reducible rfl);rfl)|(apply z14;rfl;(with_reducible rfl);rfl)|(apply z47;rfl;exact zb7 rfl)|(apply z81;rfl;rfl;first | exact z61 (by first | exact rfl | assumption | exact z05 (by assumption)) | exact z66 (by first | exact rfl | assumption | exact z05 (by assumption)))|(apply z07 (hc:=z92 text hl);rfl;rfl;rfl)|(apply z04;focus (repeat (first | exact z23 | (apply kq_c;rfl) | (apply z40;rfl))))|apply z02|apply z00|apply z03|apply z06|apply z08|apply z09|(apply z35;rfl;(with_reducible rfl))|(apply z32;rfl;(with_reducible rfl))|(apply z13;rfl)|(apply z48;rfl;(with_reducible rfl))|(apply z44;rfl;(with_reducible rfl))|(apply z39;rfl;(with_reducible rfl))|(apply zb4;rfl)|(apply z38;rfl)|with_reducible apply z58|with_reducible apply z60|(with_reducible apply za1;intro hc;try (exfalso;omega))|(with_reducible apply zi9;intro hc)|(with_reducible apply z74;intro hc;try (exfalso;omega))|(with_reducible apply zb9;intro hc)|(with_reducible apply z67;intro hc;try (exfalso;omega))|(with_reducible apply z49;intro hc;try (exfalso;omega))|(apply z97;rfl)
 all_goals (refine cb ?_;simp [zc5,q00, *]<;>omega)
theorem vb7 (qual text:List UInt8) (n:Int) (auto:Bool) (line col:Int) (hl:text.length<2^31) (hq:qual.length<2^31):Rets Vv 40 [.c (tokA 6 qual text n auto line col)] (.c (.bool (zc5 6 qual text n))):=by
 refine z73 qg9 ?_
 repeat' first|apply z01|exact z12|exact zb6 rfl|(apply z15;rfl;rfl)|(apply z43;(iterate 3 rfl))|(apply z30;(iterate 3 rfl))|(apply z84;rfl;rfl)|(apply z17;rfl;(with_reducible rfl);rfl)|(apply z14;rfl;(with_reducible rfl);rfl)|(apply z47;rfl;exact zb7 rfl)|(apply z81;rfl;rfl;first | exact z61 (by first | exact rfl | assumption | exact z05 (by assumption)) | exact z66 (by first | exact rfl | assumption | exact z05 (by assumption)))|(apply z07 (hc:=z92 text hl);rfl;rfl;rfl)|(apply z04;focus (repeat (first | exact z23 | (apply kq_c;rfl) | (apply z40;rfl))))|apply z02|apply z00|apply z03|apply z06|apply z08|apply z09|(apply z35;rfl;(with_reducible rfl))|(apply z32;rfl;(with_reducible rfl))|(apply z13;rfl)|(apply z48;rfl;(with_reducible rfl))|(apply z44;rfl;(with_reducible rfl))|(apply z39;rfl;(with_reducible rfl))|(apply zb4;rfl)|(apply z38;rfl)|with_reducible apply z58|with_reducible apply z60|(with_reducible apply za1;intro hc;try (exfalso;omega))|(with_reducible apply zi9;intro hc)|(with_reducible apply z74;intro hc;try (exfalso;omega))|(with_reducible apply zb9;intro hc)|(with_reducible apply z67;intro hc;try (exfalso;omega))|(with_reducible apply z49;intro hc;try (exfalso;omega))|(apply z97;rfl)
 all_goals (refine cb ?_;simp [zc5,q00, *]<;>omega)
theorem v94 (qual text:List UInt8) (n:Int) (auto:Bool) (line col:Int) (hl:text.length<2^31) (hq:qual.length<2^31):Rets Vv 40 [.c (tokA 7 qual text n auto line col)] (.c (.bool (zc5 7 qual text n))):=by
 refine z73 qg9 ?_
 repeat' first|apply z01|exact z12|exact zb6 rfl|(apply z15;rfl;rfl)|(apply z43;(iterate 3 rfl))|(apply z30;(iterate 3 rfl))|(apply z41;rfl)|(apply z84;rfl;rfl)|(apply z17;rfl;(with_reducible rfl);rfl)|(apply z14;rfl;(with_reducible rfl);rfl)|(apply z47;rfl;exact zb7 rfl)|(apply z81;rfl;rfl;first | exact z61 (by first | exact rfl | assumption | exact z05 (by assumption)) | exact z66 (by first | exact rfl | assumption | exact z05 (by assumption)))|(apply z07 (hc:=z92 text hl);rfl;rfl;rfl)|(apply z04;focus (repeat (first | exact z23 | (apply kq_c;rfl) | (apply z40;rfl))))|apply z02|apply z00|apply z03|apply z06|apply z08|apply z09|(apply z35;rfl;(with_reducible rfl))|(apply z32;rfl;(with_reducible rfl))|(apply z13;rfl)|(apply z48;rfl;(with_reducible rfl))|(apply z44;rfl;(with_reducible rfl))|(apply z39;rfl;(with_reducible rfl))|(apply zb4;rfl)|(apply z38;rfl)|with_reducible apply z58|with_reducible apply z60|(with_reducible apply za1;intro hc;try (exfalso;omega))|(with_reducible apply zi9;intro hc)|(with_reducible apply z74;intro hc;try (exfalso;omega))|(with_reducible apply zb9;intro hc)|(with_reducible apply z67;intro hc;try (exfalso;omega))|(with_reducible apply z49;intro hc;try (exfalso;omega))|(apply z97;rfl)
 all_goals (refine cb ?_;simp [zc5,q00, *]<;>omega)
theorem vd0 (qual text:List UInt8) (n:Int) (auto:Bool) (line col:Int) (hl:text.length<2^31) (hq:qual.length<2^31):Rets Vv 40 [.c (tokA 8 qual text n auto line col)] (.c (.bool (zc5 8 qual text n))):=by
 refine z73 qg9 ?_
 by_cases h1:text.length=1
 · repeat' first|apply z01|exact z12|exact zb6 rfl|(apply z15;rfl;rfl)|(apply z43;(iterate 3 rfl))|(apply z30;(iterate 3 rfl))|(apply z41;rfl)|(apply z84;rfl;rfl)|(apply z17;rfl;(with_reducible rfl);rfl)|(apply z14;rfl;(with_reducible rfl);rfl)|(apply z47;rfl;exact zb7 rfl)|(apply z81;rfl;rfl;first | exact z61 (by first | exact rfl | assumption | exact z05 (by assumption)) | exact z66 (by first | exact rfl | assumption | exact z05 (by assumption)))|(apply z07 (hc:=z92 text hl);rfl;rfl;rfl)|(apply z07 (hc:=w74 text h1);rfl;rfl;rfl)|(apply z04;focus (repeat (first | exact z23 | (apply kq_c;rfl) | (apply z40;rfl))))|apply z02|apply z00|apply z03|apply z06|apply z08|apply z09|(apply z35;rfl;(with_reducible rfl))|(apply z32;rfl;(with_reducible rfl))|(apply z13;rfl)|(apply z48;rfl;(with_reducible rfl))|(apply z44;rfl;(with_reducible rfl))|(apply z39;rfl;(with_reducible rfl))|(apply zb4;rfl)|(apply z38;rfl)|with_reducible apply z58|with_reducible apply z60|(with_reducible apply za1;intro hc;try (exfalso;omega))|(with_reducible apply zi9;intro hc)|(with_reducible apply z74;intro hc;try (exfalso;omega))|(with_reducible apply zb9;intro hc)|(with_reducible apply z67;intro hc;try (exfalso;omega))|(with_reducible apply z49;intro hc;try (exfalso;omega))|(with_reducible apply zi4;intro hc)|(apply z97;rfl)
   all_goals (refine cb ?_;simp_all [zc5,q00];try omega)
 · repeat' first|apply z01|exact z12|exact zb6 rfl|(apply z15;rfl;rfl)|(apply z43;(iterate 3 rfl))|(apply z30;(iterate 3 rfl))|(apply z41;rfl)|(apply z84;rfl;rfl)|(apply z17;rfl;(with_reducible rfl);rfl)|(apply z14;rfl;(with_reducible rfl);rfl)|(apply z47;rfl;exact zb7 rfl)|(apply z81;rfl;rfl;first | exact z61 (by first | exact rfl | assumption | exact z05 (by assumption)) | exact z66 (by first | exact rfl | assumption | exact z05 (by assumption)))|(apply z07 (hc:=z92 text hl);rfl;rfl;rfl)|(apply z04;focus (repeat (first | exact z23 | (apply kq_c;rfl) | (apply z40;rfl))))|apply z02|apply z00|apply z03|apply z06|apply z08|apply z09|(apply z35;rfl;(with_reducible rfl))|(apply z32;rfl;(with_reducible rfl))|(apply z13;rfl)|(apply z48;rfl;(with_reducible rfl))|(apply z44;rfl;(with_reducible rfl))|(apply z39;rfl;(with_reducible rfl))|(apply zb4;rfl)|(apply z38;rfl)|with_reducible apply z58|with_reducible apply z60|(with_reducible apply za1;intro hc;try (exfalso;omega))|(with_reducible apply zi9;intro hc)|(with_reducible apply z74;intro hc;try (exfalso;omega))|(with_reducible apply zb9;intro hc)|(with_reducible apply z67;intro hc;try (exfalso;omega))|(with_reducible apply z49;intro hc;try (exfalso;omega))|(apply z97;rfl)
   all_goals (refine cb ?_;simp [zc5,q00, *]<;>omega)
theorem vb2 (qual text:List UInt8) (n:Int) (auto:Bool) (line col:Int) (hl:text.length<2^31) (hq:qual.length<2^31):Rets Vv 40 [.c (tokA 9 qual text n auto line col)] (.c (.bool (zc5 9 qual text n))):=by
 refine z73 qg9 ?_
 repeat' first|apply z01|exact z12|exact z19 rfl|exact zb6 rfl|(apply z15;rfl;rfl)|(apply z43;(iterate 3 rfl))|(apply z30;(iterate 3 rfl))|(apply z84;rfl;rfl)|(apply z17;rfl;(with_reducible rfl);rfl)|(apply z14;rfl;(with_reducible rfl);rfl)|(apply z47;rfl;exact zb7 rfl)|(apply z81;rfl;rfl;first | exact z61 (by first | exact rfl | assumption | exact z05 (by assumption)) | exact z66 (by first | exact rfl | assumption | exact z05 (by assumption)))|(apply z07 (hc:=z92 text hl);rfl;rfl;rfl)|(apply z04;focus (repeat (first | exact z23 | (apply kq_c;rfl) | (apply z40;rfl))))|apply z02|apply z00|apply z03|apply z06|apply z08|apply z09|(apply z35;rfl;(with_reducible rfl))|(apply z32;rfl;(with_reducible rfl))|(apply z13;rfl)|(apply z48;rfl;(with_reducible rfl))|(apply z44;rfl;(with_reducible rfl))|(apply z39;rfl;(with_reducible rfl))|(apply zb4;rfl)|(apply z38;rfl)|with_reducible apply z58|with_reducible apply z60|(with_reducible apply za1;intro hc;try (exfalso;omega))|(with_reducible apply zi9;intro hc)|(with_reducible apply z74;intro hc;try (exfalso;omega))|(with_reducible apply zb9;intro hc)|(with_reducible apply z67;intro hc;try (exfalso;omega))|(with_reducible apply z49;intro hc;try (exfalso;omega))|(apply z97;rfl)
 all_goals (refine cb ?_;simp [zc5,q00, *]<;>omega)
theorem wv1 (qual text:List UInt8) (n:Int) (auto:Bool) (line col:Int) (hl:text.length<2^31) (hq:qual.length<2^31):Rets Vv 40 [.c (tokA 10 qual text n auto line col)] (.c (.bool (zc5 10 qual text n))):=by
 refine z73 qg9 ?_
 repeat' first|apply z01|exact z12|exact z19 rfl|exact zb6 rfl|(apply z15;rfl;rfl)|(apply z43;(iterate 3 rfl))|(apply z30;(iterate 3 rfl))|(apply z84;rfl;rfl)|(apply z17;rfl;(with_reducible rfl);rfl)|(apply z14;rfl;(with_reducible rfl);rfl)|(apply z47;rfl;exact zb7 rfl)|(apply z81;rfl;rfl;first | exact z61 (by first | exact rfl | assumption | exact z05 (by assumption)) | exact z66 (by first | exact rfl | assumption | exact z05 (by assumption)))|(apply z07 (hc:=z92 text hl);rfl;rfl;rfl)|(apply z04;focus (repeat (first | exact z23 | (apply kq_c;rfl) | (apply z40;rfl))))|apply z02|apply z00|apply z03|apply z06|apply z08|apply z09|(apply z35;rfl;(with_reducible rfl))|(apply z32;rfl;(with_reducible rfl))|(apply z13;rfl)|(apply z48;rfl;(with_reducible rfl))|(apply z44;rfl;(with_reducible rfl))|(apply z39;rfl;(with_reducible rfl))|(apply zb4;rfl)|(apply z38;rfl)|with_reducible apply z58|with_reducible apply z60|(with_reducible apply za1;intro hc;try (exfalso;omega))|(with_reducible apply zi9;intro hc)|(with_reducible apply z74;intro hc;try (exfalso;omega))|(with_reducible apply zb9;intro hc)|(with_reducible apply z67;intro hc;try (exfalso;omega))|(with_reducible apply z49;intro hc;try (exfalso;omega))|(apply z97;rfl)
 all_goals (refine cb ?_;simp [zc5,q00, *]<;>omega)
end Go.Proofs.TryzL
namespace Go.Proofs.TryzL
open Go.Proofs.Lz
set_option maxHeartbeats 4000000
theorem va7 {op:Int} (h:op<1∨10<op) (text:List UInt8) (n:Int):q00 op text n=false:=by
 unfold q00
 rw [if_neg (by omega),if_neg (by omega),if_neg (by omega),if_neg (by omega),if_neg (by omega),if_neg (by omega),if_neg (by omega),if_neg (by omega),if_neg (by omega),if_neg (by omega)]
theorem vd6 (op:Int) (h:op<1∨10<op) (qual text:List UInt8) (n:Int) (auto:Bool) (line col:Int) (hl:text.length<2^31) (hq:qual.length<2^31):Rets Vv 40 [.c (tokA op qual text n auto line col)] (.c (.bool (zc5 op qual text n))):=by
 refine z73 qg9 ?_
 have hb:=va7 h text n
 repeat' first|apply z01|exact z12|exact zb6 rfl|(apply z15;rfl;rfl)|(apply z43;(iterate 3 rfl))|(apply z30;(iterate 3 rfl))|(apply z84;rfl;rfl)|(apply z17;rfl;(with_reducible rfl);rfl)|(apply z14;rfl;(with_reducible rfl);rfl)|(apply z47;rfl;exact zb7 rfl)|(apply z81;rfl;rfl;first | exact z61 (by first | exact rfl | assumption | exact z05 (by assumption)) | exact z66 (by first | exact rfl | assumption | exact z05 (by assumption)))|(apply z07 (hc:=z92 text hl);rfl;rfl;rfl)|(apply z04;focus (repeat (first | exact z23 | (apply kq_c;rfl) | (apply z40;rfl))))|apply z02|apply z00|apply z03|apply z06|apply z08|apply z09|(apply z35;rfl;(with_reducible rfl))|(apply z32;rfl;(with_reducible rfl))|(apply z13;rfl)|(apply z48;rfl;(with_reducible rfl))|(apply z44;rfl;(with_reducible rfl))|(apply z39;rfl;(with_reducible rfl))|(apply zb4;rfl)|(apply z38;rfl)|with_reducible exact zd9|with_reducible apply ze4|with_reducible apply z58|with_reducible apply z60|(with_reducible apply za1;intro hc;try (exfalso;omega))|(with_reducible apply zi9;intro hc)|(with_reducible apply z74;intro hc;try (exfalso;omega))|(with_reducible apply zb9;intro hc)|(with_reducible apply z67;intro hc;try (exfalso;omega))|(with_reducible apply z49;intro hc;try (exfalso;omega))|(apply z97;rfl)
 all_goals (refine cb ?_;simp [zc5,hb])
theorem j43 (op:Int) (qual text:List UInt8) (n:Int) (auto:Bool) (line col:Int) (hl:text.length<2^31) (hq:qual.length<2^31):Rets Vv 40 [.c (tokA op qual text n auto line col)] (.c (.bool (zc5 op qual text n))):=by
 by_cases h:op<1∨10<op
 · exact vd6 op h qual text n auto line col hl hq
 · have:op=1∨op=2∨op=3∨op=4∨op=5∨op=6∨op=7∨op=8∨op=9∨op=10:=by omega
   rcases this with rfl | rfl | rfl | rfl | rfl | rfl | rfl | rfl | rfl | rfl
   · exact va8 qual text n auto line col hl hq
   · exact vd1 qual text n auto line col hl hq
   · exact v95 qual text n auto line col hl hq
   · exact vb3 qual text n auto line col hl hq
   · exact v89 qual text n auto line col hl hq
   · exact vb7 qual text n auto line col hl hq
   · exact v94 qual text n auto line col hl hq
   · exact vd0 qual text n auto line col hl hq
   · exact vb2 qual text n auto line col hl hq
   · exact wv1 qual text n auto line col hl hq
end Go.Proofs.TryzL
namespace Go.Proofs.TryzL
open Go.Proofs.Lz
set_option maxHeartbeats 4000000
def qcS (n:Int):List UInt8:=if 0≤n∧n≤255 then [39]++escB (UInt8.ofNat n.toNat) 39++[39] else []
theorem vb9 {n:Int} {r:List UInt8} (h1:∀ c:UInt8,n=c.toNat→r=[39]++escB c 39++[39]) (h2:¬ (0≤n∧n≤255)→r=[]):r=qcS n:=by
 unfold qcS
 split
 · rename_i h
   exact h1 _ (by simp;omega)
 · rename_i h
   exact h2 h
theorem qc20 (n:Int):Rets Vv 20 [.c (.int .i64 n)] (.c (.str (qcS n))):=by
 obtain ⟨r,h,h1,h2⟩:=j24 n
 rw [← vb9 h1 h2];exact h
def textS (op:Int) (qual text:List UInt8) (n:Int):List UInt8:=if op=5 then Lib.itoa n else if op=6 then qcS n else if op=7 then [34]++escS text 34++[34] else if qual=[] then text else qual++[46]++text
theorem v29 (op:Int) (qual text:List UInt8) (n:Int) (auto:Bool) (line col:Int) (hl:text.length<2^31) (hq:qual.length<2^31) (hn:-9223372036854775808≤n∧n≤9223372036854775807):Rets Vv 44 [.c (tokA op qual text n auto line col)] (.c (.str (textS op qual text n))):=by
 refine z73 v56 ?_
 repeat' first|apply z01|exact z12|exact zb6 rfl|(apply z15;rfl;rfl)|(apply z43;(iterate 3 rfl))|(apply qv8;rfl;rfl;(simp only [List.length_map,List.length_cons,List.length_nil,List.length_append,List.length_replicate];omega))|(apply z30;(iterate 3 rfl))|(apply z47;rfl;exact zb7 rfl)|(apply z81;rfl;rfl;first | exact z61 (by first | exact rfl | assumption | exact z05 (by assumption)) | exact z66 (by first | exact rfl | assumption | exact z05 (by assumption)))|(apply z07 (hc:=qt5 n hn);rfl;rfl;rfl)|(apply z07 (hc:=qc20 n);rfl;rfl;rfl)|(apply z07 (hc:=wp7 text hl);rfl;rfl;rfl)|(apply z04;focus (repeat (first | exact z23 | (apply kq_c;rfl) | (apply z40;rfl))))|apply z02|apply z00|apply z03|apply z06|apply z08|apply z09|(apply z13;rfl)|with_reducible apply z58|with_reducible apply z60|(with_reducible apply za1;intro hc;try (exfalso;omega))|(with_reducible apply zi9;intro hc)|(with_reducible apply z74;intro hc;try (exfalso;omega))|(with_reducible apply zb9;intro hc)|(apply z97;rfl)
 all_goals (congr 1;simp [textS, *])
end Go.Proofs.TryzL
