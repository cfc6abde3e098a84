/- Chapter 02: blanks and comments. -/
import Derived.Test.YtencoceemejcnaaGreatDoorLzT39
set_option linter.unusedSimpArgs false
set_option linter.unusedVariables false
namespace Go.Proofs.TryzL
open Go.Proofs.Lz
set_option maxHeartbeats 4000000
def quoU (i:Nat) (m:UInt8):QR→U
 | .bad code p=>.bad code p []
 | .ok t e=>if m=39 then (match t with
   | []=>.bad 7 i []
   | b::_=>.tok 6 [] [] b.toNat e) else .tok 7 [] t 0 e
def litU (s:List UInt8) (i:Nat) (m:UInt8):U:=quoU i m (litS s i m [] (i+1))
theorem qg4 {id:Nat} {H H':z18} {o:WO} (h:Kp2 H.length id (H++[o]) H'):KpH id H H':=by
 intro i o' hi ho
 have hlt:i<H.length:=(List.getElem?_eq_some_iff.1 ho).1
 exact h i o' hi (by omega) (by rw [List.getElem?_append_left hlt];exact ho)
theorem wa2 {id:Nat} {H H':z18} {o:WO} {s:List UInt8} {code p:Nat} (h:Bad H.length id (H++[o]) s code p H'):qx9 id H s (.bad code p []) H':=⟨h.1,qg4 h.2⟩
theorem w91:∀ t:List UInt8,zf4 (t.map bC)=some t:=by
 intro t
 induction t with
 | nil=>rfl
 | cons c t ih=>
   have:zf4 (bC c::t.map bC)=some (c::t):=by
    simp [zf4,bC,ih]
   exact this
theorem jd2 {H:z18} {id:Nat} {x:Sc} {m:UInt8} (hx:scAt x.src x.pos=x) (hH:ScH id x H) (hc:x.src[x.pos]?=some m) (hm:m=39∨m=34) (hl:x.src.length<2^30) :
 Shr Vv 29 [.ptr id 0] H (resU (litU x.src x.pos m)) (qx9 id H x.src (litU x.src x.pos m)):=by
 refine zh9 v58 ?_
 have hlt:x.pos<x.src.length:=(List.getElem?_eq_some_iff.1 hc).1
 have hid:id<H.length:=(List.getElem?_eq_some_iff.1 hH).1
 have hne:H.length≠id:=by omega
 have hH0:H[id]?=some (.var (some 8) (scC x)):=hH
 have hg:x.src[x.pos]?=some m:=hc
 unfold litU
 repeat' first|apply z01|exact z12|exact z19 rfl|(apply z15;rfl;rfl)|(apply za2;rfl;rfl;omega)|(apply z71;(iterate 3 rfl);assumption)|(apply jr3;(iterate 3 rfl))|(apply z68;rfl;rfl)|(apply z24;rfl;rfl)|(apply z16;rfl;rfl)|(apply z29;rfl;rfl)|(apply z81;rfl;rfl;first | exact z61 (by first | exact rfl | assumption | exact z05 (by assumption)) | exact z66 (by first | exact rfl | assumption | exact z05 (by assumption)))|(apply z22;rfl;rfl;(assumption);rfl)|(apply qs1;(iterate 4 rfl))|apply z02|apply z00|apply z03|apply z06|apply z28|apply z55|(apply z65;(exact rfl))|(apply z52;rfl)|(apply z54;rfl)|(apply dand;rfl)
 refine zk9 (fun p:List UInt8×Nat=>[(0,.ptr id 0),(2,.lbox (some 7) (.c q15)),(4,.c (bC m)),(5,.ptr H.length 0),(6,tW p.1)]) (fun p H'=>p.1.length≤200∧x.pos<p.2∧p.2≤x.src.length∧H'[H.length]?=some (ltO id p.2)∧ScH id x H'∧Kp2 H.length id (H++[ltO id (x.pos+1)]) H'∧litS x.src x.pos m p.1 p.2=litS x.src x.pos m [] (x.pos+1)) (fun p=>x.src.length - p.2) ([],x.pos+1) ?_ ⟨by simp,by omega,by dsimp only;omega,?_,?_,Kp2.refl,rfl⟩ ?_
 · repeat' first|exact z23|refine z64 rfl ?_
 · dsimp only
   rw [List.getElem?_append_right (by omega)]
   simp
   rfl
 · show _=_
   rw [List.getElem?_append_left hid]
   exact hH
 rintro ⟨text,j⟩ H2 ⟨h200,g1,g2,g3,g4,g5,g6⟩
 dsimp only at h200 g1 g2 g3 g4 g5 g6
 dsimp only
 have hgo:∀ b e H',litS x.src x.pos m text j=litS x.src x.pos m (text++[b]) e→j<e→e≤x.src.length→text.length+1≤200→H'[H.length]?=some (ltO id e)→ScH id x H'→Kp2 H.length id (H++[ltO id (x.pos+1)]) H'→∀ fr,KpL [0,2,4,5,6] fr [0,2,4,5,6] [(0,.ptr id 0),(2,.lbox (some 7) (.c q15)),(4,.c (bC m)),(5,.ptr H.length 0),(6,tW (text++[b]))]→(∃ s':List UInt8×Nat,KpL [0,2,4,5,6] fr [0,2,4,5,6] [(0,.ptr id 0),(2,.lbox (some 7) (.c q15)),(4,.c (bC m)),(5,.ptr H.length 0),(6,tW s'.1)]∧(s'.1.length≤200∧x.pos<s'.2∧s'.2≤x.src.length∧H'[H.length]?=some (ltO id s'.2)∧ScH id x H'∧Kp2 H.length id (H++[ltO id (x.pos+1)]) H'∧litS x.src x.pos m s'.1 s'.2=litS x.src x.pos m [] (x.pos+1))∧x.src.length - s'.2<x.src.length - j):=by
  intro b e H' h1 h2 h3 h4 h5 h6 h7 fr hk
  exact ⟨(text++[b],e),hk,⟨by simpa using h4,by dsimp only;omega,h3,h5,h6,h7,by rw [← h1];exact g6⟩,by dsimp only;omega⟩
 have hbad:∀ code p H',litS x.src x.pos m text j=.bad code p→Bad H.length id (H++[ltO id (x.pos+1)]) x.src code p H'→∀ fr:WFr,fr.env 2=.lbox (some 7) (.c q15)→fr.env 3=.c (.bool false)→finS H.length [.cell 2 (some 7),.tmp 3] (resU (quoU x.pos m (litS x.src x.pos m [] (x.pos+1)))) (qx9 id H x.src (quoU x.pos m (litS x.src x.pos m [] (x.pos+1)))) fr H':=by
  intro code p H' h1 h2 fr h3 h4
  rw [← g6,h1]
  exact zu2 h3 h4 rfl (wa2 h2)
 cases text with
 | nil=>
   refine jz3 hx g3 g4 g5 hne (by omega) g2 hl h200 hgo ?_ hbad
   intro H' h1 h2 h3 h4 h5
   have e9:litS x.src x.pos m [] (x.pos+1)=.ok [] (j+1):=by rw [← g6,h1]
   rw [e9]
   unfold tW
   have hs4:H'[id]?=some (.var (some 8) (scC x)):=h4
   rcases hm with rfl | rfl
   · repeat' first|apply z01|exact z12|exact z19 rfl|(apply z15;rfl;rfl)|(apply zp6;rfl;rfl;omega)|(apply z30;(iterate 3 rfl))|(apply zg2;rfl)|(apply z17;rfl;(with_reducible rfl);rfl)|(apply z14;rfl;(with_reducible rfl);rfl)|(apply z77;(iterate 3 rfl))|(apply z68;rfl;rfl)|(apply z24;rfl;rfl)|(apply z16;rfl;rfl)|(apply z29;rfl;rfl)|(apply z25;(iterate 4 rfl);exact z34 (by first | exact rfl | assumption | exact z05 (by assumption)))|(apply z22;rfl;rfl;(assumption);rfl)|(apply z27 (hc:=⟨(qj9 hx h4 7 (by decide)).run⟩);rfl;rfl;(exact rfl);rfl;(exact z12);rintro H1 ⟨r1,k1⟩)|(apply z04;focus (repeat (first | exact z23 | (apply kq_c;rfl) | (apply zc6;rfl) | (apply z50;rfl) | (apply z40;rfl))))|apply z02|apply z00|apply z03|apply z08|apply z09|apply z28|(apply z32;rfl;(with_reducible rfl))|(apply z13;rfl)|(apply z48;rfl;(with_reducible rfl))|(apply z44;rfl;(with_reducible rfl))|(apply z38;rfl)|(apply z65;(exact rfl))|(with_reducible apply za1;intro hc)|(with_reducible apply z74;intro hc)|(apply z52;rfl)|(apply z54;rfl)|(apply zv3)|(apply dand;rfl)
     any_goals (exfalso;contradiction)
     all_goals exact zu2 rfl rfl rfl ⟨r1,qg4 (h5.trans k1.two)⟩
   · have hb0:zf4 ([]:List CV)=some []:=rfl
     repeat' first|apply z01|exact z12|exact z19 rfl|(apply z15;rfl;rfl)|(apply zp6;rfl;rfl;omega)|(apply q13;rfl;assumption)|(apply z30;(iterate 3 rfl))|(apply zg2;rfl)|(apply z17;rfl;(with_reducible rfl);rfl)|(apply z14;rfl;(with_reducible rfl);rfl)|(apply z77;(iterate 3 rfl))|(apply z68;rfl;rfl)|(apply z24;rfl;rfl)|(apply z16;rfl;rfl)|(apply z29;rfl;rfl)|(apply z25;(iterate 4 rfl);exact z34 (by first | exact rfl | assumption | exact z05 (by assumption)))|(apply z22;rfl;rfl;(assumption);rfl)|(apply z27 (hc:=⟨(jd0 (li:=H.length) (j:=j+1) hx h4 h3 hne (by omega) (by omega) hl).run⟩);rfl;rfl;(exact rfl);rfl;(exact z19 rfl);rintro H1 ⟨r1,k1⟩)|(apply z04;focus (repeat (first | exact z23 | (apply kq_c;rfl) | (apply zc6;rfl) | (apply z50;rfl) | (apply z40;rfl))))|apply z02|apply z00|apply z03|apply z08|apply z09|apply z28|apply z55|(apply z32;rfl;(with_reducible rfl))|(apply z13;rfl)|(apply z48;rfl;(with_reducible rfl))|(apply z44;rfl;(with_reducible rfl))|(apply z38;rfl)|(apply z65;(exact rfl))|(with_reducible apply za1;intro hc)|(with_reducible apply z74;intro hc)|(apply z52;rfl)|(apply z54;rfl)|(apply zv3)|(apply dand;rfl)
     any_goals (exfalso;contradiction)
     all_goals exact zu2 rfl rfl rfl ⟨⟨_,k1.1,rfl⟩,qg4 (h5.trans k1.2.two)⟩
 | cons t0 tr=>
   refine jq3 hx g3 g4 g5 hne (by omega) g2 hl h200 hgo ?_ hbad
   intro H' h1 h2 h3 h4 h5
   have e9:litS x.src x.pos m [] (x.pos+1)=.ok (t0::tr) (j+1):=by rw [← g6,h1]
   rw [e9]
   unfold tW
   have hs4:H'[id]?=some (.var (some 8) (scC x)):=h4
   have hb:=w91 (t0::tr)
   have ht0:(t0::tr)[0]?=some t0:=rfl
   have ht1:=t0.toNat_lt
   have hlen:¬ (((t0::tr).length:Nat):Int)=0:=by simp;omega
   rcases hm with rfl | rfl
   · repeat' first|apply z01|exact z12|exact z19 rfl|(apply z15;rfl;rfl)|(apply zp6;rfl;rfl;omega)|(apply q13;rfl;assumption)|(apply z30;(iterate 3 rfl))|(apply zd4;rfl)|(apply z17;rfl;(with_reducible rfl);rfl)|(apply z14;rfl;(with_reducible rfl);rfl)|(apply z77;(iterate 3 rfl))|(apply zc3;(iterate 3 rfl))|(apply z24;rfl;rfl)|(apply z16;rfl;rfl)|(apply z29;rfl;rfl)|(apply z25;(iterate 4 rfl);exact z34 (by first | exact rfl | assumption | exact z05 (by assumption)))|(apply zr9;rfl;omega)|(apply z22;rfl;rfl;(assumption);rfl)|(apply qc6;(iterate 3 rfl);assumption)|(apply q99;(iterate 3 rfl))|(apply z27 (hc:=⟨(jd0 (li:=H.length) (j:=j+1) hx h4 h3 hne (by omega) (by omega) hl).run⟩);rfl;rfl;(exact rfl);rfl;(exact z19 rfl);rintro H1 ⟨r1,k1⟩)|(apply z04;focus (repeat (first | exact z23 | (apply kq_c;rfl) | (apply ze6;rfl;rfl) | (apply z50;rfl) | (apply z40;rfl))))|apply z02|apply z00|apply z03|apply z08|apply z09|apply z28|apply z55|(apply z32;rfl;(with_reducible rfl))|(apply z13;rfl)|(apply z48;rfl;(with_reducible rfl))|(apply z44;rfl;(with_reducible rfl))|(apply z38;rfl)|(apply z65;(exact rfl))|(with_reducible apply za1;intro hc)|(with_reducible apply z74;intro hc)|(apply z52;rfl)|(apply z54;rfl)|(apply zv3)|(apply dand;rfl)
     any_goals (exfalso;contradiction)
     all_goals exact zu2 rfl rfl rfl ⟨⟨_,k1.1,rfl⟩,qg4 (h5.trans k1.2.two)⟩
   · repeat' first|apply z01|exact z12|exact z19 rfl|(apply z15;rfl;rfl)|(apply zp6;rfl;rfl;omega)|(apply q13;rfl;assumption)|(apply z30;(iterate 3 rfl))|(apply zd4;rfl)|(apply z17;rfl;(with_reducible rfl);rfl)|(apply z14;rfl;(with_reducible rfl);rfl)|(apply z77;(iterate 3 rfl))|(apply zc3;(iterate 3 rfl))|(apply z24;rfl;rfl)|(apply z16;rfl;rfl)|(apply z29;rfl;rfl)|(apply z25;(iterate 4 rfl);exact z34 (by first | exact rfl | assumption | exact z05 (by assumption)))|(apply zr9;rfl;omega)|(apply z22;rfl;rfl;(assumption);rfl)|(apply qc6;(iterate 3 rfl);assumption)|(apply q99;(iterate 3 rfl))|(apply z27 (hc:=⟨(jd0 (li:=H.length) (j:=j+1) hx h4 h3 hne (by omega) (by omega) hl).run⟩);rfl;rfl;(exact rfl);rfl;(exact z19 rfl);rintro H1 ⟨r1,k1⟩)|(apply z04;focus (repeat (first | exact z23 | (apply kq_c;rfl) | (apply ze6;rfl;rfl) | (apply z50;rfl) | (apply z40;rfl))))|apply z02|apply z00|apply z03|apply z08|apply z09|apply z28|apply z55|(apply z32;rfl;(with_reducible rfl))|(apply z13;rfl)|(apply z48;rfl;(with_reducible rfl))|(apply z44;rfl;(with_reducible rfl))|(apply z38;rfl)|(apply z65;(exact rfl))|(with_reducible apply za1;intro hc)|(with_reducible apply z74;intro hc)|(apply z52;rfl)|(apply z54;rfl)|(apply zv3)|(apply dand;rfl)
     any_goals (exfalso;contradiction)
     all_goals exact zu2 rfl rfl rfl ⟨⟨_,k1.1,rfl⟩,qg4 (h5.trans k1.2.two)⟩
end Go.Proofs.TryzL
namespace Go.Proofs.TryzL
open Go.Proofs.Lz
set_option maxHeartbeats 4000000
theorem qs2 (s p:List UInt8):Rets Vv 54 [.c (.str s),.c (.str p)] (.c (.bool (p.isPrefixOf s))):=by
 have h:=zo0 (V:=Vv) (f:=54) (xs:=[.str s,.str p]) (u:=.bool (p.isPrefixOf s)) (g:=hpfG) rfl rfl (by simp [hpfG])
 exact h
inductive KR where
 | bad (code at':Nat)
 | ok (e:Nat)
def cmtS (s:List UInt8) (i:Nat) (d:Int) (j:Nat):KR:=
 if h:s.length≤j then .bad 8 i
 else if [123,45].isPrefixOf (s.drop j) then cmtS s i (d+1) (j+2)
 else if [45,125].isPrefixOf (s.drop j) then (if d - 1=0 then .ok (j+2) else cmtS s i (d - 1) (j+2))
 else if q44 (s.getD j 0)=false then .bad 5 j else cmtS s i d (j+1)
termination_by s.length - j
def begC (s:List UInt8) (i:Nat):CV:=.agg [.int .i64 8,.str [],.int .i64 (plc s i).1,.int .i64 (plc s i).2]
theorem j29 {a b:UInt8} {s:List UInt8} {j:Nat} (h:[a,b].isPrefixOf (s.drop j)=true):j+2≤s.length:=by
 have:=(List.isPrefixOf_iff_prefix.1 h).length_le
 simp at this
 omega
theorem w68 {H H0:z18} {id i j:Nat} {d:Int} {s:List UInt8} {N:Post} {B:Hs} {R:RP} (hH:ScH id (scAt s j) H) (hk:KpH id H0 H) (hj:j≤s.length) (hl:s.length<2^30) (hd1:-(j:Int)≤d) (hd2:d≤j)
 (hgo:∀ (d':Int) (j':Nat) H',cmtS s i d j=cmtS s i d' j'→j<j'→j'≤s.length→-(j':Int)≤d'→d'≤j'→ScH id (scAt s j') H'→KpH id H0 H'→∀ fr,KpL [0,3,4] fr [0,3,4] [(0,.ptr id 0),(3,.lbox (some 4) (.c (begC s i))),(4,.c (.int .i64 d'))]→N fr H')
 (hok:∀ e H',cmtS s i d j=.ok e→e≤s.length→ScH id (scAt s e) H'→KpH id H0 H'→∀ fr:WFr,fr.env 2=.c (.bool true)→R.ret fr H')
 (hbad:∀ code p H',cmtS s i d j=.bad code p→(∃ y,ScH id y H'∧zf3 s code p [] y)→KpH id H0 H'→∀ fr:WFr,fr.env 2=.c (.bool false)→R.ret fr H') :
 WP Vv wh1 (FL [(0,.ptr id 0),(3,.lbox (some 4) (.c (begC s i))),(4,.c (.int .i64 d))] []) H N B R:=by
 have hH0:H[id]?=some (.var (some 8) (scC (scAt s j))):=hH
 have hxj:scAt (scAt s j).src (scAt s j).pos=scAt s j:=rfl
 have h1:=qs2 (s.drop j) [123,45]
 have h2:=qs2 (s.drop j) [45,125]
 have e:=cmtS.eq_1 s i d j
 have hjp:(scAt s j).pos≤(scAt s j).src.length:=hj
 have hl50:(scAt s j).src.length<2^50:=by show s.length<_;omega
 by_cases hjl:s.length≤j
 · rw [dif_pos hjl] at e
   have hdr:s.drop j=[]:=List.drop_eq_nil_of_le hjl
   repeat' first|apply z01|exact z12|exact z19 rfl|(apply z15;rfl;rfl)|(apply z43;(iterate 3 rfl))|(apply z30;(iterate 3 rfl))|(apply z24;rfl;rfl)|(apply z16;rfl;rfl)|(apply z29;rfl;rfl)|(apply za6;(iterate 3 rfl);omega)|(apply z22;rfl;rfl;(assumption);rfl)|(apply za7;(iterate 4 rfl);(assumption);rfl;rfl;intro H1 hH1 kH1)|(apply z04;focus (repeat (first | exact z23 | (apply kq_c;rfl) | (apply z50;rfl) | (apply z40;rfl))))|apply z02|apply z00|apply z03|apply z06|apply z09|apply z28|apply z55|(apply z13;rfl)|(apply z65;(exact rfl))|(with_reducible apply zi9;intro hc)|(with_reducible apply zb9;intro hc)|(apply z52;rfl)|(apply z54;rfl)|(apply zj0)|(apply dand;rfl)
   try any_goals (exfalso;contradiction)
   all_goals exact hbad 8 i _ e ⟨⟨s,j,(plc s j).1,(plc s j).2,8,[],(plc s i).1,(plc s i).2⟩,hH1,rfl,rfl,rfl,rfl⟩ (hk.trans kH1) _ rfl
 · rw [dif_neg hjl] at e
   have hdr:s.drop j≠[]:=by simp;omega
   have h0:(s.drop j)[0]?=some (s.getD j 0):=by simp [List.getElem?_drop];rw [List.getElem?_eq_getElem (by omega)];rfl
   have h53:=j85 (s.getD j 0)
   have hj1:(scAt s j).pos+1≤(scAt s j).src.length:=by show j+1≤s.length;omega
   cases hp1:[123,45].isPrefixOf (s.drop j) with
   | true=>
     have hj2:=j29 hp1
     have hpl:(scAt s j).pos+2≤(scAt s j).src.length:=hj2
     rw [hp1] at h1 e
     rw [if_pos rfl] at e
     repeat' first|apply z01|exact z12|exact z19 rfl|(apply z15;rfl;rfl)|(apply z43;(iterate 3 rfl))|(apply za2;rfl;rfl;omega)|(apply z30;(iterate 3 rfl))|(apply z24;rfl;rfl)|(apply z16;rfl;rfl)|(apply z29;rfl;rfl)|(apply za6;(iterate 3 rfl);omega)|(apply z22;rfl;rfl;(assumption);rfl)|(apply za7;(iterate 4 rfl);(assumption);rfl;rfl;intro H1 hH1 kH1)|(apply z07 (hc:=h1);rfl;rfl;rfl)|(apply z27 (hc:=⟨(adv (n:=2) hxj hH hpl hl50).run⟩);rfl;rfl;(exact rfl);rfl;(exact z19 rfl);rintro H1 ⟨r1,k1⟩)|(apply z04;focus (repeat (first | exact z23 | (apply kq_c;rfl) | (apply z50;rfl) | (apply z40;rfl))))|apply z02|apply z00|apply z03|apply z06|apply z09|apply z28|apply z55|(apply z35;rfl;(with_reducible rfl))|(apply z13;rfl)|(apply z65;(exact rfl))|(with_reducible apply zi9;intro hc)|(with_reducible apply zb9;intro hc)|(apply z52;rfl)|(apply z54;rfl)|(apply zj0)|(apply dand;rfl)
     try any_goals (exfalso;contradiction)
     refine hgo (d+1) (j+2) _ e (by omega) (by omega) (by omega) (by omega) r1 (hk.trans k1) _ ?_
     repeat' first|exact z23|refine z64 rfl ?_
   | false=>
     rw [hp1] at h1 e
     rw [if_neg (by simp)] at e
     cases hp2:[45,125].isPrefixOf (s.drop j) with
     | true=>
       have hj2:=j29 hp2
       have hpl:(scAt s j).pos+2≤(scAt s j).src.length:=hj2
       rw [hp2] at h2 e
       rw [if_pos rfl] at e
       repeat' first|apply z01|exact z12|exact z19 rfl|(apply z15;rfl;rfl)|(apply z43;(iterate 3 rfl))|(apply zp6;rfl;rfl;omega)|(apply z30;(iterate 3 rfl))|(apply z24;rfl;rfl)|(apply z16;rfl;rfl)|(apply z29;rfl;rfl)|(apply za6;(iterate 3 rfl);omega)|(apply z22;rfl;rfl;(assumption);rfl)|(apply za7;(iterate 4 rfl);(assumption);rfl;rfl;intro H1 hH1 kH1)|(apply z07 (hc:=h1);rfl;rfl;rfl)|(apply z07 (hc:=h2);rfl;rfl;rfl)|(apply z27 (hc:=⟨(adv (n:=2) hxj hH hpl hl50).run⟩);rfl;rfl;(exact rfl);rfl;(exact z19 rfl);rintro H1 ⟨r1,k1⟩)|(apply z04;focus (repeat (first | exact z23 | (apply kq_c;rfl) | (apply z50;rfl) | (apply z40;rfl))))|apply z02|apply z00|apply z03|apply z06|apply z08|apply z09|apply z28|apply z55|(apply z35;rfl;(with_reducible rfl))|(apply z32;rfl;(with_reducible rfl))|(apply z13;rfl)|(apply z65;(exact rfl))|(with_reducible apply za1;intro hc)|(with_reducible apply zi9;intro hc)|(with_reducible apply z74;intro hc)|(with_reducible apply zb9;intro hc)|(apply z52;rfl)|(apply z54;rfl)|(apply zj0)|(apply dand;rfl)
       try any_goals (exfalso;contradiction)
       · rw [if_pos hc] at e
         exact hok (j+2) _ e (by omega) r1 (hk.trans k1) _ rfl
       · rw [if_neg hc] at e
         refine hgo (d - 1) (j+2) _ e (by omega) (by omega) (by omega) (by omega) r1 (hk.trans k1) _ ?_
         repeat' first|exact z23|refine z64 rfl ?_
     | false=>
       rw [hp2] at h2 e
       rw [if_neg (by simp)] at e
       cases hkn:q44 (s.getD j 0) with
       | true=>
         rw [hkn] at h53 e
         repeat' first|apply z01|exact z12|exact z19 rfl|(apply z15;rfl;rfl)|(apply z43;(iterate 3 rfl))|(apply z30;(iterate 3 rfl))|(apply z84;rfl;rfl)|(apply z71;(iterate 3 rfl);assumption)|(apply z24;rfl;rfl)|(apply z16;rfl;rfl)|(apply z29;rfl;rfl)|(apply za6;(iterate 3 rfl);omega)|(apply z22;rfl;rfl;(assumption);rfl)|(apply za7;(iterate 4 rfl);(assumption);rfl;rfl;intro H1 hH1 kH1)|(apply z07 (hc:=h1);rfl;rfl;rfl)|(apply z07 (hc:=h2);rfl;rfl;rfl)|(apply z07 (hc:=h53);rfl;rfl;rfl)|(apply z27 (hc:=⟨(adv (n:=1) hxj hH hj1 hl50).run⟩);rfl;rfl;(exact rfl);rfl;(exact z19 rfl);rintro H1 ⟨r1,k1⟩)|(apply z04;focus (repeat (first | exact z23 | (apply kq_c;rfl) | (apply z50;rfl) | (apply z40;rfl))))|apply z02|apply z00|apply z03|apply z06|apply z09|apply z28|apply z55|(apply z32;rfl;(with_reducible rfl))|(apply z13;rfl)|(apply z65;(exact rfl))|with_reducible exact zb1|with_reducible apply zb3|with_reducible apply z58|with_reducible apply z60|(with_reducible apply zi9;intro hc)|(with_reducible apply zb9;intro hc)|(apply z52;rfl)|(apply z54;rfl)|(apply zj0)|(apply dand;rfl)
         try any_goals (exfalso;contradiction)
         rw [if_neg (by simp)] at e
         refine hgo d (j+1) _ e (by omega) (by omega) (by omega) (by omega) r1 (hk.trans k1) _ ?_
         repeat' first|exact z23|refine z64 rfl ?_
       | false=>
         rw [hkn] at h53 e
         repeat' first|apply z01|exact z12|exact z19 rfl|(apply z15;rfl;rfl)|(apply z43;(iterate 3 rfl))|(apply z30;(iterate 3 rfl))|(apply z84;rfl;rfl)|(apply z71;(iterate 3 rfl);assumption)|(apply z24;rfl;rfl)|(apply z16;rfl;rfl)|(apply z29;rfl;rfl)|(apply za6;(iterate 3 rfl);omega)|(apply z22;rfl;rfl;(assumption);rfl)|(apply za7;(iterate 4 rfl);(assumption);rfl;rfl;intro H1 hH1 kH1)|(apply z07 (hc:=h1);rfl;rfl;rfl)|(apply z07 (hc:=h2);rfl;rfl;rfl)|(apply z07 (hc:=h53);rfl;rfl;rfl)|(apply z27 (hc:=⟨(qj9 hxj hH 5 (by decide)).run⟩);rfl;rfl;(exact rfl);rfl;(exact z12);rintro H1 ⟨r1,k1⟩)|(apply z04;focus (repeat (first | exact z23 | (apply kq_c;rfl) | (apply z50;rfl) | (apply z40;rfl))))|apply z02|apply z00|apply z03|apply z06|apply z09|apply z28|apply z55|(apply z32;rfl;(with_reducible rfl))|(apply z13;rfl)|(apply z65;(exact rfl))|with_reducible exact zd9|with_reducible apply ze4|with_reducible apply z58|with_reducible apply z60|(with_reducible apply zi9;intro hc)|(with_reducible apply zb9;intro hc)|(apply z52;rfl)|(apply z54;rfl)|(apply zj0)|(apply dand;rfl)
         try any_goals (exfalso;contradiction)
         rw [if_pos rfl] at e
         exact hbad 5 j _ e r1 (hk.trans k1) _ rfl
def cmtU:KR→U
 | .bad code p=>.bad code p []
 | .ok e=>.skip e
def resB:U→Bool
 | .skip _=>true
 | _=>false
def okB (s:List UInt8):U→Sc→Prop
 | .skip e,x=>x=scAt s e
 | .bad code a nm,x=>zf3 s code a nm x
 | .tok _ _ _ _ _,_=>False
def PostB (id:Nat) (H:z18) (s:List UInt8) (u:U):z18→Prop:=fun H'=>(∃ y,ScH id y H'∧okB s u y)∧KpH id H H'
theorem jc6 {H:z18} {id i:Nat} {s:List UInt8} (hH:ScH id (scAt s i) H) (hi:i≤s.length) (hl:s.length<2^30) :
 Shr Vv 55 [.ptr id 0] H (.c (.bool (resB (cmtU (cmtS s i 0 i))))) (PostB id H s (cmtU (cmtS s i 0 i))):=by
 refine zh9 v64 ?_
 have hH0:H[id]?=some (.var (some 8) (scC (scAt s i))):=hH
 have hnb:∀ s,zk7 (FL [] []) (some s)=true:=fun _=>rfl
 repeat' first|apply z01|exact z12|exact z19 rfl|(apply z15;rfl;rfl)|(apply z77;(iterate 3 rfl))|(apply z24;rfl;rfl)|(apply z16;rfl;rfl)|(apply z29;rfl;rfl)|(apply z81;rfl;rfl;first | exact z61 (by first | exact rfl | assumption | exact z05 (by assumption)) | exact z66 (by first | exact rfl | assumption | exact z05 (by assumption)))|(apply z25;(iterate 4 rfl);exact z34 (by first | exact rfl | assumption | exact z05 (by assumption)))|(apply z22;rfl;rfl;(assumption);rfl)|apply z02|apply z00|apply z03|apply z06|apply z28|apply z55|(apply v82;(exact rfl))|(apply z65;(exact rfl))|(apply z52;rfl)|(apply z54;rfl)|(apply zf8;rfl)|(apply w75)|(apply dand;rfl)
 refine zk9 (fun p:Int×Nat=>[(0,.ptr id 0),(3,.lbox (some 4) (.c (begC s i))),(4,.c (.int .i64 p.1))]) (fun p H'=>-(p.2:Int)≤p.1∧p.1≤p.2∧p.2≤s.length∧ScH id (scAt s p.2) H'∧KpH id H H'∧cmtS s i p.1 p.2=cmtS s i 0 i) (fun p=>s.length - p.2) (0,i) ?_ ⟨by dsimp only;omega,by dsimp only;omega,hi,hH,fun _ _ _ h=>h,rfl⟩ ?_
 · repeat' first|exact z23|refine z64 rfl ?_
 rintro ⟨d,j⟩ H2 ⟨g1,g2,g3,g4,g5,g6⟩
 dsimp only at g1 g2 g3 g4 g5 g6
 dsimp only
 refine w68 g4 g5 g3 hl g1 g2 ?_ ?_ ?_
 · intro d' j' H' h1 h2 h3 h4 h5 h6 h7 fr hk
   exact ⟨(d',j'),hk,⟨h4,h5,h3,h6,h7,by rw [← h1];exact g6⟩,by dsimp only;omega⟩
 · intro e H' h1 h2 h3 h4 fr h5
   rw [← g6,h1]
   exact zk4 h5 rfl ⟨⟨_,h3,rfl⟩,h4⟩
 · intro code p H' h1 h2 h3 fr h5
   rw [← g6,h1]
   exact zk4 h5 rfl ⟨h2,h3⟩
end Go.Proofs.TryzL
namespace Go.Proofs.TryzL
open Go.Proofs.Lz
set_option maxHeartbeats 4000000
def lineS (s:List UInt8) (j:Nat):KR:=
 if h:s.length≤j then .ok j
 else if s.getD j 0=10 then .ok j
 else if q44 (s.getD j 0)=false then .bad 5 j else lineS s (j+1)
termination_by s.length - j
def z98 (s:List UInt8) (i:Nat) (c:UInt8):Option U:=
 if c=32∨c=9∨c=10 then some (.skip (i+1))
 else if c=45∧qk0 (z83 symB s i)=true then some (cmtU (lineS s i))
 else if [123,45].isPrefixOf (s.drop i) then some (cmtU (cmtS s i 0 i)) else none
def resO:Option U→Bool
 | some u=>resB u
 | none=>false
def v78 (id:Nat) (H:z18) (s:List UInt8) (i:Nat):Option U→z18→Prop
 | some u=>PostB id H s u
 | none=>fun H'=>ScH id (scAt s i) H'∧KpH id H H'
theorem jz0 {H H0:z18} {id j:Nat} {s:List UInt8} {N K:Post} {B:Hs} {R:RP} (hH:ScH id (scAt s j) H) (hk:KpH id H0 H) (hj:j≤s.length) (hl:s.length<2^30)
 (hgo:∀ (j':Nat) H',lineS s j=lineS s j'→j<j'→j'≤s.length→ScH id (scAt s j') H'→KpH id H0 H'→∀ fr,KpL [0] fr [0] [(0,.ptr id 0)]→N fr H')
 (hok:lineS s j=.ok j→K (FL [] []) H)
 (hbad:∀ code p H',lineS s j=.bad code p→(∃ y,ScH id y H'∧zf3 s code p [] y)→KpH id H0 H'→∀ fr:WFr,fr.env 2=.c (.bool false)→R.ret fr H') :
 WP Vv we5 (FL [(0,.ptr id 0)] []) H N ((1,K)::B) R:=by
 have hH0:H[id]?=some (.var (some 8) (scC (scAt s j))):=hH
 have hxj:scAt (scAt s j).src (scAt s j).pos=scAt s j:=rfl
 have e:=lineS.eq_1 s j
 have hjp:(scAt s j).pos≤(scAt s j).src.length:=hj
 have hl50:(scAt s j).src.length<2^50:=by show s.length<_;omega
 by_cases hjl:s.length≤j
 · rw [dif_pos hjl] at e
   have hge:¬ (((scAt s j).pos:Int)<(scAt s j).src.length):=by show ¬ ((j:Int)<s.length);omega
   repeat' first|exact z12|exact z19 rfl|(apply z15;rfl;rfl)|(apply z30;(iterate 3 rfl))|(apply z41;rfl)|(apply z17;rfl;(with_reducible rfl);rfl)|(apply z14;rfl;(with_reducible rfl);rfl)|(apply z71;(iterate 3 rfl);exact List.getElem?_eq_getElem (by omega))|(apply z24;rfl;rfl)|(apply z16;rfl;rfl)|(apply z29;rfl;rfl)|(apply z22;rfl;rfl;(assumption);rfl)|(apply z04;focus (repeat (first | exact z23 | (apply z50;rfl))))|apply z02|apply z06|apply z08|apply z56|(apply zc1;rfl)|apply z28|apply z55|(apply z32;rfl;(with_reducible rfl))|(apply z13;rfl)|(apply z65;(exact rfl))|(apply j99;rfl;(with_reducible rfl);(exact rfl))|(apply q28;rfl;(with_reducible rfl);(exact rfl);(exact z19 rfl);rfl)|(apply qq4;rfl)|(with_reducible apply zd3;intro hc)|(with_reducible apply za8;intro hc)|(with_reducible apply z67;intro hc)|(with_reducible apply z49;intro hc)|(apply z52;rfl)|(apply z54;rfl)|(apply dand;rfl)
   try any_goals (exfalso;contradiction)
   all_goals exact hok e
 · rw [dif_neg hjl] at e
   have hlt:(((scAt s j).pos:Int)<(scAt s j).src.length):=by show ((j:Int)<s.length);omega
   have h0:(scAt s j).src[(scAt s j).pos]?=some (s.getD j 0):=by show s[j]?=_;rw [List.getElem?_eq_getElem (by omega)];simp [List.getD,List.getElem?_eq_getElem (show j<s.length by omega)]
   have h53:=j85 (s.getD j 0)
   have hj1:(scAt s j).pos+1≤(scAt s j).src.length:=by show j+1≤s.length;omega
   generalize hcc:s.getD j 0=c at *
   by_cases h10:c=10
   · rw [if_pos h10] at e
     subst h10
     repeat' first|exact z12|exact z19 rfl|(apply z15;rfl;rfl)|(apply z30;(iterate 3 rfl))|(apply z41;rfl)|(apply z17;rfl;(with_reducible rfl);rfl)|(apply z14;rfl;(with_reducible rfl);rfl)|(apply z71;(iterate 3 rfl);assumption)|(apply z24;rfl;rfl)|(apply z16;rfl;rfl)|(apply z29;rfl;rfl)|(apply z22;rfl;rfl;(assumption);rfl)|(apply z04;focus (repeat (first | exact z23 | (apply z50;rfl))))|apply z02|apply z06|apply z08|apply z56|(apply zc1;rfl)|apply z28|apply z55|(apply z32;rfl;(with_reducible rfl))|(apply z13;rfl)|(apply z65;(exact rfl))|(apply j99;rfl;(with_reducible rfl);(exact rfl))|(apply q28;rfl;(with_reducible rfl);(exact rfl);(exact z19 rfl);rfl)|(apply qq4;rfl)|(with_reducible apply zd3;intro hc)|(with_reducible apply za8;intro hc)|(with_reducible apply z67;intro hc)|(with_reducible apply z49;intro hc)|(apply z52;rfl)|(apply z54;rfl)|(apply dand;rfl)
     try any_goals (exfalso;contradiction)
     all_goals first | (exfalso;simp_all;done) | exact hok e
   · rw [if_neg h10] at e
     have h10':=zz9 h10
     cases hkn:q44 c with
     | true=>
       rw [hkn] at h53 e
       rw [if_neg (by simp)] at e
       repeat' first|apply z01|exact z12|exact z19 rfl|(apply z15;rfl;rfl)|(apply z30;(iterate 3 rfl))|(apply z41;rfl)|(apply z84;rfl;rfl)|(apply z17;rfl;(with_reducible rfl);rfl)|(apply z14;rfl;(with_reducible rfl);rfl)|(apply z71;(iterate 3 rfl);assumption)|(apply z24;rfl;rfl)|(apply z16;rfl;rfl)|(apply z29;rfl;rfl)|(apply z22;rfl;rfl;(assumption);rfl)|(apply z27 (hc:=⟨(adv (n:=1) hxj hH hj1 hl50).run⟩);rfl;rfl;(exact rfl);rfl;(exact z19 rfl);rintro H1 ⟨r1,k1⟩)|(apply z04;focus (repeat (first | exact z23 | (apply z50;rfl))))|apply z02|apply z00|apply z03|apply z06|apply z08|apply z56|(apply zc1;rfl)|apply z28|apply z55|(apply z32;rfl;(with_reducible rfl))|(apply z13;rfl)|(apply z65;(exact rfl))|(apply j99;rfl;(with_reducible rfl);(exact rfl))|(apply q28;rfl;(with_reducible rfl);(exact rfl);(exact z19 rfl);rfl)|(apply qq4;rfl)|with_reducible exact zb1|with_reducible apply zb3|with_reducible apply z58|with_reducible apply z60|(with_reducible apply zd3;intro hc)|(with_reducible apply za8;intro hc)|(with_reducible apply z67;intro hc)|(with_reducible apply z49;intro hc)|(apply z52;rfl)|(apply z54;rfl)|(apply zz3 (hc:=h53);rfl;rfl;rfl)|(apply dand;rfl)
       try any_goals (exfalso;contradiction)
       refine hgo (j+1) _ e (by omega) (by omega) r1 (hk.trans k1) _ ?_
       repeat' first|exact z23|refine z64 rfl ?_
     | false=>
       rw [hkn] at h53 e
       rw [if_pos rfl] at e
       repeat' first|apply z01|exact z12|exact z19 rfl|(apply z15;rfl;rfl)|(apply z30;(iterate 3 rfl))|(apply z41;rfl)|(apply z84;rfl;rfl)|(apply z17;rfl;(with_reducible rfl);rfl)|(apply z14;rfl;(with_reducible rfl);rfl)|(apply z71;(iterate 3 rfl);assumption)|(apply z24;rfl;rfl)|(apply z16;rfl;rfl)|(apply z29;rfl;rfl)|(apply z22;rfl;rfl;(assumption);rfl)|(apply z27 (hc:=⟨(qj9 hxj hH 5 (by decide)).run⟩);rfl;rfl;(exact rfl);rfl;(exact z12);rintro H1 ⟨r1,k1⟩)|(apply z04;focus (repeat (first | exact z23 | (apply z50;rfl))))|apply z02|apply z00|apply z03|apply z06|apply z08|apply z09|apply z56|(apply zc1;rfl)|apply z28|apply z55|(apply z32;rfl;(with_reducible rfl))|(apply z13;rfl)|(apply z65;(exact rfl))|(apply j99;rfl;(with_reducible rfl);(exact rfl))|(apply q28;rfl;(with_reducible rfl);(exact rfl);(exact z19 rfl);rfl)|(apply qq4;rfl)|with_reducible exact zd9|with_reducible apply ze4|with_reducible apply z58|with_reducible apply z60|(with_reducible apply zd3;intro hc)|(with_reducible apply za8;intro hc)|(with_reducible apply z67;intro hc)|(with_reducible apply z49;intro hc)|(apply z52;rfl)|(apply z54;rfl)|(apply zz3 (hc:=h53);rfl;rfl;rfl)|(apply dand;rfl)
       try any_goals (exfalso;contradiction)
       exact hbad 5 j _ e r1 (hk.trans k1) _ rfl
end Go.Proofs.TryzL
