/- Chapter 02: blanks and comments: the function. -/
import Derived.Test.YtencoceemejcnaaGreatDoorLzT39
set_option linter.unusedSimpArgs false
set_option linter.unusedVariables false
namespace Go.Proofs.TryzL
open Go.Proofs.Lz
set_option maxHeartbeats 4000000
def jK (i:Nat) (m:UInt8):QR->U
 | .bad code p=>.bad code p []
 | .ok t e=>if m=39 then (match t with
   | []=>.bad 7 i []
   | b::_=>.tok 6 [] [] b.toNat e) else .tok 7 [] t 0 e
def I7 (s:List UInt8) (i:Nat) (m:UInt8):U:=jK i m (A6 s i m [] (i+1))
theorem pF {id:Nat} {H H':q9} {o:WO} (h:Kp2 H.length id (H++[o]) H'):KpH id H H':=by
 intro i o' hi ho;have hlt:i<H.length:=(gEs ho).1;exact h i o' hi (by omega) (by rw [List.getElem?_append_left hlt];exact ho)
theorem q43 {id:Nat} {H H':q9} {o:WO} {s:List UInt8} {code p:Nat} (h:Bad H.length id (H++[o]) s code p H'):wY id H s (.bad code p []) H':=⟨h.1,pF h.2⟩
theorem z13:∀ t:List UInt8,M3 (t.map bC)=some t:=by
 intro t;induction t with
 | nil=>rfl
 | cons c t ih=>
   have:M3 (bC c::t.map bC)=some (c::t):=by
    simp [M3,bC,ih]
   exact this
theorem z57 {H:q9} {id:Nat} {x:Sc} {m:UInt8} (hx:j5 x.src x.pos=x) (hH:ScH id x H) (hc:x.src[x.pos]?=some m) (hm:m=39\/m=34) (hl:x.src.length<2^30) :
 Shr Vv 29 [.ptr id 0] H (vV (I7 x.src x.pos m)) (wY id H x.src (I7 x.src x.pos m)):=by
 refine V7 qe6 ?_;have hlt:x.pos<x.src.length:=(gEs hc).1;have hid:id<H.length:=(gEs hH).1;have hne:H.length≠id:=by omega
 have hH0:H[id]?=some (.var (some 8) (scC x)):=hH;have hg:x.src[x.pos]?=some m:=hc;unfold I7;repeat' first|apply j2|exact q7|exact j8 rfl|(apply j7;rfl;rfl)|(apply b6;rfl;rfl;omega)|(apply x7;rfl;rfl;rfl;assumption)|(apply q60;rfl;rfl;rfl)|(apply C7;rfl;rfl)|(apply m6;rfl;rfl)|(apply s9;rfl;rfl)|(apply l5;rfl;rfl)|(apply m8;rfl;rfl;first | exact c6 (by first | exact rfl | assumption | exact j0 (by assumption)) | exact m9 (by first | exact rfl | assumption | exact j0 (by assumption)))|(apply t8;rfl;rfl;(assumption);rfl)|(apply j80;rfl;rfl;rfl;rfl)|apply j1|apply j3|apply j4|apply x3|apply o0|apply o7|(apply o6;(exact rfl))|(apply f8;rfl)|(apply o8;rfl)|(apply f9;rfl)
 refine kE (fun p:List UInt8×Nat=>[(0,.ptr id 0),(2,.lbox (some 7) (.c T8)),(4,.c (bC m)),(5,.ptr H.length 0),(6,tW p.1)]) (fun p H'=>p.1.length<=200/\x.pos<p.2/\p.2<=x.src.length/\H'[H.length]?=some (ltO id p.2)/\ScH id x H'/\Kp2 H.length id (H++[ltO id (x.pos+1)]) H'/\A6 x.src x.pos m p.1 p.2=A6 x.src x.pos m [] (x.pos+1)) (fun p=>x.src.length - p.2) ([],x.pos+1) ?_ ⟨by simp,by omega,by dsimp only;omega,?_,?_,Kp2.refl,rfl⟩ ?_
 . repeat' first|exact q8|refine d5 rfl ?_
 . dsimp only;rw [List.getElem?_append_right (by omega)];simp;rfl
 . show _=_;rw [List.getElem?_append_left hid];exact hH
 rintro ⟨text,j⟩ H2 ⟨h200,g1,g2,g3,g4,g5,g6⟩;dsimp only at h200 g1 g2 g3 g4 g5 g6;dsimp only;have hgo:∀ b e H',A6 x.src x.pos m text j=A6 x.src x.pos m (text++[b]) e->j<e->e<=x.src.length->text.length+1<=200->H'[H.length]?=some (ltO id e)->ScH id x H'->Kp2 H.length id (H++[ltO id (x.pos+1)]) H'->∀ fr,KpL [0,2,4,5,6] fr [0,2,4,5,6] [(0,.ptr id 0),(2,.lbox (some 7) (.c T8)),(4,.c (bC m)),(5,.ptr H.length 0),(6,tW (text++[b]))]->(∃ s':List UInt8×Nat,KpL [0,2,4,5,6] fr [0,2,4,5,6] [(0,.ptr id 0),(2,.lbox (some 7) (.c T8)),(4,.c (bC m)),(5,.ptr H.length 0),(6,tW s'.1)]/\(s'.1.length<=200/\x.pos<s'.2/\s'.2<=x.src.length/\H'[H.length]?=some (ltO id s'.2)/\ScH id x H'/\Kp2 H.length id (H++[ltO id (x.pos+1)]) H'/\A6 x.src x.pos m s'.1 s'.2=A6 x.src x.pos m [] (x.pos+1))/\x.src.length - s'.2<x.src.length - j):=by
  intro b e H' h1 h2 h3 h4 h5 h6 h7 fr hk;exact ⟨(text++[b],e),hk,⟨by simpa using h4,by dsimp only;omega,h3,h5,h6,h7,by rw [<-h1];exact g6⟩,by dsimp only;omega⟩
 have hbad:∀ code p H',A6 x.src x.pos m text j=.bad code p->Bad H.length id (H++[ltO id (x.pos+1)]) x.src code p H'->∀ fr:WFr,fr.env 2=.lbox (some 7) (.c T8)->fr.env 3=.c (.bool false)->wX H.length [.cell 2 (some 7),.tmp 3] (vV (jK x.pos m (A6 x.src x.pos m [] (x.pos+1)))) (wY id H x.src (jK x.pos m (A6 x.src x.pos m [] (x.pos+1)))) fr H':=by
  intro code p H' h1 h2 fr h3 h4;rw [<-g6,h1];exact Z7 h3 h4 rfl (q43 h2)
 cases text with
 | nil=>
   refine ji4 hx g3 g4 g5 hne (by omega) g2 hl h200 hgo ?_ hbad;intro H' h1 h2 h3 h4 h5;have e9:A6 x.src x.pos m [] (x.pos+1)=.ok [] (j+1):=by rw [<-g6,h1]
   rw [e9];unfold tW;have hs4:H'[id]?=some (.var (some 8) (scC x)):=h4;rcases hm with rfl | rfl
   . repeat' first|apply j2|exact q7|exact j8 rfl|(apply j7;rfl;rfl)|(apply I9;rfl;rfl;omega)|(apply j9;rfl;rfl;rfl)|(apply jI;rfl)|(apply y9;rfl;(with_reducible rfl);rfl)|(apply y0;rfl;(with_reducible rfl);rfl)|(apply l6;rfl;rfl;rfl)|(apply C7;rfl;rfl)|(apply m6;rfl;rfl)|(apply s9;rfl;rfl)|(apply l5;rfl;rfl)|(apply u1;rfl;rfl;rfl;rfl;exact u4 (by first | exact rfl | assumption | exact j0 (by assumption)))|(apply t8;rfl;rfl;(assumption);rfl)|(apply b7 (hc:=⟨(qH hx h4 7 (by decide)).run⟩);rfl;rfl;(exact rfl);rfl;(exact q7);rintro H1 ⟨r1,k1⟩)|(apply w8;focus (repeat (first | exact q8 | (apply v6;rfl) | (apply F7;rfl) | (apply d6;rfl) | (apply y6;rfl))))|apply j1|apply j3|apply j4|apply v8|apply w9|apply o0|(apply g9;rfl;(with_reducible rfl))|(apply v7;rfl)|(apply x8;rfl;(with_reducible rfl))|(apply b9;rfl;(with_reducible rfl))|(apply y7;rfl)|(apply o6;(exact rfl))|(with_reducible (first|apply u7|apply g8);intro hc)|(apply f8;rfl)|(apply o8;rfl)|(apply kG)|(apply f9;rfl)
     any_goals (exfalso;contradiction)
     all_goals exact Z7 rfl rfl rfl ⟨r1,pF (h5.trans k1.two)⟩
   . have hb0:M3 ([]:List CV)=some []:=rfl;repeat' first|apply j2|exact q7|exact j8 rfl|(apply j7;rfl;rfl)|(apply I9;rfl;rfl;omega)|(apply pM;rfl;assumption)|(apply j9;rfl;rfl;rfl)|(apply jI;rfl)|(apply y9;rfl;(with_reducible rfl);rfl)|(apply y0;rfl;(with_reducible rfl);rfl)|(apply l6;rfl;rfl;rfl)|(apply C7;rfl;rfl)|(apply m6;rfl;rfl)|(apply s9;rfl;rfl)|(apply l5;rfl;rfl)|(apply u1;rfl;rfl;rfl;rfl;exact u4 (by first | exact rfl | assumption | exact j0 (by assumption)))|(apply t8;rfl;rfl;(assumption);rfl)|(apply b7 (hc:=⟨(mN (li:=H.length) (j:=j+1) hx h4 h3 hne (by omega) (by omega) hl).run⟩);rfl;rfl;(exact rfl);rfl;(exact j8 rfl);rintro H1 ⟨r1,k1⟩)|(apply w8;focus (repeat (first | exact q8 | (apply v6;rfl) | (apply F7;rfl) | (apply d6;rfl) | (apply y6;rfl))))|apply j1|apply j3|apply j4|apply v8|apply w9|apply o0|apply o7|(apply g9;rfl;(with_reducible rfl))|(apply v7;rfl)|(apply x8;rfl;(with_reducible rfl))|(apply b9;rfl;(with_reducible rfl))|(apply y7;rfl)|(apply o6;(exact rfl))|(with_reducible (first|apply u7|apply g8);intro hc)|(apply f8;rfl)|(apply o8;rfl)|(apply kG)|(apply f9;rfl)
     any_goals (exfalso;contradiction)
     all_goals exact Z7 rfl rfl rfl ⟨⟨_,k1.1,rfl⟩,pF (h5.trans k1.2.two)⟩
 | cons t0 tr=>
   refine q41 hx g3 g4 g5 hne (by omega) g2 hl h200 hgo ?_ hbad;intro H' h1 h2 h3 h4 h5;have e9:A6 x.src x.pos m [] (x.pos+1)=.ok (t0::tr) (j+1):=by rw [<-g6,h1]
   rw [e9];unfold tW;have hs4:H'[id]?=some (.var (some 8) (scC x)):=h4;have hb:=z13 (t0::tr);have ht0:(t0::tr)[0]?=some t0:=rfl;have ht1:=t0.toNat_lt;have hlen:¬ (((t0::tr).length:Nat):Int)=0:=by simp;omega
   rcases hm with rfl | rfl
   . repeat' first|apply j2|exact q7|exact j8 rfl|(apply j7;rfl;rfl)|(apply I9;rfl;rfl;omega)|(apply pM;rfl;assumption)|(apply j9;rfl;rfl;rfl)|(apply Z3;rfl)|(apply y9;rfl;(with_reducible rfl);rfl)|(apply y0;rfl;(with_reducible rfl);rfl)|(apply l6;rfl;rfl;rfl)|(apply P0;rfl;rfl;rfl)|(apply m6;rfl;rfl)|(apply s9;rfl;rfl)|(apply l5;rfl;rfl)|(apply u1;rfl;rfl;rfl;rfl;exact u4 (by first | exact rfl | assumption | exact j0 (by assumption)))|(apply R1;rfl;omega)|(apply t8;rfl;rfl;(assumption);rfl)|(apply zg8;rfl;rfl;rfl;assumption)|(apply zm7;rfl;rfl;rfl)|(apply b7 (hc:=⟨(mN (li:=H.length) (j:=j+1) hx h4 h3 hne (by omega) (by omega) hl).run⟩);rfl;rfl;(exact rfl);rfl;(exact j8 rfl);rintro H1 ⟨r1,k1⟩)|(apply w8;focus (repeat (first | exact q8 | (apply v6;rfl) | (apply D6;rfl;rfl) | (apply d6;rfl) | (apply y6;rfl))))|apply j1|apply j3|apply j4|apply v8|apply w9|apply o0|apply o7|(apply g9;rfl;(with_reducible rfl))|(apply v7;rfl)|(apply x8;rfl;(with_reducible rfl))|(apply b9;rfl;(with_reducible rfl))|(apply y7;rfl)|(apply o6;(exact rfl))|(with_reducible (first|apply u7|apply g8);intro hc)|(apply f8;rfl)|(apply o8;rfl)|(apply kG)|(apply f9;rfl)
     any_goals (exfalso;contradiction)
     all_goals exact Z7 rfl rfl rfl ⟨⟨_,k1.1,rfl⟩,pF (h5.trans k1.2.two)⟩
   . repeat' first|apply j2|exact q7|exact j8 rfl|(apply j7;rfl;rfl)|(apply I9;rfl;rfl;omega)|(apply pM;rfl;assumption)|(apply j9;rfl;rfl;rfl)|(apply Z3;rfl)|(apply y9;rfl;(with_reducible rfl);rfl)|(apply y0;rfl;(with_reducible rfl);rfl)|(apply l6;rfl;rfl;rfl)|(apply P0;rfl;rfl;rfl)|(apply m6;rfl;rfl)|(apply s9;rfl;rfl)|(apply l5;rfl;rfl)|(apply u1;rfl;rfl;rfl;rfl;exact u4 (by first | exact rfl | assumption | exact j0 (by assumption)))|(apply R1;rfl;omega)|(apply t8;rfl;rfl;(assumption);rfl)|(apply zg8;rfl;rfl;rfl;assumption)|(apply zm7;rfl;rfl;rfl)|(apply b7 (hc:=⟨(mN (li:=H.length) (j:=j+1) hx h4 h3 hne (by omega) (by omega) hl).run⟩);rfl;rfl;(exact rfl);rfl;(exact j8 rfl);rintro H1 ⟨r1,k1⟩)|(apply w8;focus (repeat (first | exact q8 | (apply v6;rfl) | (apply D6;rfl;rfl) | (apply d6;rfl) | (apply y6;rfl))))|apply j1|apply j3|apply j4|apply v8|apply w9|apply o0|apply o7|(apply g9;rfl;(with_reducible rfl))|(apply v7;rfl)|(apply x8;rfl;(with_reducible rfl))|(apply b9;rfl;(with_reducible rfl))|(apply y7;rfl)|(apply o6;(exact rfl))|(with_reducible (first|apply u7|apply g8);intro hc)|(apply f8;rfl)|(apply o8;rfl)|(apply kG)|(apply f9;rfl)
     any_goals (exfalso;contradiction)
     all_goals exact Z7 rfl rfl rfl ⟨⟨_,k1.1,rfl⟩,pF (h5.trans k1.2.two)⟩
end Go.Proofs.TryzL
namespace Go.Proofs.TryzL
open Go.Proofs.Lz
set_option maxHeartbeats 4000000
theorem lU (s p:List UInt8):Rets Vv 54 [.c (.str s),.c (.str p)] (.c (.bool (p.isPrefixOf s))):=by
 have h:=pJ (V:=Vv) (f:=54) (xs:=[.str s,.str p]) (u:=.bool (p.isPrefixOf s)) (g:=gY) rfl rfl (by simp [gY]);exact h
inductive KR where
 | bad (code at':Nat)
 | ok (e:Nat)
def cmtS (s:List UInt8) (i:Nat) (d:Int) (j:Nat):KR:=
 if h:s.length<=j then .bad 8 i
 else if [123,45].isPrefixOf (s.drop j) then cmtS s i (d+1) (j+2)
 else if [45,125].isPrefixOf (s.drop j) then (if d - 1=0 then .ok (j+2) else cmtS s i (d - 1) (j+2))
 else if N3 (s.getD j 0)=false then .bad 5 j else cmtS s i d (j+1)
termination_by s.length - j
def lK (s:List UInt8) (i:Nat):CV:=.agg [.int .i64 8,.str [],.int .i64 (plc s i).1,.int .i64 (plc s i).2]
theorem aC {a b:UInt8} {s:List UInt8} {j:Nat} (h:[a,b].isPrefixOf (s.drop j)=true):j+2<=s.length:=by
 have:=(List.isPrefixOf_iff_prefix.1 h).length_le;simp at this;omega
theorem qz0 {H H0:q9} {id i j:Nat} {d:Int} {s:List UInt8} {N:f4} {B:Hs} {R:RP} (hH:ScH id (j5 s j) H) (hk:KpH id H0 H) (hj:j<=s.length) (hl:s.length<2^30) (hd1:-(j:Int)<=d) (hd2:d<=j)
 (hgo:∀ (d':Int) (j':Nat) H',cmtS s i d j=cmtS s i d' j'->j<j'->j'<=s.length->-(j':Int)<=d'->d'<=j'->ScH id (j5 s j') H'->KpH id H0 H'->∀ fr,KpL [0,3,4] fr [0,3,4] [(0,.ptr id 0),(3,.lbox (some 4) (.c (lK s i))),(4,.c (.int .i64 d'))]->N fr H')
 (hok:∀ e H',cmtS s i d j=.ok e->e<=s.length->ScH id (j5 s e) H'->KpH id H0 H'->∀ fr:WFr,fr.env 2=.c (.bool true)->R.ret fr H')
 (hbad:∀ code p H',cmtS s i d j=.bad code p->(∃ y,ScH id y H'/\O6 s code p [] y)->KpH id H0 H'->∀ fr:WFr,fr.env 2=.c (.bool false)->R.ret fr H') :
 WP Vv z83 (FL [(0,.ptr id 0),(3,.lbox (some 4) (.c (lK s i))),(4,.c (.int .i64 d))] []) H N B R:=by
 have hH0:H[id]?=some (.var (some 8) (scC (j5 s j))):=hH;have hxj:j5 (j5 s j).src (j5 s j).pos=j5 s j:=rfl;have h1:=lU (s.drop j) [123,45];have h2:=lU (s.drop j) [45,125];have e:=cmtS.eq_1 s i d j;have hjp:(j5 s j).pos<=(j5 s j).src.length:=hj;have hl50:(j5 s j).src.length<2^50:=by show s.length<_;omega
 by_cases hjl:s.length<=j
 . rw [dif_pos hjl] at e;have hdr:s.drop j=[]:=List.drop_eq_nil_of_le hjl;repeat' first|apply j2|exact q7|exact j8 rfl|(apply j7;rfl;rfl)|(apply C5;rfl;rfl;rfl)|(apply j9;rfl;rfl;rfl)|(apply m6;rfl;rfl)|(apply s9;rfl;rfl)|(apply l5;rfl;rfl)|(apply W9;rfl;rfl;rfl;omega)|(apply t8;rfl;rfl;(assumption);rfl)|(apply Q6;rfl;rfl;rfl;rfl;(assumption);rfl;rfl;intro H1 hH1 kH1)|(apply w8;focus (repeat (first | exact q8 | (apply v6;rfl) | (apply d6;rfl) | (apply y6;rfl))))|apply j1|apply j3|apply j4|apply x3|apply w9|apply o0|apply o7|(apply v7;rfl)|(apply o6;(exact rfl))|(with_reducible (first|apply L1|apply L2);intro hc)|(apply f8;rfl)|(apply o8;rfl)|(apply Q7)|(apply f9;rfl)
   try any_goals (exfalso;contradiction)
   all_goals exact hbad 8 i _ e ⟨⟨s,j,(plc s j).1,(plc s j).2,8,[],(plc s i).1,(plc s i).2⟩,hH1,rfl,rfl,rfl,rfl⟩ (hk.trans kH1) _ rfl
 . rw [dif_neg hjl] at e;have hdr:s.drop j≠[]:=by simp;omega
   have h0:(s.drop j)[0]?=some (s.getD j 0):=by simp [List.getElem?_drop];rw [gEg (by omega)];rfl
   have h53:=rN (s.getD j 0);have hj1:(j5 s j).pos+1<=(j5 s j).src.length:=by show j+1<=s.length;omega
   cases hp1:[123,45].isPrefixOf (s.drop j) with
   | true=>
     have hj2:=aC hp1;have hpl:(j5 s j).pos+2<=(j5 s j).src.length:=hj2;rw [hp1] at h1 e;rw [if_pos rfl] at e;repeat' first|apply j2|exact q7|exact j8 rfl|(apply j7;rfl;rfl)|(apply C5;rfl;rfl;rfl)|(apply b6;rfl;rfl;omega)|(apply j9;rfl;rfl;rfl)|(apply m6;rfl;rfl)|(apply s9;rfl;rfl)|(apply l5;rfl;rfl)|(apply W9;rfl;rfl;rfl;omega)|(apply t8;rfl;rfl;(assumption);rfl)|(apply Q6;rfl;rfl;rfl;rfl;(assumption);rfl;rfl;intro H1 hH1 kH1)|(apply q6 (hc:=h1);rfl;rfl;rfl)|(apply b7 (hc:=⟨(adv (n:=2) hxj hH hpl hl50).run⟩);rfl;rfl;(exact rfl);rfl;(exact j8 rfl);rintro H1 ⟨r1,k1⟩)|(apply w8;focus (repeat (first | exact q8 | (apply v6;rfl) | (apply d6;rfl) | (apply y6;rfl))))|apply j1|apply j3|apply j4|apply x3|apply w9|apply o0|apply o7|(apply m5;rfl;(with_reducible rfl))|(apply v7;rfl)|(apply o6;(exact rfl))|(with_reducible (first|apply L1|apply L2);intro hc)|(apply f8;rfl)|(apply o8;rfl)|(apply Q7)|(apply f9;rfl)
     try any_goals (exfalso;contradiction)
     refine hgo (d+1) (j+2) _ e (by omega) (by omega) (by omega) (by omega) r1 (hk.trans k1) _ ?_;repeat' first|exact q8|refine d5 rfl ?_
   | false=>
     rw [hp1] at h1 e;rw [if_neg (by simp)] at e;cases hp2:[45,125].isPrefixOf (s.drop j) with
     | true=>
       have hj2:=aC hp2;have hpl:(j5 s j).pos+2<=(j5 s j).src.length:=hj2;rw [hp2] at h2 e;rw [if_pos rfl] at e;repeat' first|apply j2|exact q7|exact j8 rfl|(apply j7;rfl;rfl)|(apply C5;rfl;rfl;rfl)|(apply I9;rfl;rfl;omega)|(apply j9;rfl;rfl;rfl)|(apply m6;rfl;rfl)|(apply s9;rfl;rfl)|(apply l5;rfl;rfl)|(apply W9;rfl;rfl;rfl;omega)|(apply t8;rfl;rfl;(assumption);rfl)|(apply Q6;rfl;rfl;rfl;rfl;(assumption);rfl;rfl;intro H1 hH1 kH1)|(apply q6 (hc:=h1);rfl;rfl;rfl)|(apply q6 (hc:=h2);rfl;rfl;rfl)|(apply b7 (hc:=⟨(adv (n:=2) hxj hH hpl hl50).run⟩);rfl;rfl;(exact rfl);rfl;(exact j8 rfl);rintro H1 ⟨r1,k1⟩)|(apply w8;focus (repeat (first | exact q8 | (apply v6;rfl) | (apply d6;rfl) | (apply y6;rfl))))|apply j1|apply j3|apply j4|apply x3|apply v8|apply w9|apply o0|apply o7|(apply m5;rfl;(with_reducible rfl))|(apply g9;rfl;(with_reducible rfl))|(apply v7;rfl)|(apply o6;(exact rfl))|(with_reducible (first|apply u7|apply L1|apply g8|apply L2);intro hc)|(apply f8;rfl)|(apply o8;rfl)|(apply Q7)|(apply f9;rfl)
       try any_goals (exfalso;contradiction)
       . rw [if_pos hc] at e;exact hok (j+2) _ e (by omega) r1 (hk.trans k1) _ rfl
       . rw [if_neg hc] at e;refine hgo (d - 1) (j+2) _ e (by omega) (by omega) (by omega) (by omega) r1 (hk.trans k1) _ ?_;repeat' first|exact q8|refine d5 rfl ?_
     | false=>
       rw [hp2] at h2 e;rw [if_neg (by simp)] at e;cases hkn:N3 (s.getD j 0) with
       | true=>
         rw [hkn] at h53 e;repeat' first|apply j2|exact q7|exact j8 rfl|(apply j7;rfl;rfl)|(apply C5;rfl;rfl;rfl)|(apply j9;rfl;rfl;rfl)|(apply s6;rfl;rfl)|(apply x7;rfl;rfl;rfl;assumption)|(apply m6;rfl;rfl)|(apply s9;rfl;rfl)|(apply l5;rfl;rfl)|(apply W9;rfl;rfl;rfl;omega)|(apply t8;rfl;rfl;(assumption);rfl)|(apply Q6;rfl;rfl;rfl;rfl;(assumption);rfl;rfl;intro H1 hH1 kH1)|(apply q6 (hc:=h1);rfl;rfl;rfl)|(apply q6 (hc:=h2);rfl;rfl;rfl)|(apply q6 (hc:=h53);rfl;rfl;rfl)|(apply b7 (hc:=⟨(adv (n:=1) hxj hH hj1 hl50).run⟩);rfl;rfl;(exact rfl);rfl;(exact j8 rfl);rintro H1 ⟨r1,k1⟩)|(apply w8;focus (repeat (first | exact q8 | (apply v6;rfl) | (apply d6;rfl) | (apply y6;rfl))))|apply j1|apply j3|apply j4|apply x3|apply w9|apply o0|apply o7|(apply g9;rfl;(with_reducible rfl))|(apply v7;rfl)|(apply o6;(exact rfl))|(with_reducible first|exact C2|apply C3|apply s4|apply s5)|(with_reducible (first|apply L1|apply L2);intro hc)|(apply f8;rfl)|(apply o8;rfl)|(apply Q7)|(apply f9;rfl)
         try any_goals (exfalso;contradiction)
         rw [if_neg (by simp)] at e;refine hgo d (j+1) _ e (by omega) (by omega) (by omega) (by omega) r1 (hk.trans k1) _ ?_;repeat' first|exact q8|refine d5 rfl ?_
       | false=>
         rw [hkn] at h53 e;repeat' first|apply j2|exact q7|exact j8 rfl|(apply j7;rfl;rfl)|(apply C5;rfl;rfl;rfl)|(apply j9;rfl;rfl;rfl)|(apply s6;rfl;rfl)|(apply x7;rfl;rfl;rfl;assumption)|(apply m6;rfl;rfl)|(apply s9;rfl;rfl)|(apply l5;rfl;rfl)|(apply W9;rfl;rfl;rfl;omega)|(apply t8;rfl;rfl;(assumption);rfl)|(apply Q6;rfl;rfl;rfl;rfl;(assumption);rfl;rfl;intro H1 hH1 kH1)|(apply q6 (hc:=h1);rfl;rfl;rfl)|(apply q6 (hc:=h2);rfl;rfl;rfl)|(apply q6 (hc:=h53);rfl;rfl;rfl)|(apply b7 (hc:=⟨(qH hxj hH 5 (by decide)).run⟩);rfl;rfl;(exact rfl);rfl;(exact q7);rintro H1 ⟨r1,k1⟩)|(apply w8;focus (repeat (first | exact q8 | (apply v6;rfl) | (apply d6;rfl) | (apply y6;rfl))))|apply j1|apply j3|apply j4|apply x3|apply w9|apply o0|apply o7|(apply g9;rfl;(with_reducible rfl))|(apply v7;rfl)|(apply o6;(exact rfl))|(with_reducible first|exact G1|apply F9|apply s4|apply s5)|(with_reducible (first|apply L1|apply L2);intro hc)|(apply f8;rfl)|(apply o8;rfl)|(apply Q7)|(apply f9;rfl)
         try any_goals (exfalso;contradiction)
         rw [if_pos rfl] at e;exact hbad 5 j _ e r1 (hk.trans k1) _ rfl
def qC:KR->U
 | .bad code p=>.bad code p []
 | .ok e=>.skip e
def z34:U->Bool
 | .skip _=>true
 | _=>false
def okB (s:List UInt8):U->Sc->Prop
 | .skip e,x=>x=j5 s e
 | .bad code a nm,x=>O6 s code a nm x
 | .tok _ _ _ _ _,_=>False
def PostB (id:Nat) (H:q9) (s:List UInt8) (u:U):q9->Prop:=fun H'=>(∃ y,ScH id y H'/\okB s u y)/\KpH id H H'
theorem oO {H:q9} {id i:Nat} {s:List UInt8} (hH:ScH id (j5 s i) H) (hi:i<=s.length) (hl:s.length<2^30) :
 Shr Vv 55 [.ptr id 0] H (.c (.bool (z34 (qC (cmtS s i 0 i))))) (PostB id H s (qC (cmtS s i 0 i))):=by
 refine V7 ql3 ?_;have hH0:H[id]?=some (.var (some 8) (scC (j5 s i))):=hH;have hnb:∀ s,O3 (FL [] []) (some s)=true:=fun _=>rfl;repeat' first|apply j2|exact q7|exact j8 rfl|(apply j7;rfl;rfl)|(apply l6;rfl;rfl;rfl)|(apply m6;rfl;rfl)|(apply s9;rfl;rfl)|(apply l5;rfl;rfl)|(apply m8;rfl;rfl;first | exact c6 (by first | exact rfl | assumption | exact j0 (by assumption)) | exact m9 (by first | exact rfl | assumption | exact j0 (by assumption)))|(apply u1;rfl;rfl;rfl;rfl;exact u4 (by first | exact rfl | assumption | exact j0 (by assumption)))|(apply t8;rfl;rfl;(assumption);rfl)|apply j1|apply j3|apply j4|apply x3|apply o0|apply o7|(apply qk7;(exact rfl))|(apply o6;(exact rfl))|(apply f8;rfl)|(apply o8;rfl)|(apply P7;rfl)|(apply qy7)|(apply f9;rfl)
 refine kE (fun p:Int×Nat=>[(0,.ptr id 0),(3,.lbox (some 4) (.c (lK s i))),(4,.c (.int .i64 p.1))]) (fun p H'=>-(p.2:Int)<=p.1/\p.1<=p.2/\p.2<=s.length/\ScH id (j5 s p.2) H'/\KpH id H H'/\cmtS s i p.1 p.2=cmtS s i 0 i) (fun p=>s.length - p.2) (0,i) ?_ ⟨by dsimp only;omega,by dsimp only;omega,hi,hH,fun _ _ _ h=>h,rfl⟩ ?_
 . repeat' first|exact q8|refine d5 rfl ?_
 rintro ⟨d,j⟩ H2 ⟨g1,g2,g3,g4,g5,g6⟩;dsimp only at g1 g2 g3 g4 g5 g6;dsimp only;refine qz0 g4 g5 g3 hl g1 g2 ?_ ?_ ?_
 . intro d' j' H' h1 h2 h3 h4 h5 h6 h7 fr hk;exact ⟨(d',j'),hk,⟨h4,h5,h3,h6,h7,by rw [<-h1];exact g6⟩,by dsimp only;omega⟩
 . intro e H' h1 h2 h3 h4 fr h5;rw [<-g6,h1];exact L9 h5 rfl ⟨⟨_,h3,rfl⟩,h4⟩
 . intro code p H' h1 h2 h3 fr h5;rw [<-g6,h1];exact L9 h5 rfl ⟨h2,h3⟩
end Go.Proofs.TryzL
namespace Go.Proofs.TryzL
open Go.Proofs.Lz
set_option maxHeartbeats 4000000
def lineS (s:List UInt8) (j:Nat):KR:=
 if h:s.length<=j then .ok j
 else if s.getD j 0=10 then .ok j
 else if N3 (s.getD j 0)=false then .bad 5 j else lineS s (j+1)
termination_by s.length - j
def E3 (s:List UInt8) (i:Nat) (c:UInt8):Option U:=
 if c=32\/c=9\/c=10 then some (.skip (i+1))
 else if c=45/\K9 (x9 u6 s i)=true then some (qC (lineS s i))
 else if [123,45].isPrefixOf (s.drop i) then some (qC (cmtS s i 0 i)) else none
def je6:Option U->Bool
 | some u=>z34 u
 | none=>false
def zu0 (id:Nat) (H:q9) (s:List UInt8) (i:Nat):Option U->q9->Prop
 | some u=>PostB id H s u
 | none=>fun H'=>ScH id (j5 s i) H'/\KpH id H H'
theorem zt9 {H H0:q9} {id j:Nat} {s:List UInt8} {N K:f4} {B:Hs} {R:RP} (hH:ScH id (j5 s j) H) (hk:KpH id H0 H) (hj:j<=s.length) (hl:s.length<2^30)
 (hgo:∀ (j':Nat) H',lineS s j=lineS s j'->j<j'->j'<=s.length->ScH id (j5 s j') H'->KpH id H0 H'->∀ fr,KpL [0] fr [0] [(0,.ptr id 0)]->N fr H')
 (hok:lineS s j=.ok j->K (FL [] []) H)
 (hbad:∀ code p H',lineS s j=.bad code p->(∃ y,ScH id y H'/\O6 s code p [] y)->KpH id H0 H'->∀ fr:WFr,fr.env 2=.c (.bool false)->R.ret fr H') :
 WP Vv za5 (FL [(0,.ptr id 0)] []) H N ((1,K)::B) R:=by
 have hH0:H[id]?=some (.var (some 8) (scC (j5 s j))):=hH;have hxj:j5 (j5 s j).src (j5 s j).pos=j5 s j:=rfl;have e:=lineS.eq_1 s j;have hjp:(j5 s j).pos<=(j5 s j).src.length:=hj;have hl50:(j5 s j).src.length<2^50:=by show s.length<_;omega
 by_cases hjl:s.length<=j
 . rw [dif_pos hjl] at e;have hge:¬ (((j5 s j).pos:Int)<(j5 s j).src.length):=by show ¬ ((j:Int)<s.length);omega
   repeat' first|exact q7|exact j8 rfl|(apply j7;rfl;rfl)|(apply j9;rfl;rfl;rfl)|(apply u5;rfl)|(apply y9;rfl;(with_reducible rfl);rfl)|(apply y0;rfl;(with_reducible rfl);rfl)|(apply x7;rfl;rfl;rfl;exact gEg (by omega))|(apply m6;rfl;rfl)|(apply s9;rfl;rfl)|(apply l5;rfl;rfl)|(apply t8;rfl;rfl;(assumption);rfl)|(apply w8;focus (repeat (first | exact q8 | (apply d6;rfl))))|apply j1|apply x3|apply v8|apply l0|(apply T9;rfl)|apply o0|apply o7|(apply g9;rfl;(with_reducible rfl))|(apply v7;rfl)|(apply o6;(exact rfl))|(apply nV;rfl;(with_reducible rfl);(exact rfl))|(apply dA;rfl;(with_reducible rfl);(exact rfl);(exact j8 rfl);rfl)|(apply mB;rfl)|(with_reducible (first|apply f5|apply f6|apply x6|apply x5);intro hc)|(apply f8;rfl)|(apply o8;rfl)|(apply f9;rfl)
   try any_goals (exfalso;contradiction)
   all_goals exact hok e
 . rw [dif_neg hjl] at e;have hlt:(((j5 s j).pos:Int)<(j5 s j).src.length):=by show ((j:Int)<s.length);omega
   have h0:(j5 s j).src[(j5 s j).pos]?=some (s.getD j 0):=by show s[j]?=_;rw [gEg (by omega)];simp [List.getD,gEg (show j<s.length by omega)]
   have h53:=rN (s.getD j 0);have hj1:(j5 s j).pos+1<=(j5 s j).src.length:=by show j+1<=s.length;omega
   generalize hcc:s.getD j 0=c at *;by_cases h10:c=10
   . rw [if_pos h10] at e;subst h10;repeat' first|exact q7|exact j8 rfl|(apply j7;rfl;rfl)|(apply j9;rfl;rfl;rfl)|(apply u5;rfl)|(apply y9;rfl;(with_reducible rfl);rfl)|(apply y0;rfl;(with_reducible rfl);rfl)|(apply x7;rfl;rfl;rfl;assumption)|(apply m6;rfl;rfl)|(apply s9;rfl;rfl)|(apply l5;rfl;rfl)|(apply t8;rfl;rfl;(assumption);rfl)|(apply w8;focus (repeat (first | exact q8 | (apply d6;rfl))))|apply j1|apply x3|apply v8|apply l0|(apply T9;rfl)|apply o0|apply o7|(apply g9;rfl;(with_reducible rfl))|(apply v7;rfl)|(apply o6;(exact rfl))|(apply nV;rfl;(with_reducible rfl);(exact rfl))|(apply dA;rfl;(with_reducible rfl);(exact rfl);(exact j8 rfl);rfl)|(apply mB;rfl)|(with_reducible (first|apply f5|apply f6|apply x6|apply x5);intro hc)|(apply f8;rfl)|(apply o8;rfl)|(apply f9;rfl)
     try any_goals (exfalso;contradiction)
     all_goals first | (exfalso;simp_all;done) | exact hok e
   . rw [if_neg h10] at e;have h10':=R9 h10;cases hkn:N3 c with
     | true=>
       rw [hkn] at h53 e;rw [if_neg (by simp)] at e;repeat' first|apply j2|exact q7|exact j8 rfl|(apply j7;rfl;rfl)|(apply j9;rfl;rfl;rfl)|(apply u5;rfl)|(apply s6;rfl;rfl)|(apply y9;rfl;(with_reducible rfl);rfl)|(apply y0;rfl;(with_reducible rfl);rfl)|(apply x7;rfl;rfl;rfl;assumption)|(apply m6;rfl;rfl)|(apply s9;rfl;rfl)|(apply l5;rfl;rfl)|(apply t8;rfl;rfl;(assumption);rfl)|(apply b7 (hc:=⟨(adv (n:=1) hxj hH hj1 hl50).run⟩);rfl;rfl;(exact rfl);rfl;(exact j8 rfl);rintro H1 ⟨r1,k1⟩)|(apply w8;focus (repeat (first | exact q8 | (apply d6;rfl))))|apply j1|apply j3|apply j4|apply x3|apply v8|apply l0|(apply T9;rfl)|apply o0|apply o7|(apply g9;rfl;(with_reducible rfl))|(apply v7;rfl)|(apply o6;(exact rfl))|(apply nV;rfl;(with_reducible rfl);(exact rfl))|(apply dA;rfl;(with_reducible rfl);(exact rfl);(exact j8 rfl);rfl)|(apply mB;rfl)|(with_reducible first|exact C2|apply C3|apply s4|apply s5)|(with_reducible (first|apply f5|apply f6|apply x6|apply x5);intro hc)|(apply f8;rfl)|(apply o8;rfl)|(apply xI (hc:=h53);rfl;rfl;rfl)|(apply f9;rfl)
       try any_goals (exfalso;contradiction)
       refine hgo (j+1) _ e (by omega) (by omega) r1 (hk.trans k1) _ ?_;repeat' first|exact q8|refine d5 rfl ?_
     | false=>
       rw [hkn] at h53 e;rw [if_pos rfl] at e;repeat' first|apply j2|exact q7|exact j8 rfl|(apply j7;rfl;rfl)|(apply j9;rfl;rfl;rfl)|(apply u5;rfl)|(apply s6;rfl;rfl)|(apply y9;rfl;(with_reducible rfl);rfl)|(apply y0;rfl;(with_reducible rfl);rfl)|(apply x7;rfl;rfl;rfl;assumption)|(apply m6;rfl;rfl)|(apply s9;rfl;rfl)|(apply l5;rfl;rfl)|(apply t8;rfl;rfl;(assumption);rfl)|(apply b7 (hc:=⟨(qH hxj hH 5 (by decide)).run⟩);rfl;rfl;(exact rfl);rfl;(exact q7);rintro H1 ⟨r1,k1⟩)|(apply w8;focus (repeat (first | exact q8 | (apply d6;rfl))))|apply j1|apply j3|apply j4|apply x3|apply v8|apply w9|apply l0|(apply T9;rfl)|apply o0|apply o7|(apply g9;rfl;(with_reducible rfl))|(apply v7;rfl)|(apply o6;(exact rfl))|(apply nV;rfl;(with_reducible rfl);(exact rfl))|(apply dA;rfl;(with_reducible rfl);(exact rfl);(exact j8 rfl);rfl)|(apply mB;rfl)|(with_reducible first|exact G1|apply F9|apply s4|apply s5)|(with_reducible (first|apply f5|apply f6|apply x6|apply x5);intro hc)|(apply f8;rfl)|(apply o8;rfl)|(apply xI (hc:=h53);rfl;rfl;rfl)|(apply f9;rfl)
       try any_goals (exfalso;contradiction)
       exact hbad 5 j _ e r1 (hk.trans k1) _ rfl
end Go.Proofs.TryzL
namespace Go.Proofs.TryzL
open Go.Proofs.Lz
set_option maxHeartbeats 4000000
theorem qO {a b:UInt8} (h:a=b):((a.toNat:Int)=b.toNat):=by rw [h]
theorem zm8 {H:q9} {id i:Nat} {s:List UInt8} {c:UInt8} (hH:ScH id (j5 s i) H) (hc:s[i]?=some c) (hl:s.length<2^30) :
 Shr Vv 23 [.ptr id 0] H (.c (.bool (je6 (E3 s i c)))) (zu0 id H s i (E3 s i c)):=by
 refine V7 qj1 ?_;have hH0:H[id]?=some (.var (some 8) (scC (j5 s i))):=hH;have hxj:j5 (j5 s i).src (j5 s i).pos=j5 s i:=rfl;have hlt:i<s.length:=(gEs hc).1;have hjp:(j5 s i).pos<=(j5 s i).src.length:=by show i<=s.length;omega
 have hj1:(j5 s i).pos+1<=(j5 s i).src.length:=by show i+1<=s.length;omega
 have hl50:(j5 s i).src.length<2^50:=by show s.length<_;omega
 have hl60:(j5 s i).src.length<2^60:=by show s.length<_;omega
 have h0:(j5 s i).src[(j5 s i).pos]?=some c:=hc;have hsl:(x9 u6 s i).length<2^60:=by have:=Y2 (p:=u6) (s:=s) (i:=i) (by omega);omega
 have h52:=zf2 (x9 u6 s i) hsl;have h54:=lU (s.drop i) [123,45];have hb:∀ m:UInt8,(c=m)↔((c.toNat:Int)=m.toNat):=fun m=>⟨qO,fun h=>by rcases Decidable.em (c=m) with e | e;exact e;exact absurd h (R9 e)⟩;unfold E3;by_cases hbl:c=32\/c=9\/c=10
 . rw [if_pos hbl];have hbl':(c.toNat:Int)=32\/(c.toNat:Int)=9\/(c.toNat:Int)=10:=hbl.imp qO (fun h=>h.imp qO qO);repeat' first|apply j2|exact q7|exact j8 rfl|(apply j7;rfl;rfl)|(apply j9;rfl;rfl;rfl)|(apply y9;rfl;(with_reducible rfl);rfl)|(apply y0;rfl;(with_reducible rfl);rfl)|(apply x7;rfl;rfl;rfl;assumption)|(apply m6;rfl;rfl)|(apply s9;rfl;rfl)|(apply l5;rfl;rfl)|(apply W9;rfl;rfl;rfl;omega)|(apply t8;rfl;rfl;(assumption);rfl)|(apply b7 (hc:=⟨(adv (n:=1) hxj hH hj1 hl50).run⟩);rfl;rfl;(exact rfl);rfl;(exact j8 rfl);rintro H1 ⟨r1,k1⟩)|(apply w8;focus (repeat (first | exact q8 | (apply v6;rfl) | (apply d6;rfl))))|apply j1|apply j3|apply j4|apply x3|apply w9|apply o0|apply o7|(apply m5;rfl;(with_reducible rfl))|(apply g9;rfl;(with_reducible rfl))|(apply v7;rfl)|(apply x8;rfl;(with_reducible rfl))|(apply b9;rfl;(with_reducible rfl))|(apply l4;rfl;(with_reducible rfl))|(apply y7;rfl)|(apply o6;(exact rfl))|(with_reducible (first|apply u7|apply g8);intro hc)|(apply f8;rfl)|(apply o8;rfl)|(apply Q7)|(apply f9;rfl)
   try any_goals (exfalso;omega)
   all_goals exact L9 rfl rfl ⟨⟨_,r1,rfl⟩,k1⟩
 . rw [if_neg hbl];have n1:¬ ((c.toNat:Int)=32):=fun h=>hbl (.inl ((hb 32).2 h));have n2:¬ ((c.toNat:Int)=9):=fun h=>hbl (.inr (.inl ((hb 9).2 h)));have n3:¬ ((c.toNat:Int)=10):=fun h=>hbl (.inr (.inr ((hb 10).2 h)));by_cases hds:c=45/\K9 (x9 u6 s i)=true
   . rw [if_pos hds];obtain ⟨h45,hda⟩:=hds;have n4:((c.toNat:Int)=45):=qO h45;rw [hda] at h52;repeat' first|apply j2|exact q7|exact j8 rfl|(apply j7;rfl;rfl)|(apply j9;rfl;rfl;rfl)|(apply y9;rfl;(with_reducible rfl);rfl)|(apply y0;rfl;(with_reducible rfl);rfl)|(apply x7;rfl;rfl;rfl;assumption)|(apply m6;rfl;rfl)|(apply s9;rfl;rfl)|(apply l5;rfl;rfl)|(apply W9;rfl;rfl;rfl;omega)|(apply t8;rfl;rfl;(assumption);rfl)|(apply b7 (hc:=⟨(uB hH hjp hl60).run⟩);rfl;rfl;(exact rfl);rfl;(exact q7);rintro H1 ⟨r1,k1⟩)|(apply q6 (hc:=h52);rfl;rfl;rfl)|(apply w8;focus (repeat (first | exact q8 | (apply v6;rfl) | (apply d6;rfl))))|apply j1|apply j3|apply j4|apply x3|apply o0|apply o7|(apply m5;rfl;(with_reducible rfl))|(apply g9;rfl;(with_reducible rfl))|(apply v7;rfl)|(apply x8;rfl;(with_reducible rfl))|(apply b9;rfl;(with_reducible rfl))|(apply l4;rfl;(with_reducible rfl))|(apply y7;rfl)|(apply o6;(exact rfl))|(with_reducible (first|apply u7|apply g8);intro hc)|(apply f8;rfl)|(apply o8;rfl)|(apply Q7)|(apply f9;rfl)
     try any_goals (exfalso;omega)
     refine kE (fun p:Nat=>[(0,.ptr id 0)]) (fun p H'=>p<=s.length/\ScH id (j5 s p) H'/\KpH id H H'/\lineS s p=lineS s i) (fun p=>s.length - p) i ?_ ⟨by omega,r1,k1,rfl⟩ ?_
     . repeat' first|exact q8|refine d5 rfl ?_
     rintro j H2 ⟨g1,g2,g3,g4⟩;refine zt9 g2 g3 g1 hl ?_ ?_ ?_
     . intro j' H' h1 h2 h3 h4 h5 fr hk;exact ⟨j',hk,⟨h3,h4,h5,by rw [<-h1];exact g4⟩,by omega⟩
     . intro h1;rw [<-g4,h1];repeat' first|apply j2|exact q7|(apply j7;rfl;rfl)|apply j1|apply j3|apply j4|apply w9
       exact L9 rfl rfl ⟨⟨_,g2,rfl⟩,g3⟩
     . intro code p H' h1 h2 h3 fr h5;rw [<-g4,h1];exact L9 h5 rfl ⟨h2,h3⟩
   . rw [if_neg hds];by_cases h45:c=45
     . have n4:((c.toNat:Int)=45):=qO h45;have hda:K9 (x9 u6 s i)=false:=by simpa using fun h=>hds ⟨h45,h⟩
       rw [hda] at h52;cases hp:[123,45].isPrefixOf (s.drop i) with
       | true=>
         rw [hp] at h54;repeat' first|apply j2|exact q7|exact j8 rfl|(apply j7;rfl;rfl)|(apply j9;rfl;rfl;rfl)|(apply y9;rfl;(with_reducible rfl);rfl)|(apply y0;rfl;(with_reducible rfl);rfl)|(apply x7;rfl;rfl;rfl;assumption)|(apply m6;rfl;rfl)|(apply s9;rfl;rfl)|(apply l5;rfl;rfl)|(apply W9;rfl;rfl;rfl;omega)|(apply t8;rfl;rfl;(assumption);rfl)|(apply b7 (hc:=⟨(uB hH hjp hl60).run⟩);rfl;rfl;(exact rfl);rfl;(exact q7);rintro H1 ⟨r1,k1⟩)|(apply q6 (hc:=h52);rfl;rfl;rfl)|(apply b7 (hc:=⟨(oO r1 (by omega) hl).run⟩);rfl;rfl;(exact rfl);rfl;(exact q7);rintro H1 ⟨r1,k1⟩)|(apply w8;focus (repeat (first | exact q8 | (apply v6;rfl) | (apply d6;rfl))))|apply j1|apply j3|apply j4|apply x3|apply w9|apply o0|apply o7|(apply m5;rfl;(with_reducible rfl))|(apply g9;rfl;(with_reducible rfl))|(apply v7;rfl)|(apply x8;rfl;(with_reducible rfl))|(apply b9;rfl;(with_reducible rfl))|(apply l4;rfl;(with_reducible rfl))|(apply y7;rfl)|(apply o6;(exact rfl))|(with_reducible (first|apply u7|apply g8);intro hc)|(apply f8;rfl)|(apply o8;rfl)|(apply Q7)|(apply xI (hc:=h54);rfl;rfl;rfl)|(apply f9;rfl)
         try any_goals (exfalso;omega)
         all_goals (rw [if_pos rfl];exact L9 rfl rfl ⟨r1,by repeat (first | assumption | refine KpH.trans ?_ (by assumption))⟩)
       | false=>
         rw [hp] at h54;repeat' first|apply j2|exact q7|exact j8 rfl|(apply j7;rfl;rfl)|(apply j9;rfl;rfl;rfl)|(apply y9;rfl;(with_reducible rfl);rfl)|(apply y0;rfl;(with_reducible rfl);rfl)|(apply x7;rfl;rfl;rfl;assumption)|(apply m6;rfl;rfl)|(apply s9;rfl;rfl)|(apply l5;rfl;rfl)|(apply W9;rfl;rfl;rfl;omega)|(apply t8;rfl;rfl;(assumption);rfl)|(apply b7 (hc:=⟨(uB hH hjp hl60).run⟩);rfl;rfl;(exact rfl);rfl;(exact q7);rintro H1 ⟨r1,k1⟩)|(apply q6 (hc:=h52);rfl;rfl;rfl)|(apply w8;focus (repeat (first | exact q8 | (apply v6;rfl) | (apply d6;rfl))))|apply j1|apply j3|apply j4|apply x3|apply v8|apply w9|apply o0|apply o7|(apply m5;rfl;(with_reducible rfl))|(apply g9;rfl;(with_reducible rfl))|(apply v7;rfl)|(apply x8;rfl;(with_reducible rfl))|(apply b9;rfl;(with_reducible rfl))|(apply l4;rfl;(with_reducible rfl))|(apply y7;rfl)|(apply o6;(exact rfl))|(with_reducible (first|apply u7|apply g8);intro hc)|(apply f8;rfl)|(apply o8;rfl)|(apply Q7)|(apply xI (hc:=h54);rfl;rfl;rfl)|(apply f9;rfl)
         try any_goals (exfalso;omega)
         all_goals (rw [if_neg (by simp)];exact L9 rfl rfl ⟨r1,k1⟩)
     . have n4:¬ ((c.toNat:Int)=45):=fun h=>h45 ((hb 45).2 h);cases hp:[123,45].isPrefixOf (s.drop i) with
       | true=>
         rw [hp] at h54;repeat' first|apply j2|exact q7|exact j8 rfl|(apply j7;rfl;rfl)|(apply j9;rfl;rfl;rfl)|(apply y9;rfl;(with_reducible rfl);rfl)|(apply y0;rfl;(with_reducible rfl);rfl)|(apply x7;rfl;rfl;rfl;assumption)|(apply m6;rfl;rfl)|(apply s9;rfl;rfl)|(apply l5;rfl;rfl)|(apply W9;rfl;rfl;rfl;omega)|(apply t8;rfl;rfl;(assumption);rfl)|(apply b7 (hc:=⟨(oO hH (by omega) hl).run⟩);rfl;rfl;(exact rfl);rfl;(exact q7);rintro H1 ⟨r1,k1⟩)|(apply w8;focus (repeat (first | exact q8 | (apply v6;rfl) | (apply d6;rfl))))|apply j1|apply j3|apply j4|apply x3|apply w9|apply o0|apply o7|(apply m5;rfl;(with_reducible rfl))|(apply g9;rfl;(with_reducible rfl))|(apply v7;rfl)|(apply x8;rfl;(with_reducible rfl))|(apply b9;rfl;(with_reducible rfl))|(apply l4;rfl;(with_reducible rfl))|(apply y7;rfl)|(apply o6;(exact rfl))|(with_reducible (first|apply u7|apply g8);intro hc)|(apply f8;rfl)|(apply o8;rfl)|(apply Q7)|(apply xI (hc:=h54);rfl;rfl;rfl)|(apply f9;rfl)
         try any_goals (exfalso;omega)
         all_goals (rw [if_pos rfl];exact L9 rfl rfl ⟨r1,k1⟩)
       | false=>
         rw [hp] at h54;repeat' first|apply j2|exact q7|exact j8 rfl|(apply j7;rfl;rfl)|(apply j9;rfl;rfl;rfl)|(apply y9;rfl;(with_reducible rfl);rfl)|(apply y0;rfl;(with_reducible rfl);rfl)|(apply x7;rfl;rfl;rfl;assumption)|(apply m6;rfl;rfl)|(apply s9;rfl;rfl)|(apply l5;rfl;rfl)|(apply W9;rfl;rfl;rfl;omega)|(apply t8;rfl;rfl;(assumption);rfl)|(apply w8;focus (repeat (first | exact q8 | (apply v6;rfl) | (apply d6;rfl))))|apply j1|apply j3|apply j4|apply x3|apply v8|apply w9|apply o0|apply o7|(apply m5;rfl;(with_reducible rfl))|(apply g9;rfl;(with_reducible rfl))|(apply v7;rfl)|(apply x8;rfl;(with_reducible rfl))|(apply b9;rfl;(with_reducible rfl))|(apply l4;rfl;(with_reducible rfl))|(apply y7;rfl)|(apply o6;(exact rfl))|(with_reducible (first|apply u7|apply g8);intro hc)|(apply f8;rfl)|(apply o8;rfl)|(apply Q7)|(apply xI (hc:=h54);rfl;rfl;rfl)|(apply f9;rfl)
         try any_goals (exfalso;omega)
         all_goals (rw [if_neg (by simp)];exact L9 rfl rfl ⟨hH,fun _ _ _ h=>h⟩)
end Go.Proofs.TryzL
