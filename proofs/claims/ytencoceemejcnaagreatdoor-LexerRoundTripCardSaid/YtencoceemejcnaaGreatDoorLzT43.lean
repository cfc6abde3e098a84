/- Chapter 02: blanks and comments: the function. -/
import Derived.Test.YtencoceemejcnaaGreatDoorLzVc7
import Derived.Test.YtencoceemejcnaaGreatDoorLzT40
set_option linter.unusedSimpArgs false
set_option linter.unusedVariables false
namespace Go.Proofs.TryzL
open Go.Proofs.Lz
set_option maxHeartbeats 4000000
theorem qq8 (s p:List UInt8):Rets Vv 54 [.c (.str s),.c (.str p)] (.c (.bool (p.isPrefixOf s))):=by
 have h:=zn3 (V:=Vv) (f:=54) (xs:=[.str s,.str p]) (u:=.bool (p.isPrefixOf s)) (g:=hpfG) rfl rfl (by simp [hpfG])
 exact h
inductive KR where
 | bad (code at':Nat)
 | ok (e:Nat)
def cmtS (s:List UInt8) (i:Nat) (d:Int) (j:Nat):KR:=
 if h:s.length≤j then .bad 8 i
 else if [123,45].isPrefixOf (s.drop j) then cmtS s i (d+1) (j+2)
 else if [45,125].isPrefixOf (s.drop j) then (if d - 1=0 then .ok (j+2) else cmtS s i (d - 1) (j+2))
 else if q34 (s.getD j 0)=false then .bad 5 j else cmtS s i d (j+1)
termination_by s.length - j
def begC (s:List UInt8) (i:Nat):CV:=.agg [.int .i64 8,.str [],.int .i64 (plc s i).1,.int .i64 (plc s i).2]
theorem j48 {a b:UInt8} {s:List UInt8} {j:Nat} (h:[a,b].isPrefixOf (s.drop j)=true):j+2≤s.length:=by
 have:=(List.isPrefixOf_iff_prefix.1 h).length_le
 simp at this
 omega
theorem w48 {H H0:z18} {id i j:Nat} {d:Int} {s:List UInt8} {N:Post} {B:Hs} {R:RP} (hH:ScH id (scAt s j) H) (hk:KpH id H0 H) (hj:j≤s.length) (hl:s.length<2^30) (hd1:-(j:Int)≤d) (hd2:d≤j)
 (hgo:∀ (d':Int) (j':Nat) H',cmtS s i d j=cmtS s i d' j'→j<j'→j'≤s.length→-(j':Int)≤d'→d'≤j'→ScH id (scAt s j') H'→KpH id H0 H'→∀ fr,KpL [0,3,4] fr [0,3,4] [(0,.ptr id 0),(3,.lbox (some 4) (.c (begC s i))),(4,.c (.int .i64 d'))]→N fr H')
 (hok:∀ e H',cmtS s i d j=.ok e→e≤s.length→ScH id (scAt s e) H'→KpH id H0 H'→∀ fr:WFr,fr.env 2=.c (.bool true)→R.ret fr H')
 (hbad:∀ code p H',cmtS s i d j=.bad code p→(∃ y,ScH id y H'∧zf1 s code p [] y)→KpH id H0 H'→∀ fr:WFr,fr.env 2=.c (.bool false)→R.ret fr H') :
 WP Vv we7 (FL [(0,.ptr id 0),(3,.lbox (some 4) (.c (begC s i))),(4,.c (.int .i64 d))] []) H N B R:=by
 have hH0:H[id]?=some (.var (some 8) (scC (scAt s j))):=hH
 have hxj:scAt (scAt s j).src (scAt s j).pos=scAt s j:=rfl
 have h1:=qq8 (s.drop j) [123,45]
 have h2:=qq8 (s.drop j) [45,125]
 have e:=cmtS.eq_1 s i d j
 have hjp:(scAt s j).pos≤(scAt s j).src.length:=hj
 have hl50:(scAt s j).src.length<2^50:=by show s.length<_;omega
 by_cases hjl:s.length≤j
 · rw [dif_pos hjl] at e
   have hdr:s.drop j=[]:=List.drop_eq_nil_of_le hjl
   repeat' first
    | apply z01
    | exact z13
    | exact z19 rfl
    | (apply z15;rfl;rfl)
    | (apply z45;(iterate 3 rfl))
    | (apply z30;(iterate 3 rfl))
    | (apply z24;rfl;rfl)
    | (apply z14;rfl;rfl)
    | (apply z29;rfl;rfl)
    | (apply za5;(iterate 3 rfl);omega)
    | (apply z22;rfl;rfl;(assumption);rfl)
    | (apply za8;(iterate 4 rfl);(assumption);rfl;rfl;intro H1 hH1 kH1)
    | (apply z04;focus (repeat (first | exact z23 | (apply kq_c;rfl) | (apply z50;rfl) | (apply z38;rfl))))
    | apply z02
    | apply z00
    | apply z03
    | apply z05
    | apply z09
    | apply z25
    | apply z54
    | (apply z12;rfl)
    | (apply z62;(exact rfl))
    | (with_reducible apply zh3;intro hc)
    | (with_reducible apply zb2;intro hc)
    | (apply z48;rfl)
    | (apply z55;rfl)
    | (apply zi6)
    | (apply dand;rfl)
   try any_goals (exfalso;contradiction)
   all_goals exact hbad 8 i _ e ⟨⟨s,j,(plc s j).1,(plc s j).2,8,[],(plc s i).1,(plc s i).2⟩,hH1,rfl,rfl,rfl,rfl⟩ (hk.trans kH1) _ rfl
 · rw [dif_neg hjl] at e
   have hdr:s.drop j≠[]:=by simp;omega
   have h0:(s.drop j)[0]?=some (s.getD j 0):=by simp [List.getElem?_drop];rw [List.getElem?_eq_getElem (by omega)];rfl
   have h53:=j60 (s.getD j 0)
   have hj1:(scAt s j).pos+1≤(scAt s j).src.length:=by show j+1≤s.length;omega
   cases hp1:[123,45].isPrefixOf (s.drop j) with
   | true=>
     have hj2:=j48 hp1
     have hpl:(scAt s j).pos+2≤(scAt s j).src.length:=hj2
     rw [hp1] at h1 e
     rw [if_pos rfl] at e
     repeat' first
      | apply z01
      | exact z13
      | exact z19 rfl
      | (apply z15;rfl;rfl)
      | (apply z45;(iterate 3 rfl))
      | (apply z99;rfl;rfl;omega)
      | (apply z30;(iterate 3 rfl))
      | (apply z24;rfl;rfl)
      | (apply z14;rfl;rfl)
      | (apply z29;rfl;rfl)
      | (apply za5;(iterate 3 rfl);omega)
      | (apply z22;rfl;rfl;(assumption);rfl)
      | (apply za8;(iterate 4 rfl);(assumption);rfl;rfl;intro H1 hH1 kH1)
      | (apply z08 (hc:=h1);rfl;rfl;rfl)
      | (apply z27 (hc:=⟨(adv (n:=2) hxj hH hpl hl50).run⟩);rfl;rfl;(exact rfl);rfl;(exact z19 rfl);rintro H1 ⟨r1,k1⟩)
      | (apply z04;focus (repeat (first | exact z23 | (apply kq_c;rfl) | (apply z50;rfl) | (apply z38;rfl))))
      | apply z02
      | apply z00
      | apply z03
      | apply z05
      | apply z09
      | apply z25
      | apply z54
      | (apply z35;rfl;(with_reducible rfl))
      | (apply z12;rfl)
      | (apply z62;(exact rfl))
      | (with_reducible apply zh3;intro hc)
      | (with_reducible apply zb2;intro hc)
      | (apply z48;rfl)
      | (apply z55;rfl)
      | (apply zi6)
      | (apply dand;rfl)
     try any_goals (exfalso;contradiction)
     refine hgo (d+1) (j+2) _ e (by omega) (by omega) (by omega) (by omega) r1 (hk.trans k1) _ ?_
     repeat' first
      | exact z23
      | refine z64 rfl ?_
   | false=>
     rw [hp1] at h1 e
     rw [if_neg (by simp)] at e
     cases hp2:[45,125].isPrefixOf (s.drop j) with
     | true=>
       have hj2:=j48 hp2
       have hpl:(scAt s j).pos+2≤(scAt s j).src.length:=hj2
       rw [hp2] at h2 e
       rw [if_pos rfl] at e
       repeat' first
        | apply z01
        | exact z13
        | exact z19 rfl
        | (apply z15;rfl;rfl)
        | (apply z45;(iterate 3 rfl))
        | (apply zp2;rfl;rfl;omega)
        | (apply z30;(iterate 3 rfl))
        | (apply z24;rfl;rfl)
        | (apply z14;rfl;rfl)
        | (apply z29;rfl;rfl)
        | (apply za5;(iterate 3 rfl);omega)
        | (apply z22;rfl;rfl;(assumption);rfl)
        | (apply za8;(iterate 4 rfl);(assumption);rfl;rfl;intro H1 hH1 kH1)
        | (apply z08 (hc:=h1);rfl;rfl;rfl)
        | (apply z08 (hc:=h2);rfl;rfl;rfl)
        | (apply z27 (hc:=⟨(adv (n:=2) hxj hH hpl hl50).run⟩);rfl;rfl;(exact rfl);rfl;(exact z19 rfl);rintro H1 ⟨r1,k1⟩)
        | (apply z04;focus (repeat (first | exact z23 | (apply kq_c;rfl) | (apply z50;rfl) | (apply z38;rfl))))
        | apply z02
        | apply z00
        | apply z03
        | apply z05
        | apply z07
        | apply z09
        | apply z25
        | apply z54
        | (apply z35;rfl;(with_reducible rfl))
        | (apply z32;rfl;(with_reducible rfl))
        | (apply z12;rfl)
        | (apply z62;(exact rfl))
        | (with_reducible apply za1;intro hc)
        | (with_reducible apply zh3;intro hc)
        | (with_reducible apply z71;intro hc)
        | (with_reducible apply zb2;intro hc)
        | (apply z48;rfl)
        | (apply z55;rfl)
        | (apply zi6)
        | (apply dand;rfl)
       try any_goals (exfalso;contradiction)
       · rw [if_pos hc] at e
         exact hok (j+2) _ e (by omega) r1 (hk.trans k1) _ rfl
       · rw [if_neg hc] at e
         refine hgo (d - 1) (j+2) _ e (by omega) (by omega) (by omega) (by omega) r1 (hk.trans k1) _ ?_
         repeat' first
          | exact z23
          | refine z64 rfl ?_
     | false=>
       rw [hp2] at h2 e
       rw [if_neg (by simp)] at e
       cases hkn:q34 (s.getD j 0) with
       | true=>
         rw [hkn] at h53 e
         repeat' first
          | apply z01
          | exact z13
          | exact z19 rfl
          | (apply z15;rfl;rfl)
          | (apply z45;(iterate 3 rfl))
          | (apply z30;(iterate 3 rfl))
          | (apply z84;rfl;rfl)
          | (apply z68;(iterate 3 rfl);assumption)
          | (apply z24;rfl;rfl)
          | (apply z14;rfl;rfl)
          | (apply z29;rfl;rfl)
          | (apply za5;(iterate 3 rfl);omega)
          | (apply z22;rfl;rfl;(assumption);rfl)
          | (apply za8;(iterate 4 rfl);(assumption);rfl;rfl;intro H1 hH1 kH1)
          | (apply z08 (hc:=h1);rfl;rfl;rfl)
          | (apply z08 (hc:=h2);rfl;rfl;rfl)
          | (apply z08 (hc:=h53);rfl;rfl;rfl)
          | (apply z27 (hc:=⟨(adv (n:=1) hxj hH hj1 hl50).run⟩);rfl;rfl;(exact rfl);rfl;(exact z19 rfl);rintro H1 ⟨r1,k1⟩)
          | (apply z04;focus (repeat (first | exact z23 | (apply kq_c;rfl) | (apply z50;rfl) | (apply z38;rfl))))
          | apply z02
          | apply z00
          | apply z03
          | apply z05
          | apply z09
          | apply z25
          | apply z54
          | (apply z32;rfl;(with_reducible rfl))
          | (apply z12;rfl)
          | (apply z62;(exact rfl))
          | with_reducible exact zb5
          | with_reducible apply zb4
          | with_reducible apply z57
          | with_reducible apply z58
          | (with_reducible apply zh3;intro hc)
          | (with_reducible apply zb2;intro hc)
          | (apply z48;rfl)
          | (apply z55;rfl)
          | (apply zi6)
          | (apply dand;rfl)
         try any_goals (exfalso;contradiction)
         rw [if_neg (by simp)] at e
         refine hgo d (j+1) _ e (by omega) (by omega) (by omega) (by omega) r1 (hk.trans k1) _ ?_
         repeat' first
          | exact z23
          | refine z64 rfl ?_
       | false=>
         rw [hkn] at h53 e
         repeat' first
          | apply z01
          | exact z13
          | exact z19 rfl
          | (apply z15;rfl;rfl)
          | (apply z45;(iterate 3 rfl))
          | (apply z30;(iterate 3 rfl))
          | (apply z84;rfl;rfl)
          | (apply z68;(iterate 3 rfl);assumption)
          | (apply z24;rfl;rfl)
          | (apply z14;rfl;rfl)
          | (apply z29;rfl;rfl)
          | (apply za5;(iterate 3 rfl);omega)
          | (apply z22;rfl;rfl;(assumption);rfl)
          | (apply za8;(iterate 4 rfl);(assumption);rfl;rfl;intro H1 hH1 kH1)
          | (apply z08 (hc:=h1);rfl;rfl;rfl)
          | (apply z08 (hc:=h2);rfl;rfl;rfl)
          | (apply z08 (hc:=h53);rfl;rfl;rfl)
          | (apply z27 (hc:=⟨(qi6 hxj hH 5 (by decide)).run⟩);rfl;rfl;(exact rfl);rfl;(exact z13);rintro H1 ⟨r1,k1⟩)
          | (apply z04;focus (repeat (first | exact z23 | (apply kq_c;rfl) | (apply z50;rfl) | (apply z38;rfl))))
          | apply z02
          | apply z00
          | apply z03
          | apply z05
          | apply z09
          | apply z25
          | apply z54
          | (apply z32;rfl;(with_reducible rfl))
          | (apply z12;rfl)
          | (apply z62;(exact rfl))
          | with_reducible exact ze7
          | with_reducible apply ze2
          | with_reducible apply z57
          | with_reducible apply z58
          | (with_reducible apply zh3;intro hc)
          | (with_reducible apply zb2;intro hc)
          | (apply z48;rfl)
          | (apply z55;rfl)
          | (apply zi6)
          | (apply dand;rfl)
         try any_goals (exfalso;contradiction)
         rw [if_pos rfl] at e
         exact hbad 5 j _ e r1 (hk.trans k1) _ rfl
def cmtU:KR→U
 | .bad code p=>.bad code p []
 | .ok e=>.skip e
def resB:U→Bool
 | .skip _=>true
 | _=>false
def okB (s:List UInt8):U→Sc→Prop
 | .skip e,x=>x=scAt s e
 | .bad code a nm,x=>zf1 s code a nm x
 | .tok _ _ _ _ _,_=>False
def PostB (id:Nat) (H:z18) (s:List UInt8) (u:U):z18→Prop:=fun H'=>(∃ y,ScH id y H'∧okB s u y)∧KpH id H H'
theorem j81 {H:z18} {id i:Nat} {s:List UInt8} (hH:ScH id (scAt s i) H) (hi:i≤s.length) (hl:s.length<2^30) :
 Shr Vv 55 [.ptr id 0] H (.c (.bool (resB (cmtU (cmtS s i 0 i))))) (PostB id H s (cmtU (cmtS s i 0 i))):=by
 refine zh9 v95 ?_
 have hH0:H[id]?=some (.var (some 8) (scC (scAt s i))):=hH
 have hnb:∀ s,zk4 (FL [] []) (some s)=true:=fun _=>rfl
 repeat' first
  | apply z01
  | exact z13
  | exact z19 rfl
  | (apply z15;rfl;rfl)
  | (apply z78;(iterate 3 rfl))
  | (apply z24;rfl;rfl)
  | (apply z14;rfl;rfl)
  | (apply z29;rfl;rfl)
  | (apply z88;rfl;rfl;first | exact z65 (by first | exact rfl | assumption | exact z06 (by assumption)) | exact z73 (by first | exact rfl | assumption | exact z06 (by assumption)))
  | (apply z28;(iterate 4 rfl);exact z34 (by first | exact rfl | assumption | exact z06 (by assumption)))
  | (apply z22;rfl;rfl;(assumption);rfl)
  | apply z02
  | apply z00
  | apply z03
  | apply z05
  | apply z25
  | apply z54
  | (apply wq4;(exact rfl))
  | (apply z62;(exact rfl))
  | (apply z48;rfl)
  | (apply z55;rfl)
  | (apply zd7;rfl)
  | (apply qo0)
  | (apply dand;rfl)
 refine zk7 (fun p:Int×Nat=>[(0,.ptr id 0),(3,.lbox (some 4) (.c (begC s i))),(4,.c (.int .i64 p.1))]) (fun p H'=>-(p.2:Int)≤p.1∧p.1≤p.2∧p.2≤s.length∧ScH id (scAt s p.2) H'∧KpH id H H'∧cmtS s i p.1 p.2=cmtS s i 0 i) (fun p=>s.length - p.2) (0,i) ?_ ⟨by dsimp only;omega,by dsimp only;omega,hi,hH,fun _ _ _ h=>h,rfl⟩ ?_
 · repeat' first
    | exact z23
    | refine z64 rfl ?_
 rintro ⟨d,j⟩ H2 ⟨g1,g2,g3,g4,g5,g6⟩
 dsimp only at g1 g2 g3 g4 g5 g6
 dsimp only
 refine w48 g4 g5 g3 hl g1 g2 ?_ ?_ ?_
 · intro d' j' H' h1 h2 h3 h4 h5 h6 h7 fr hk
   exact ⟨(d',j'),hk,⟨h4,h5,h3,h6,h7,by rw [← h1];exact g6⟩,by dsimp only;omega⟩
 · intro e H' h1 h2 h3 h4 fr h5
   rw [← g6,h1]
   exact zk0 h5 rfl ⟨⟨_,h3,rfl⟩,h4⟩
 · intro code p H' h1 h2 h3 fr h5
   rw [← g6,h1]
   exact zk0 h5 rfl ⟨h2,h3⟩
end Go.Proofs.TryzL
namespace Go.Proofs.TryzL
open Go.Proofs.Lz
set_option maxHeartbeats 4000000
def lineS (s:List UInt8) (j:Nat):KR:=
 if h:s.length≤j then .ok j
 else if s.getD j 0=10 then .ok j
 else if q34 (s.getD j 0)=false then .bad 5 j else lineS s (j+1)
termination_by s.length - j
def za9 (s:List UInt8) (i:Nat) (c:UInt8):Option U:=
 if c=32∨c=9∨c=10 then some (.skip (i+1))
 else if c=45∧qi3 (z87 symB s i)=true then some (cmtU (lineS s i))
 else if [123,45].isPrefixOf (s.drop i) then some (cmtU (cmtS s i 0 i)) else none
def resO:Option U→Bool
 | some u=>resB u
 | none=>false
def v34 (id:Nat) (H:z18) (s:List UInt8) (i:Nat):Option U→z18→Prop
 | some u=>PostB id H s u
 | none=>fun H'=>ScH id (scAt s i) H'∧KpH id H H'
theorem jn4 {H H0:z18} {id j:Nat} {s:List UInt8} {N K:Post} {B:Hs} {R:RP} (hH:ScH id (scAt s j) H) (hk:KpH id H0 H) (hj:j≤s.length) (hl:s.length<2^30)
 (hgo:∀ (j':Nat) H',lineS s j=lineS s j'→j<j'→j'≤s.length→ScH id (scAt s j') H'→KpH id H0 H'→∀ fr,KpL [0] fr [0] [(0,.ptr id 0)]→N fr H')
 (hok:lineS s j=.ok j→K (FL [] []) H)
 (hbad:∀ code p H',lineS s j=.bad code p→(∃ y,ScH id y H'∧zf1 s code p [] y)→KpH id H0 H'→∀ fr:WFr,fr.env 2=.c (.bool false)→R.ret fr H') :
 WP Vv wc9 (FL [(0,.ptr id 0)] []) H N ((1,K)::B) R:=by
 have hH0:H[id]?=some (.var (some 8) (scC (scAt s j))):=hH
 have hxj:scAt (scAt s j).src (scAt s j).pos=scAt s j:=rfl
 have e:=lineS.eq_1 s j
 have hjp:(scAt s j).pos≤(scAt s j).src.length:=hj
 have hl50:(scAt s j).src.length<2^50:=by show s.length<_;omega
 by_cases hjl:s.length≤j
 · rw [dif_pos hjl] at e
   have hge:¬ (((scAt s j).pos:Int)<(scAt s j).src.length):=by show ¬ ((j:Int)<s.length);omega
   repeat' first
    | exact z13
    | exact z19 rfl
    | (apply z15;rfl;rfl)
    | (apply z30;(iterate 3 rfl))
    | (apply z44;rfl)
    | (apply z17;rfl;(with_reducible rfl);rfl)
    | (apply z16;rfl;(with_reducible rfl);rfl)
    | (apply z68;(iterate 3 rfl);exact List.getElem?_eq_getElem (by omega))
    | (apply z24;rfl;rfl)
    | (apply z14;rfl;rfl)
    | (apply z29;rfl;rfl)
    | (apply z22;rfl;rfl;(assumption);rfl)
    | (apply z04;focus (repeat (first | exact z23 | (apply z50;rfl))))
    | apply z02
    | apply z05
    | apply z07
    | apply z56
    | (apply zb6;rfl)
    | apply z25
    | apply z54
    | (apply z32;rfl;(with_reducible rfl))
    | (apply z12;rfl)
    | (apply z62;(exact rfl))
    | (apply jc3;rfl;(with_reducible rfl);(exact rfl))
    | (apply q21;rfl;(with_reducible rfl);(exact rfl);(exact z19 rfl);rfl)
    | (apply qq2;rfl)
    | (with_reducible apply zd3;intro hc)
    | (with_reducible apply za6;intro hc)
    | (with_reducible apply z69;intro hc)
    | (with_reducible apply z52;intro hc)
    | (apply z48;rfl)
    | (apply z55;rfl)
    | (apply dand;rfl)
   try any_goals (exfalso;contradiction)
   all_goals exact hok e
 · rw [dif_neg hjl] at e
   have hlt:(((scAt s j).pos:Int)<(scAt s j).src.length):=by show ((j:Int)<s.length);omega
   have h0:(scAt s j).src[(scAt s j).pos]?=some (s.getD j 0):=by show s[j]?=_;rw [List.getElem?_eq_getElem (by omega)];simp [List.getD,List.getElem?_eq_getElem (show j<s.length by omega)]
   have h53:=j60 (s.getD j 0)
   have hj1:(scAt s j).pos+1≤(scAt s j).src.length:=by show j+1≤s.length;omega
   generalize hcc:s.getD j 0=c at *
   by_cases h10:c=10
   · rw [if_pos h10] at e
     subst h10
     repeat' first
      | exact z13
      | exact z19 rfl
      | (apply z15;rfl;rfl)
      | (apply z30;(iterate 3 rfl))
      | (apply z44;rfl)
      | (apply z17;rfl;(with_reducible rfl);rfl)
      | (apply z16;rfl;(with_reducible rfl);rfl)
      | (apply z68;(iterate 3 rfl);assumption)
      | (apply z24;rfl;rfl)
      | (apply z14;rfl;rfl)
      | (apply z29;rfl;rfl)
      | (apply z22;rfl;rfl;(assumption);rfl)
      | (apply z04;focus (repeat (first | exact z23 | (apply z50;rfl))))
      | apply z02
      | apply z05
      | apply z07
      | apply z56
      | (apply zb6;rfl)
      | apply z25
      | apply z54
      | (apply z32;rfl;(with_reducible rfl))
      | (apply z12;rfl)
      | (apply z62;(exact rfl))
      | (apply jc3;rfl;(with_reducible rfl);(exact rfl))
      | (apply q21;rfl;(with_reducible rfl);(exact rfl);(exact z19 rfl);rfl)
      | (apply qq2;rfl)
      | (with_reducible apply zd3;intro hc)
      | (with_reducible apply za6;intro hc)
      | (with_reducible apply z69;intro hc)
      | (with_reducible apply z52;intro hc)
      | (apply z48;rfl)
      | (apply z55;rfl)
      | (apply dand;rfl)
     try any_goals (exfalso;contradiction)
     all_goals first | (exfalso;simp_all;done) | exact hok e
   · rw [if_neg h10] at e
     have h10':=zz8 h10
     cases hkn:q34 c with
     | true=>
       rw [hkn] at h53 e
       rw [if_neg (by simp)] at e
       repeat' first
        | apply z01
        | exact z13
        | exact z19 rfl
        | (apply z15;rfl;rfl)
        | (apply z30;(iterate 3 rfl))
        | (apply z44;rfl)
        | (apply z84;rfl;rfl)
        | (apply z17;rfl;(with_reducible rfl);rfl)
        | (apply z16;rfl;(with_reducible rfl);rfl)
        | (apply z68;(iterate 3 rfl);assumption)
        | (apply z24;rfl;rfl)
        | (apply z14;rfl;rfl)
        | (apply z29;rfl;rfl)
        | (apply z22;rfl;rfl;(assumption);rfl)
        | (apply z27 (hc:=⟨(adv (n:=1) hxj hH hj1 hl50).run⟩);rfl;rfl;(exact rfl);rfl;(exact z19 rfl);rintro H1 ⟨r1,k1⟩)
        | (apply z04;focus (repeat (first | exact z23 | (apply z50;rfl))))
        | apply z02
        | apply z00
        | apply z03
        | apply z05
        | apply z07
        | apply z56
        | (apply zb6;rfl)
        | apply z25
        | apply z54
        | (apply z32;rfl;(with_reducible rfl))
        | (apply z12;rfl)
        | (apply z62;(exact rfl))
        | (apply jc3;rfl;(with_reducible rfl);(exact rfl))
        | (apply q21;rfl;(with_reducible rfl);(exact rfl);(exact z19 rfl);rfl)
        | (apply qq2;rfl)
        | with_reducible exact zb5
        | with_reducible apply zb4
        | with_reducible apply z57
        | with_reducible apply z58
        | (with_reducible apply zd3;intro hc)
        | (with_reducible apply za6;intro hc)
        | (with_reducible apply z69;intro hc)
        | (with_reducible apply z52;intro hc)
        | (apply z48;rfl)
        | (apply z55;rfl)
        | (apply zx8 (hc:=h53);rfl;rfl;rfl)
        | (apply dand;rfl)
       try any_goals (exfalso;contradiction)
       refine hgo (j+1) _ e (by omega) (by omega) r1 (hk.trans k1) _ ?_
       repeat' first
        | exact z23
        | refine z64 rfl ?_
     | false=>
       rw [hkn] at h53 e
       rw [if_pos rfl] at e
       repeat' first
        | apply z01
        | exact z13
        | exact z19 rfl
        | (apply z15;rfl;rfl)
        | (apply z30;(iterate 3 rfl))
        | (apply z44;rfl)
        | (apply z84;rfl;rfl)
        | (apply z17;rfl;(with_reducible rfl);rfl)
        | (apply z16;rfl;(with_reducible rfl);rfl)
        | (apply z68;(iterate 3 rfl);assumption)
        | (apply z24;rfl;rfl)
        | (apply z14;rfl;rfl)
        | (apply z29;rfl;rfl)
        | (apply z22;rfl;rfl;(assumption);rfl)
        | (apply z27 (hc:=⟨(qi6 hxj hH 5 (by decide)).run⟩);rfl;rfl;(exact rfl);rfl;(exact z13);rintro H1 ⟨r1,k1⟩)
        | (apply z04;focus (repeat (first | exact z23 | (apply z50;rfl))))
        | apply z02
        | apply z00
        | apply z03
        | apply z05
        | apply z07
        | apply z09
        | apply z56
        | (apply zb6;rfl)
        | apply z25
        | apply z54
        | (apply z32;rfl;(with_reducible rfl))
        | (apply z12;rfl)
        | (apply z62;(exact rfl))
        | (apply jc3;rfl;(with_reducible rfl);(exact rfl))
        | (apply q21;rfl;(with_reducible rfl);(exact rfl);(exact z19 rfl);rfl)
        | (apply qq2;rfl)
        | with_reducible exact ze7
        | with_reducible apply ze2
        | with_reducible apply z57
        | with_reducible apply z58
        | (with_reducible apply zd3;intro hc)
        | (with_reducible apply za6;intro hc)
        | (with_reducible apply z69;intro hc)
        | (with_reducible apply z52;intro hc)
        | (apply z48;rfl)
        | (apply z55;rfl)
        | (apply zx8 (hc:=h53);rfl;rfl;rfl)
        | (apply dand;rfl)
       try any_goals (exfalso;contradiction)
       exact hbad 5 j _ e r1 (hk.trans k1) _ rfl
end Go.Proofs.TryzL
namespace Go.Proofs.TryzL
open Go.Proofs.Lz
set_option maxHeartbeats 4000000
theorem qi2 {a b:UInt8} (h:a=b):((a.toNat:Int)=b.toNat):=by rw [h]
theorem ju3 {H:z18} {id i:Nat} {s:List UInt8} {c:UInt8} (hH:ScH id (scAt s i) H) (hc:s[i]?=some c) (hl:s.length<2^30) :
 Shr Vv 23 [.ptr id 0] H (.c (.bool (resO (za9 s i c)))) (v34 id H s i (za9 s i c)):=by
 refine zh9 vb2 ?_
 have hH0:H[id]?=some (.var (some 8) (scC (scAt s i))):=hH
 have hxj:scAt (scAt s i).src (scAt s i).pos=scAt s i:=rfl
 have hlt:i<s.length:=(List.getElem?_eq_some_iff.1 hc).1
 have hjp:(scAt s i).pos≤(scAt s i).src.length:=by show i≤s.length;omega
 have hj1:(scAt s i).pos+1≤(scAt s i).src.length:=by show i+1≤s.length;omega
 have hl50:(scAt s i).src.length<2^50:=by show s.length<_;omega
 have hl60:(scAt s i).src.length<2^60:=by show s.length<_;omega
 have h0:(scAt s i).src[(scAt s i).pos]?=some c:=hc
 have hsl:(z87 symB s i).length<2^60:=by have:=zi4 (p:=symB) (s:=s) (i:=i) (by omega);omega
 have h52:=jb2 (z87 symB s i) hsl
 have h54:=qq8 (s.drop i) [123,45]
 have hb:∀ m:UInt8,(c=m)↔((c.toNat:Int)=m.toNat):=fun m=>⟨qi2,fun h=>by rcases Decidable.em (c=m) with e | e;exact e;exact absurd h (zz8 e)⟩
 unfold za9
 by_cases hbl:c=32∨c=9∨c=10
 · rw [if_pos hbl]
   have hbl':(c.toNat:Int)=32∨(c.toNat:Int)=9∨(c.toNat:Int)=10:=hbl.imp qi2 (fun h=>h.imp qi2 qi2)
   repeat' first
    | apply z01
    | exact z13
    | exact z19 rfl
    | (apply z15;rfl;rfl)
    | (apply z30;(iterate 3 rfl))
    | (apply z17;rfl;(with_reducible rfl);rfl)
    | (apply z16;rfl;(with_reducible rfl);rfl)
    | (apply z68;(iterate 3 rfl);assumption)
    | (apply z24;rfl;rfl)
    | (apply z14;rfl;rfl)
    | (apply z29;rfl;rfl)
    | (apply za5;(iterate 3 rfl);omega)
    | (apply z22;rfl;rfl;(assumption);rfl)
    | (apply z27 (hc:=⟨(adv (n:=1) hxj hH hj1 hl50).run⟩);rfl;rfl;(exact rfl);rfl;(exact z19 rfl);rintro H1 ⟨r1,k1⟩)
    | (apply z04;focus (repeat (first | exact z23 | (apply kq_c;rfl) | (apply z50;rfl))))
    | apply z02
    | apply z00
    | apply z03
    | apply z05
    | apply z09
    | apply z25
    | apply z54
    | (apply z35;rfl;(with_reducible rfl))
    | (apply z32;rfl;(with_reducible rfl))
    | (apply z12;rfl)
    | (apply z47;rfl;(with_reducible rfl))
    | (apply z43;rfl;(with_reducible rfl))
    | (apply z41;rfl;(with_reducible rfl))
    | (apply z39;rfl)
    | (apply z62;(exact rfl))
    | (with_reducible apply za1;intro hc)
    | (with_reducible apply z71;intro hc)
    | (apply z48;rfl)
    | (apply z55;rfl)
    | (apply zi6)
    | (apply dand;rfl)
   try any_goals (exfalso;omega)
   all_goals exact zk0 rfl rfl ⟨⟨_,r1,rfl⟩,k1⟩
 · rw [if_neg hbl]
   have n1:¬ ((c.toNat:Int)=32):=fun h=>hbl (.inl ((hb 32).2 h))
   have n2:¬ ((c.toNat:Int)=9):=fun h=>hbl (.inr (.inl ((hb 9).2 h)))
   have n3:¬ ((c.toNat:Int)=10):=fun h=>hbl (.inr (.inr ((hb 10).2 h)))
   by_cases hds:c=45∧qi3 (z87 symB s i)=true
   · rw [if_pos hds]
     obtain ⟨h45,hda⟩:=hds
     have n4:((c.toNat:Int)=45):=qi2 h45
     rw [hda] at h52
     repeat' first
      | apply z01
      | exact z13
      | exact z19 rfl
      | (apply z15;rfl;rfl)
      | (apply z30;(iterate 3 rfl))
      | (apply z17;rfl;(with_reducible rfl);rfl)
      | (apply z16;rfl;(with_reducible rfl);rfl)
      | (apply z68;(iterate 3 rfl);assumption)
      | (apply z24;rfl;rfl)
      | (apply z14;rfl;rfl)
      | (apply z29;rfl;rfl)
      | (apply za5;(iterate 3 rfl);omega)
      | (apply z22;rfl;rfl;(assumption);rfl)
      | (apply z27 (hc:=⟨(qk6 hH hjp hl60).run⟩);rfl;rfl;(exact rfl);rfl;(exact z13);rintro H1 ⟨r1,k1⟩)
      | (apply z08 (hc:=h52);rfl;rfl;rfl)
      | (apply z04;focus (repeat (first | exact z23 | (apply kq_c;rfl) | (apply z50;rfl))))
      | apply z02
      | apply z00
      | apply z03
      | apply z05
      | apply z25
      | apply z54
      | (apply z35;rfl;(with_reducible rfl))
      | (apply z32;rfl;(with_reducible rfl))
      | (apply z12;rfl)
      | (apply z47;rfl;(with_reducible rfl))
      | (apply z43;rfl;(with_reducible rfl))
      | (apply z41;rfl;(with_reducible rfl))
      | (apply z39;rfl)
      | (apply z62;(exact rfl))
      | (with_reducible apply za1;intro hc)
      | (with_reducible apply z71;intro hc)
      | (apply z48;rfl)
      | (apply z55;rfl)
      | (apply zi6)
      | (apply dand;rfl)
     try any_goals (exfalso;omega)
     refine zk7 (fun p:Nat=>[(0,.ptr id 0)]) (fun p H'=>p≤s.length∧ScH id (scAt s p) H'∧KpH id H H'∧lineS s p=lineS s i) (fun p=>s.length - p) i ?_ ⟨by omega,r1,k1,rfl⟩ ?_
     · repeat' first
        | exact z23
        | refine z64 rfl ?_
     rintro j H2 ⟨g1,g2,g3,g4⟩
     refine jn4 g2 g3 g1 hl ?_ ?_ ?_
     · intro j' H' h1 h2 h3 h4 h5 fr hk
       exact ⟨j',hk,⟨h3,h4,h5,by rw [← h1];exact g4⟩,by omega⟩
     · intro h1
       rw [← g4,h1]
       repeat' first
        | apply z01
        | exact z13
        | (apply z15;rfl;rfl)
        | apply z02
        | apply z00
        | apply z03
        | apply z09
       exact zk0 rfl rfl ⟨⟨_,g2,rfl⟩,g3⟩
     · intro code p H' h1 h2 h3 fr h5
       rw [← g4,h1]
       exact zk0 h5 rfl ⟨h2,h3⟩
   · rw [if_neg hds]
     by_cases h45:c=45
     · have n4:((c.toNat:Int)=45):=qi2 h45
       have hda:qi3 (z87 symB s i)=false:=by simpa using fun h=>hds ⟨h45,h⟩
       rw [hda] at h52
       cases hp:[123,45].isPrefixOf (s.drop i) with
       | true=>
         rw [hp] at h54
         repeat' first
          | apply z01
          | exact z13
          | exact z19 rfl
          | (apply z15;rfl;rfl)
          | (apply z30;(iterate 3 rfl))
          | (apply z17;rfl;(with_reducible rfl);rfl)
          | (apply z16;rfl;(with_reducible rfl);rfl)
          | (apply z68;(iterate 3 rfl);assumption)
          | (apply z24;rfl;rfl)
          | (apply z14;rfl;rfl)
          | (apply z29;rfl;rfl)
          | (apply za5;(iterate 3 rfl);omega)
          | (apply z22;rfl;rfl;(assumption);rfl)
          | (apply z27 (hc:=⟨(qk6 hH hjp hl60).run⟩);rfl;rfl;(exact rfl);rfl;(exact z13);rintro H1 ⟨r1,k1⟩)
          | (apply z08 (hc:=h52);rfl;rfl;rfl)
          | (apply z27 (hc:=⟨(j81 r1 (by omega) hl).run⟩);rfl;rfl;(exact rfl);rfl;(exact z13);rintro H1 ⟨r1,k1⟩)
          | (apply z04;focus (repeat (first | exact z23 | (apply kq_c;rfl) | (apply z50;rfl))))
          | apply z02
          | apply z00
          | apply z03
          | apply z05
          | apply z09
          | apply z25
          | apply z54
          | (apply z35;rfl;(with_reducible rfl))
          | (apply z32;rfl;(with_reducible rfl))
          | (apply z12;rfl)
          | (apply z47;rfl;(with_reducible rfl))
          | (apply z43;rfl;(with_reducible rfl))
          | (apply z41;rfl;(with_reducible rfl))
          | (apply z39;rfl)
          | (apply z62;(exact rfl))
          | (with_reducible apply za1;intro hc)
          | (with_reducible apply z71;intro hc)
          | (apply z48;rfl)
          | (apply z55;rfl)
          | (apply zi6)
          | (apply zx8 (hc:=h54);rfl;rfl;rfl)
          | (apply dand;rfl)
         try any_goals (exfalso;omega)
         all_goals (rw [if_pos rfl];exact zk0 rfl rfl ⟨r1,by repeat (first | assumption | refine KpH.trans ?_ (by assumption))⟩)
       | false=>
         rw [hp] at h54
         repeat' first
          | apply z01
          | exact z13
          | exact z19 rfl
          | (apply z15;rfl;rfl)
          | (apply z30;(iterate 3 rfl))
          | (apply z17;rfl;(with_reducible rfl);rfl)
          | (apply z16;rfl;(with_reducible rfl);rfl)
          | (apply z68;(iterate 3 rfl);assumption)
          | (apply z24;rfl;rfl)
          | (apply z14;rfl;rfl)
          | (apply z29;rfl;rfl)
          | (apply za5;(iterate 3 rfl);omega)
          | (apply z22;rfl;rfl;(assumption);rfl)
          | (apply z27 (hc:=⟨(qk6 hH hjp hl60).run⟩);rfl;rfl;(exact rfl);rfl;(exact z13);rintro H1 ⟨r1,k1⟩)
          | (apply z08 (hc:=h52);rfl;rfl;rfl)
          | (apply z04;focus (repeat (first | exact z23 | (apply kq_c;rfl) | (apply z50;rfl))))
          | apply z02
          | apply z00
          | apply z03
          | apply z05
          | apply z07
          | apply z09
          | apply z25
          | apply z54
          | (apply z35;rfl;(with_reducible rfl))
          | (apply z32;rfl;(with_reducible rfl))
          | (apply z12;rfl)
          | (apply z47;rfl;(with_reducible rfl))
          | (apply z43;rfl;(with_reducible rfl))
          | (apply z41;rfl;(with_reducible rfl))
          | (apply z39;rfl)
          | (apply z62;(exact rfl))
          | (with_reducible apply za1;intro hc)
          | (with_reducible apply z71;intro hc)
          | (apply z48;rfl)
          | (apply z55;rfl)
          | (apply zi6)
          | (apply zx8 (hc:=h54);rfl;rfl;rfl)
          | (apply dand;rfl)
         try any_goals (exfalso;omega)
         all_goals (rw [if_neg (by simp)];exact zk0 rfl rfl ⟨r1,k1⟩)
     · have n4:¬ ((c.toNat:Int)=45):=fun h=>h45 ((hb 45).2 h)
       cases hp:[123,45].isPrefixOf (s.drop i) with
       | true=>
         rw [hp] at h54
         repeat' first
          | apply z01
          | exact z13
          | exact z19 rfl
          | (apply z15;rfl;rfl)
          | (apply z30;(iterate 3 rfl))
          | (apply z17;rfl;(with_reducible rfl);rfl)
          | (apply z16;rfl;(with_reducible rfl);rfl)
          | (apply z68;(iterate 3 rfl);assumption)
          | (apply z24;rfl;rfl)
          | (apply z14;rfl;rfl)
          | (apply z29;rfl;rfl)
          | (apply za5;(iterate 3 rfl);omega)
          | (apply z22;rfl;rfl;(assumption);rfl)
          | (apply z27 (hc:=⟨(j81 hH (by omega) hl).run⟩);rfl;rfl;(exact rfl);rfl;(exact z13);rintro H1 ⟨r1,k1⟩)
          | (apply z04;focus (repeat (first | exact z23 | (apply kq_c;rfl) | (apply z50;rfl))))
          | apply z02
          | apply z00
          | apply z03
          | apply z05
          | apply z09
          | apply z25
          | apply z54
          | (apply z35;rfl;(with_reducible rfl))
          | (apply z32;rfl;(with_reducible rfl))
          | (apply z12;rfl)
          | (apply z47;rfl;(with_reducible rfl))
          | (apply z43;rfl;(with_reducible rfl))
          | (apply z41;rfl;(with_reducible rfl))
          | (apply z39;rfl)
          | (apply z62;(exact rfl))
          | (with_reducible apply za1;intro hc)
          | (with_reducible apply z71;intro hc)
          | (apply z48;rfl)
          | (apply z55;rfl)
          | (apply zi6)
          | (apply zx8 (hc:=h54);rfl;rfl;rfl)
          | (apply dand;rfl)
         try any_goals (exfalso;omega)
         all_goals (rw [if_pos rfl];exact zk0 rfl rfl ⟨r1,k1⟩)
       | false=>
         rw [hp] at h54
         repeat' first
          | apply z01
          | exact z13
          | exact z19 rfl
          | (apply z15;rfl;rfl)
          | (apply z30;(iterate 3 rfl))
          | (apply z17;rfl;(with_reducible rfl);rfl)
          | (apply z16;rfl;(with_reducible rfl);rfl)
          | (apply z68;(iterate 3 rfl);assumption)
          | (apply z24;rfl;rfl)
          | (apply z14;rfl;rfl)
          | (apply z29;rfl;rfl)
          | (apply za5;(iterate 3 rfl);omega)
          | (apply z22;rfl;rfl;(assumption);rfl)
          | (apply z04;focus (repeat (first | exact z23 | (apply kq_c;rfl) | (apply z50;rfl))))
          | apply z02
          | apply z00
          | apply z03
          | apply z05
          | apply z07
          | apply z09
          | apply z25
          | apply z54
          | (apply z35;rfl;(with_reducible rfl))
          | (apply z32;rfl;(with_reducible rfl))
          | (apply z12;rfl)
          | (apply z47;rfl;(with_reducible rfl))
          | (apply z43;rfl;(with_reducible rfl))
          | (apply z41;rfl;(with_reducible rfl))
          | (apply z39;rfl)
          | (apply z62;(exact rfl))
          | (with_reducible apply za1;intro hc)
          | (with_reducible apply z71;intro hc)
          | (apply z48;rfl)
          | (apply z55;rfl)
          | (apply zi6)
          | (apply zx8 (hc:=h54);rfl;rfl;rfl)
          | (apply dand;rfl)
         try any_goals (exfalso;omega)
         all_goals (rw [if_neg (by simp)];exact zk0 rfl rfl ⟨hH,fun _ _ _ h=>h⟩)
end Go.Proofs.TryzL
