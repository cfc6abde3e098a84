/- Chapter 02: the parts of Lex's code, and how a turn ends. -/
import Derived.Test.YtencoceemejcnaaGreatDoorLzT42
set_option linter.unusedSimpArgs false
set_option linter.unusedVariables false
namespace Go.Proofs.TryzL
open Go.Proofs.Lz
set_option maxHeartbeats 4000000
theorem qk1 {a b:UInt8} (h:a=b):((a.toNat:Int)=b.toNat):=by rw [h]
theorem jw2 {H:z18} {id i:Nat} {s:List UInt8} {c:UInt8} (hH:ScH id (scAt s i) H) (hc:s[i]?=some c) (hl:s.length<2^30) :
 Shr Vv 23 [.ptr id 0] H (.c (.bool (resO (z98 s i c)))) (v78 id H s i (z98 s i c)):=by
 refine zh9 vd2 ?_
 have hH0:H[id]?=some (.var (some 8) (scC (scAt s i))):=hH
 have hxj:scAt (scAt s i).src (scAt s i).pos=scAt s i:=rfl
 have hlt:i<s.length:=(List.getElem?_eq_some_iff.1 hc).1
 have hjp:(scAt s i).pos≤(scAt s i).src.length:=by show i≤s.length;omega
 have hj1:(scAt s i).pos+1≤(scAt s i).src.length:=by show i+1≤s.length;omega
 have hl50:(scAt s i).src.length<2^50:=by show s.length<_;omega
 have hl60:(scAt s i).src.length<2^60:=by show s.length<_;omega
 have h0:(scAt s i).src[(scAt s i).pos]?=some c:=hc
 have hsl:(z83 symB s i).length<2^60:=by have:=zi5 (p:=symB) (s:=s) (i:=i) (by omega);omega
 have h52:=jd1 (z83 symB s i) hsl
 have h54:=qs2 (s.drop i) [123,45]
 have hb:∀ m:UInt8,(c=m)↔((c.toNat:Int)=m.toNat):=fun m=>⟨qk1,fun h=>by rcases Decidable.em (c=m) with e | e;exact e;exact absurd h (zz9 e)⟩
 unfold z98
 by_cases hbl:c=32∨c=9∨c=10
 · rw [if_pos hbl]
   have hbl':(c.toNat:Int)=32∨(c.toNat:Int)=9∨(c.toNat:Int)=10:=hbl.imp qk1 (fun h=>h.imp qk1 qk1)
   repeat' first|apply z01|exact z12|exact z19 rfl|(apply z15;rfl;rfl)|(apply z30;(iterate 3 rfl))|(apply z17;rfl;(with_reducible rfl);rfl)|(apply z14;rfl;(with_reducible rfl);rfl)|(apply z71;(iterate 3 rfl);assumption)|(apply z24;rfl;rfl)|(apply z16;rfl;rfl)|(apply z29;rfl;rfl)|(apply za6;(iterate 3 rfl);omega)|(apply z22;rfl;rfl;(assumption);rfl)|(apply z27 (hc:=⟨(adv (n:=1) hxj hH hj1 hl50).run⟩);rfl;rfl;(exact rfl);rfl;(exact z19 rfl);rintro H1 ⟨r1,k1⟩)|(apply z04;focus (repeat (first | exact z23 | (apply kq_c;rfl) | (apply z50;rfl))))|apply z02|apply z00|apply z03|apply z06|apply z09|apply z28|apply z55|(apply z35;rfl;(with_reducible rfl))|(apply z32;rfl;(with_reducible rfl))|(apply z13;rfl)|(apply z48;rfl;(with_reducible rfl))|(apply z44;rfl;(with_reducible rfl))|(apply z39;rfl;(with_reducible rfl))|(apply z38;rfl)|(apply z65;(exact rfl))|(with_reducible apply za1;intro hc)|(with_reducible apply z74;intro hc)|(apply z52;rfl)|(apply z54;rfl)|(apply zj0)|(apply dand;rfl)
   try any_goals (exfalso;omega)
   all_goals exact zk4 rfl rfl ⟨⟨_,r1,rfl⟩,k1⟩
 · rw [if_neg hbl]
   have n1:¬ ((c.toNat:Int)=32):=fun h=>hbl (.inl ((hb 32).2 h))
   have n2:¬ ((c.toNat:Int)=9):=fun h=>hbl (.inr (.inl ((hb 9).2 h)))
   have n3:¬ ((c.toNat:Int)=10):=fun h=>hbl (.inr (.inr ((hb 10).2 h)))
   by_cases hds:c=45∧qk0 (z83 symB s i)=true
   · rw [if_pos hds]
     obtain ⟨h45,hda⟩:=hds
     have n4:((c.toNat:Int)=45):=qk1 h45
     rw [hda] at h52
     repeat' first|apply z01|exact z12|exact z19 rfl|(apply z15;rfl;rfl)|(apply z30;(iterate 3 rfl))|(apply z17;rfl;(with_reducible rfl);rfl)|(apply z14;rfl;(with_reducible rfl);rfl)|(apply z71;(iterate 3 rfl);assumption)|(apply z24;rfl;rfl)|(apply z16;rfl;rfl)|(apply z29;rfl;rfl)|(apply za6;(iterate 3 rfl);omega)|(apply z22;rfl;rfl;(assumption);rfl)|(apply z27 (hc:=⟨(qk3 hH hjp hl60).run⟩);rfl;rfl;(exact rfl);rfl;(exact z12);rintro H1 ⟨r1,k1⟩)|(apply z07 (hc:=h52);rfl;rfl;rfl)|(apply z04;focus (repeat (first | exact z23 | (apply kq_c;rfl) | (apply z50;rfl))))|apply z02|apply z00|apply z03|apply z06|apply z28|apply z55|(apply z35;rfl;(with_reducible rfl))|(apply z32;rfl;(with_reducible rfl))|(apply z13;rfl)|(apply z48;rfl;(with_reducible rfl))|(apply z44;rfl;(with_reducible rfl))|(apply z39;rfl;(with_reducible rfl))|(apply z38;rfl)|(apply z65;(exact rfl))|(with_reducible apply za1;intro hc)|(with_reducible apply z74;intro hc)|(apply z52;rfl)|(apply z54;rfl)|(apply zj0)|(apply dand;rfl)
     try any_goals (exfalso;omega)
     refine zk9 (fun p:Nat=>[(0,.ptr id 0)]) (fun p H'=>p≤s.length∧ScH id (scAt s p) H'∧KpH id H H'∧lineS s p=lineS s i) (fun p=>s.length - p) i ?_ ⟨by omega,r1,k1,rfl⟩ ?_
     · repeat' first|exact z23|refine z64 rfl ?_
     rintro j H2 ⟨g1,g2,g3,g4⟩
     refine jz0 g2 g3 g1 hl ?_ ?_ ?_
     · intro j' H' h1 h2 h3 h4 h5 fr hk
       exact ⟨j',hk,⟨h3,h4,h5,by rw [← h1];exact g4⟩,by omega⟩
     · intro h1
       rw [← g4,h1]
       repeat' first|apply z01|exact z12|(apply z15;rfl;rfl)|apply z02|apply z00|apply z03|apply z09
       exact zk4 rfl rfl ⟨⟨_,g2,rfl⟩,g3⟩
     · intro code p H' h1 h2 h3 fr h5
       rw [← g4,h1]
       exact zk4 h5 rfl ⟨h2,h3⟩
   · rw [if_neg hds]
     by_cases h45:c=45
     · have n4:((c.toNat:Int)=45):=qk1 h45
       have hda:qk0 (z83 symB s i)=false:=by simpa using fun h=>hds ⟨h45,h⟩
       rw [hda] at h52
       cases hp:[123,45].isPrefixOf (s.drop i) with
       | true=>
         rw [hp] at h54
         repeat' first|apply z01|exact z12|exact z19 rfl|(apply z15;rfl;rfl)|(apply z30;(iterate 3 rfl))|(apply z17;rfl;(with_reducible rfl);rfl)|(apply z14;rfl;(with_reducible rfl);rfl)|(apply z71;(iterate 3 rfl);assumption)|(apply z24;rfl;rfl)|(apply z16;rfl;rfl)|(apply z29;rfl;rfl)|(apply za6;(iterate 3 rfl);omega)|(apply z22;rfl;rfl;(assumption);rfl)|(apply z27 (hc:=⟨(qk3 hH hjp hl60).run⟩);rfl;rfl;(exact rfl);rfl;(exact z12);rintro H1 ⟨r1,k1⟩)|(apply z07 (hc:=h52);rfl;rfl;rfl)|(apply z27 (hc:=⟨(jc6 r1 (by omega) hl).run⟩);rfl;rfl;(exact rfl);rfl;(exact z12);rintro H1 ⟨r1,k1⟩)|(apply z04;focus (repeat (first | exact z23 | (apply kq_c;rfl) | (apply z50;rfl))))|apply z02|apply z00|apply z03|apply z06|apply z09|apply z28|apply z55|(apply z35;rfl;(with_reducible rfl))|(apply z32;rfl;(with_reducible rfl))|(apply z13;rfl)|(apply z48;rfl;(with_reducible rfl))|(apply z44;rfl;(with_reducible rfl))|(apply z39;rfl;(with_reducible rfl))|(apply z38;rfl)|(apply z65;(exact rfl))|(with_reducible apply za1;intro hc)|(with_reducible apply z74;intro hc)|(apply z52;rfl)|(apply z54;rfl)|(apply zj0)|(apply zz3 (hc:=h54);rfl;rfl;rfl)|(apply dand;rfl)
         try any_goals (exfalso;omega)
         all_goals (rw [if_pos rfl];exact zk4 rfl rfl ⟨r1,by repeat (first | assumption | refine KpH.trans ?_ (by assumption))⟩)
       | false=>
         rw [hp] at h54
         repeat' first|apply z01|exact z12|exact z19 rfl|(apply z15;rfl;rfl)|(apply z30;(iterate 3 rfl))|(apply z17;rfl;(with_reducible rfl);rfl)|(apply z14;rfl;(with_reducible rfl);rfl)|(apply z71;(iterate 3 rfl);assumption)|(apply z24;rfl;rfl)|(apply z16;rfl;rfl)|(apply z29;rfl;rfl)|(apply za6;(iterate 3 rfl);omega)|(apply z22;rfl;rfl;(assumption);rfl)|(apply z27 (hc:=⟨(qk3 hH hjp hl60).run⟩);rfl;rfl;(exact rfl);rfl;(exact z12);rintro H1 ⟨r1,k1⟩)|(apply z07 (hc:=h52);rfl;rfl;rfl)|(apply z04;focus (repeat (first | exact z23 | (apply kq_c;rfl) | (apply z50;rfl))))|apply z02|apply z00|apply z03|apply z06|apply z08|apply z09|apply z28|apply z55|(apply z35;rfl;(with_reducible rfl))|(apply z32;rfl;(with_reducible rfl))|(apply z13;rfl)|(apply z48;rfl;(with_reducible rfl))|(apply z44;rfl;(with_reducible rfl))|(apply z39;rfl;(with_reducible rfl))|(apply z38;rfl)|(apply z65;(exact rfl))|(with_reducible apply za1;intro hc)|(with_reducible apply z74;intro hc)|(apply z52;rfl)|(apply z54;rfl)|(apply zj0)|(apply zz3 (hc:=h54);rfl;rfl;rfl)|(apply dand;rfl)
         try any_goals (exfalso;omega)
         all_goals (rw [if_neg (by simp)];exact zk4 rfl rfl ⟨r1,k1⟩)
     · have n4:¬ ((c.toNat:Int)=45):=fun h=>h45 ((hb 45).2 h)
       cases hp:[123,45].isPrefixOf (s.drop i) with
       | true=>
         rw [hp] at h54
         repeat' first|apply z01|exact z12|exact z19 rfl|(apply z15;rfl;rfl)|(apply z30;(iterate 3 rfl))|(apply z17;rfl;(with_reducible rfl);rfl)|(apply z14;rfl;(with_reducible rfl);rfl)|(apply z71;(iterate 3 rfl);assumption)|(apply z24;rfl;rfl)|(apply z16;rfl;rfl)|(apply z29;rfl;rfl)|(apply za6;(iterate 3 rfl);omega)|(apply z22;rfl;rfl;(assumption);rfl)|(apply z27 (hc:=⟨(jc6 hH (by omega) hl).run⟩);rfl;rfl;(exact rfl);rfl;(exact z12);rintro H1 ⟨r1,k1⟩)|(apply z04;focus (repeat (first | exact z23 | (apply kq_c;rfl) | (apply z50;rfl))))|apply z02|apply z00|apply z03|apply z06|apply z09|apply z28|apply z55|(apply z35;rfl;(with_reducible rfl))|(apply z32;rfl;(with_reducible rfl))|(apply z13;rfl)|(apply z48;rfl;(with_reducible rfl))|(apply z44;rfl;(with_reducible rfl))|(apply z39;rfl;(with_reducible rfl))|(apply z38;rfl)|(apply z65;(exact rfl))|(with_reducible apply za1;intro hc)|(with_reducible apply z74;intro hc)|(apply z52;rfl)|(apply z54;rfl)|(apply zj0)|(apply zz3 (hc:=h54);rfl;rfl;rfl)|(apply dand;rfl)
         try any_goals (exfalso;omega)
         all_goals (rw [if_pos rfl];exact zk4 rfl rfl ⟨r1,k1⟩)
       | false=>
         rw [hp] at h54
         repeat' first|apply z01|exact z12|exact z19 rfl|(apply z15;rfl;rfl)|(apply z30;(iterate 3 rfl))|(apply z17;rfl;(with_reducible rfl);rfl)|(apply z14;rfl;(with_reducible rfl);rfl)|(apply z71;(iterate 3 rfl);assumption)|(apply z24;rfl;rfl)|(apply z16;rfl;rfl)|(apply z29;rfl;rfl)|(apply za6;(iterate 3 rfl);omega)|(apply z22;rfl;rfl;(assumption);rfl)|(apply z04;focus (repeat (first | exact z23 | (apply kq_c;rfl) | (apply z50;rfl))))|apply z02|apply z00|apply z03|apply z06|apply z08|apply z09|apply z28|apply z55|(apply z35;rfl;(with_reducible rfl))|(apply z32;rfl;(with_reducible rfl))|(apply z13;rfl)|(apply z48;rfl;(with_reducible rfl))|(apply z44;rfl;(with_reducible rfl))|(apply z39;rfl;(with_reducible rfl))|(apply z38;rfl)|(apply z65;(exact rfl))|(with_reducible apply za1;intro hc)|(with_reducible apply z74;intro hc)|(apply z52;rfl)|(apply z54;rfl)|(apply zj0)|(apply zz3 (hc:=h54);rfl;rfl;rfl)|(apply dand;rfl)
         try any_goals (exfalso;omega)
         all_goals (rw [if_neg (by simp)];exact zk4 rfl rfl ⟨hH,fun _ _ _ h=>h⟩)
end Go.Proofs.TryzL
namespace Go.Proofs.TryzL
open Go.Proofs.Lz
set_option maxHeartbeats 4000000
def lexP1:ICode:=(ICode.region [⟨some 28,none,.mv (.t 4)⟩,⟨some 29,none,.call 23 [.t 28]⟩]).seq (ICode.cond (.t 29) ((ICode.keep [0,3,4,5,6]).seq (ICode.goto 0)) ((ICode.keep [0,3,4,5,6]).seq ICode.skip))
def lexP2:ICode:=(ICode.region [⟨some 30,none,.mv (.t 4)⟩,⟨some 31,none,.nck (.t 30)⟩,⟨some 32,none,.faddr 4 (.t 31)⟩,⟨some 33,none,.faddr 0 (.t 32)⟩,⟨some 34,none,.load none (.t 33)⟩,⟨some 35,none,.bin .neq (.t 34) (.k (.c (.int .i64 0)))⟩]).seq (ICode.cond (.t 35) ((ICode.keep [3,4]).seq ((ICode.regionD [(.pure,⟨some 36,none,.mv (.t 4)⟩),(.pure,⟨some 37,none,.nck (.t 36)⟩),(.pure,⟨some 38,none,.faddr 4 (.t 37)⟩),(.rd,⟨some 39,none,.load (some 4) (.t 38)⟩),(.pure,⟨some 2,none,.mv (.k .nils)⟩),(.wrb,⟨none,none,.store (some 4) (.t 3) (.t 39)⟩)]).seq ICode.ret)) ((ICode.keep [0,3,4,5,6]).seq ICode.skip))
def lexP3:ICode:=ICode.regionD [(.pure,⟨some 40,none,.mv (.t 4)⟩),(.pure,⟨some 41,none,.nck (.t 40)⟩),(.pure,⟨some 42,none,.faddr 2 (.t 41)⟩),(.rd,⟨some 43,none,.load none (.t 42)⟩),(.pure,⟨some 44,none,.mv (.t 4)⟩),(.pure,⟨some 45,none,.nck (.t 44)⟩),(.pure,⟨some 46,none,.faddr 3 (.t 45)⟩),(.rd,⟨some 47,none,.load none (.t 46)⟩),(.pure,⟨some 8,none,.mv (.t 43)⟩),(.pure,⟨some 9,none,.mv (.t 47)⟩)]
def lexP4:ICode:=(ICode.region [⟨some 48,none,.mv (.t 0)⟩,⟨some 49,none,.mv (.t 4)⟩,⟨some 50,none,.nck (.t 49)⟩,⟨some 51,none,.faddr 1 (.t 50)⟩,⟨some 52,none,.load none (.t 51)⟩,⟨some 53,none,.six (.t 48) (.t 52)⟩,⟨some 10,none,.mv (.t 53)⟩]).seq (ICode.block 0 ((ICode.region [⟨some 57,none,.mv (.t 10)⟩,⟨some 58,none,.call 24 [.t 57]⟩,⟨some 59,none,.mv (.t 58)⟩,⟨some 60,some (59,false),.mv (.t 10)⟩,⟨some 61,some (59,false),.call 25 [.t 60]⟩,⟨some 62,none,.pick (.t 59) (.k (.c (.bool true))) (.t 61)⟩,⟨some 56,none,.mv (.t 62)⟩]).seq (ICode.cond (.t 56) ((ICode.keep [0,3,4,5,6,8,9]).seq (ICode.region [⟨some 64,none,.mv (.t 4)⟩,⟨some 65,none,.call 26 [.t 64]⟩,⟨some 63,none,.mv (.t 65)⟩,⟨some 66,none,.ext (.t 63) 0⟩,⟨some 67,none,.ext (.t 63) 1⟩,⟨none,none,.store (some 7) (.t 6) (.t 66)⟩,⟨some 7,none,.mv (.t 67)⟩])) ((ICode.keep [0,3,4,5,6,8,9,10]).seq ((ICode.region [⟨some 69,none,.mv (.t 10)⟩,⟨some 70,none,.call 27 [.t 69]⟩,⟨some 68,none,.mv (.t 70)⟩]).seq (ICode.cond (.t 68) ((ICode.keep [0,3,4,5,6,8,9]).seq (ICode.region [⟨some 72,none,.mv (.t 4)⟩,⟨some 73,none,.call 28 [.t 72]⟩,⟨some 71,none,.mv (.t 73)⟩,⟨some 74,none,.ext (.t 71) 0⟩,⟨some 75,none,.ext (.t 71) 1⟩,⟨none,none,.store (some 7) (.t 6) (.t 74)⟩,⟨some 7,none,.mv (.t 75)⟩])) ((ICode.keep [0,3,4,5,6,8,9,10]).seq ((ICode.region [⟨some 77,none,.mv (.t 10)⟩,⟨some 78,none,.bin .eql (.t 77) (.k (.c (.int .u8 39)))⟩,⟨some 79,none,.mv (.t 78)⟩,⟨some 80,some (79,false),.mv (.t 10)⟩,⟨some 81,some (79,false),.bin .eql (.t 80) (.k (.c (.int .u8 34)))⟩,⟨some 82,none,.pick (.t 79) (.k (.c (.bool true))) (.t 81)⟩,⟨some 76,none,.mv (.t 82)⟩]).seq (ICode.cond (.t 76) ((ICode.keep [0,3,4,5,6,8,9]).seq (ICode.region [⟨some 84,none,.mv (.t 4)⟩,⟨some 85,none,.call 29 [.t 84]⟩,⟨some 83,none,.mv (.t 85)⟩,⟨some 86,none,.ext (.t 83) 0⟩,⟨some 87,none,.ext (.t 83) 1⟩,⟨none,none,.store (some 7) (.t 6) (.t 86)⟩,⟨some 7,none,.mv (.t 87)⟩])) ((ICode.keep [0,3,4,5,6,8,9,10]).seq ((ICode.region [⟨some 89,none,.mv (.t 10)⟩,⟨some 90,none,.call 30 [.t 89]⟩,⟨some 88,none,.mv (.t 90)⟩]).seq (ICode.cond (.t 88) ((ICode.keep [0,3,4,5,6,8,9]).seq ((ICode.region [⟨some 91,none,.mv (.t 4)⟩,⟨some 92,none,.mv (.t 4)⟩,⟨some 93,none,.nck (.t 92)⟩,⟨some 94,none,.faddr 1 (.t 93)⟩,⟨some 95,none,.load none (.t 94)⟩,⟨some 96,none,.call 31 [.t 91,.t 95,.k (.c (.fn 30 [] []))]⟩,⟨some 11,none,.mv (.t 96)⟩]).seq ((ICode.region [⟨some 97,none,.mv (.t 4)⟩,⟨some 98,none,.mv (.t 11)⟩,⟨some 99,none,.call 32 [.t 97,.t 98]⟩,⟨some 7,none,.mv (.t 99)⟩]).seq ((ICode.region [⟨some 100,none,.mv (.t 7)⟩]).seq (ICode.cond (.t 100) ((ICode.keep [0,3,4,5,6,7,8,9,11]).seq ((ICode.region [⟨some 101,none,.mv (.t 11)⟩,⟨some 102,none,.call 33 [.t 101]⟩,⟨none,none,.store (some 7) (.t 6) (.t 102)⟩]).seq (ICode.region [⟨some 103,none,.mv (.t 4)⟩,⟨some 104,none,.mv (.t 11)⟩,⟨some 105,none,.len true (.t 104)⟩,⟨some 106,none,.call 34 [.t 103,.t 105]⟩]))) ((ICode.keep [0,3,4,5,6,7,8,9]).seq ICode.skip)))))) ((ICode.keep [0,3,4,5,6,8,9,10]).seq ((ICode.region [⟨some 108,none,.mv (.t 10)⟩,⟨some 109,none,.call 35 [.k (.c (.str [40,41,91,93,123,125,44,59,96])),.t 108]⟩,⟨some 110,none,.bin .geq (.t 109) (.k (.c (.int .i64 0)))⟩,⟨some 107,none,.mv (.t 110)⟩]).seq (ICode.cond (.t 107) ((ICode.keep [0,3,4,5,6,8,9]).seq ((ICode.regionD [(.pure,⟨some 111,none,.mv (.t 0)⟩),(.pure,⟨some 112,none,.mv (.t 4)⟩),(.pure,⟨some 113,none,.nck (.t 112)⟩),(.pure,⟨some 114,none,.faddr 1 (.t 113)⟩),(.rd,⟨some 115,none,.load none (.t 114)⟩),(.pure,⟨some 116,none,.mv (.t 4)⟩),(.pure,⟨some 117,none,.nck (.t 116)⟩),(.pure,⟨some 118,none,.faddr 1 (.t 117)⟩),(.rd,⟨some 119,none,.load none (.t 118)⟩),(.pure,⟨some 120,none,.bin .add (.t 119) (.k (.c (.int .i64 1)))⟩),(.rd,⟨some 121,none,.slc true none (.t 111) (some (.t 115)) (some (.t 120))⟩),(.pure,⟨some 122,none,.build [.c (.int .i64 0),.c (.str []),.c (.str []),.c (.int .i64 0),.c (.bool false),.c (.int .i64 0),.c (.int .i64 0)] [(0,1,.k (.c (.int .i64 8))),(2,1,.t 121)]⟩),(.wrb,⟨none,none,.store (some 7) (.t 6) (.t 122)⟩),(.pure,⟨some 7,none,.mv (.k (.c (.bool true)))⟩)]).seq (ICode.region [⟨some 123,none,.mv (.t 4)⟩,⟨some 124,none,.call 34 [.t 123,.k (.c (.int .i64 1))]⟩]))) ((ICode.keep [0,3,4,5,6,8,9]).seq (ICode.region [⟨some 54,none,.mv (.t 4)⟩,⟨some 55,none,.call 36 [.t 54,.k (.c (.int .i64 5)),.k (.c (.str []))]⟩,⟨some 7,none,.mv (.t 55)⟩])))))))))))))))))
def lexP5:ICode:=(ICode.region [⟨some 125,none,.mv (.t 7)⟩,⟨some 126,none,.un .not (.t 125)⟩]).seq (ICode.cond (.t 126) ((ICode.keep [3,4]).seq ((ICode.regionD [(.pure,⟨some 127,none,.mv (.t 4)⟩),(.pure,⟨some 128,none,.nck (.t 127)⟩),(.pure,⟨some 129,none,.faddr 4 (.t 128)⟩),(.rd,⟨some 130,none,.load (some 4) (.t 129)⟩),(.pure,⟨some 2,none,.mv (.k .nils)⟩),(.wrb,⟨none,none,.store (some 4) (.t 3) (.t 130)⟩)]).seq ICode.ret)) ((ICode.keep [0,3,4,5,6,8,9]).seq ICode.skip))
def lexP6:ICode:=(ICode.region [⟨some 131,none,.mv (.t 5)⟩,⟨some 132,none,.len false (.t 131)⟩,⟨some 133,none,.bin .geq (.t 132) (.k (.c (.int .i64 16384)))⟩]).seq (ICode.cond (.t 133) ((ICode.keep [3,8,9]).seq ((ICode.region [⟨some 134,none,.mv (.t 8)⟩,⟨some 135,none,.mv (.t 9)⟩,⟨some 136,none,.build [.c (.int .i64 0),.c (.str []),.c (.int .i64 0),.c (.int .i64 0)] [(0,1,.k (.c (.int .i64 3))),(2,1,.t 134),(3,1,.t 135)]⟩,⟨some 2,none,.mv (.k .nils)⟩,⟨none,none,.store (some 4) (.t 3) (.t 136)⟩]).seq ICode.ret)) ((ICode.keep [0,3,4,5,6,8,9]).seq ICode.skip))
def lexP7:ICode:=ICode.region [⟨some 137,none,.mv (.t 8)⟩,⟨some 138,none,.mv (.t 9)⟩,⟨some 139,none,.faddr 5 (.t 6)⟩,⟨none,none,.store none (.t 139) (.t 137)⟩,⟨some 140,none,.faddr 6 (.t 6)⟩,⟨none,none,.store none (.t 140) (.t 138)⟩]
def lexP8:ICode:=ICode.region [⟨some 141,none,.mv (.t 5)⟩,⟨some 142,none,.load (some 7) (.t 6)⟩,⟨some 143,none,.bsl true 38 (some 7) [.int .i64 0,.str [],.str [],.int .i64 0,.bool false,.int .i64 0,.int .i64 0] 1 [(0,.t 142)]⟩,⟨some 144,none,.app 38 (some 7) 72 (.t 141) (.t 143)⟩,⟨some 5,none,.mv (.t 144)⟩]
def lexT:ICode:=lexP6.seq (lexP7.seq (lexP8.seq (ICode.goto 0)))
def zF:CV:=.agg [.int .i64 0,.str [],.int .i64 0,.int .i64 0]
def fltC (code:Int) (nm:List UInt8) (line col:Int):CV:=.agg [.int .i64 code,.str nm,.int .i64 line,.int .i64 col]
def tksW:List Tok→WV
 | []=>.nils
 | t::r=>.own true 38 (some 7) ((t::r).map tokC)
def lexK (s:List UInt8) (id:Nat) (acc:List Tok) (t:CV):List (Nat×WV):=[(0,.c (.str s)),(3,.lbox (some 4) (.c zF)),(4,.ptr id 0),(5,tksW acc),(6,.lbox (some 7) (.c t))]
theorem w46 (a t:Tok) (r:List Tok):tksW (a::r++[t])=.own true 38 (some 7) ((a::r).map tokC++[tokC t]):=by simp [tksW]
theorem js4 {H:z18} {s:List UInt8} {id:Nat} {t:Tok} {line col:Int} {N:Post} {B:Hs} {R:RP} (hlen:([]:List Tok).length≤16384)
 (hgo:([]:List Tok).length+1≤16384→∀ fr,KpL [0,3,4,5,6] fr [0,3,4,5,6] (lexK s id (([]:List Tok)++[⟨t.op,t.qual,t.text,t.n,t.auto,line,col⟩]) (tokC ⟨t.op,t.qual,t.text,t.n,t.auto,line,col⟩))→R.go 0 fr H)
 (hbad:16384≤([]:List Tok).length→∀ fr:WFr,fr.env 2=.nils→fr.env 3=.lbox (some 4) (.c (fltC 3 [] line col))→R.ret fr H) :
 WP Vv lexT (FL [(0,.c (.str s)),(3,.lbox (some 4) (.c zF)),(4,.ptr id 0),(5,tksW ([]:List Tok)),(6,.lbox (some 7) (.c (tokC t))),(8,.c (.int .i64 line)),(9,.c (.int .i64 col))] []) H N B R:=by
 unfold lexT lexP6 lexP7 lexP8
 repeat' first|apply z01|exact z12|exact z19 rfl|exact zd6 rfl rfl|(apply z15;rfl;rfl)|(apply z43;(iterate 3 rfl))|(apply z30;(iterate 3 rfl))|(apply zg2;rfl)|(apply z77;(iterate 3 rfl))|(apply zp5;(iterate 6 rfl))|(apply z68;rfl;rfl)|(apply zl2;(iterate 3 rfl))|(apply z47;rfl;exact zb7 rfl)|(apply z25;(iterate 4 rfl);exact z34 (by first | exact rfl | assumption | exact z05 (by assumption)))|(apply zs6;(iterate 8 rfl);exact qc2 (by first | exact rfl | assumption | exact z05 (by assumption)))|(apply zz8;rfl;rfl;(omega))|(apply z04;focus (repeat (first | exact z23 | (apply kq_c;rfl) | (apply zc6;rfl) | (apply z50;rfl) | (apply z40;rfl))))|apply z02|apply z00|apply z03|apply z08|apply z09|(apply z13;rfl)|(with_reducible apply z67;intro hc)|(with_reducible apply z49;intro hc)
 try any_goals (exfalso;omega)
 · refine q32 (hgo (by simp) _ ?_)
   unfold lexK
   repeat' first|exact z23|refine z64 rfl ?_
theorem jt5 {H:z18} {s:List UInt8} {id:Nat} {a:Tok} {r:List Tok} {t:Tok} {line col:Int} {N:Post} {B:Hs} {R:RP} (hlen:(a::r).length≤16384)
 (hgo:(a::r).length+1≤16384→∀ fr,KpL [0,3,4,5,6] fr [0,3,4,5,6] (lexK s id ((a::r)++[⟨t.op,t.qual,t.text,t.n,t.auto,line,col⟩]) (tokC ⟨t.op,t.qual,t.text,t.n,t.auto,line,col⟩))→R.go 0 fr H)
 (hbad:16384≤(a::r).length→∀ fr:WFr,fr.env 2=.nils→fr.env 3=.lbox (some 4) (.c (fltC 3 [] line col))→R.ret fr H) :
 WP Vv lexT (FL [(0,.c (.str s)),(3,.lbox (some 4) (.c zF)),(4,.ptr id 0),(5,tksW (a::r)),(6,.lbox (some 7) (.c (tokC t))),(8,.c (.int .i64 line)),(9,.c (.int .i64 col))] []) H N B R:=by
 unfold lexT lexP6 lexP7 lexP8
 have ht2:r.length+1≤16384:=hlen
 repeat' first|apply z01|exact z12|exact z19 rfl|exact zd6 rfl rfl|(apply z15;rfl;rfl)|(apply z43;(iterate 3 rfl))|(apply z30;(iterate 3 rfl))|(apply zd4;rfl)|(apply z77;(iterate 3 rfl))|(apply zp5;(iterate 6 rfl))|(apply z68;rfl;rfl)|(apply zl2;(iterate 3 rfl))|(apply zc3;(iterate 3 rfl))|(apply z47;rfl;exact zb7 rfl)|(apply z25;(iterate 4 rfl);exact z34 (by first | exact rfl | assumption | exact z05 (by assumption)))|(apply zs6;(iterate 8 rfl);exact qc2 (by first | exact rfl | assumption | exact z05 (by assumption)))|(apply qm9;rfl;rfl;(simp only [List.length_map,List.length_cons,List.length_nil,List.length_append,List.length_replicate];omega))|(apply z04;focus (repeat (first | exact z23 | (apply kq_c;rfl) | (apply ze6;rfl;rfl) | (apply z50;rfl) | (apply z40;rfl))))|apply z02|apply z00|apply z03|apply z08|apply z09|(apply z13;rfl)|(with_reducible apply z67;intro hc)|(with_reducible apply z49;intro hc)
 try any_goals (exfalso;omega)
 · exact hbad (by omega) _ rfl rfl
 · refine q32 (hgo (by omega) _ ?_)
   unfold lexK
   rw [w46]
   repeat' first|exact z23|refine z64 rfl ?_
end Go.Proofs.TryzL
