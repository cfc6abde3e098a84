/- More rules of the calculus: a field of an element of a slice that a slot holds. -/
import Derived.Test.YtencoceemejcnaaGreatDoorLzT34
import Derived.Test.YtencoceemejcnaaGreatDoorLzVc6
set_option linter.unusedSimpArgs false
set_option linter.unusedVariables false
namespace Go.Proofs.TryzL
open Go.Proofs.Lz
set_option maxHeartbeats 4000000
theorem w86 {p:UInt8→Bool} {s:List UInt8} {i:Nat}:∀ c∈z87 p s i,p c=true:=by
 intro c hc
 unfold z87 at hc
 have:∀ l:List UInt8,c∈l.takeWhile p→p c=true:=by
  intro l
  induction l with
  | nil=>intro h;simp at h
  | cons x l ih=>
    intro h
    rw [List.takeWhile_cons] at h
    split at h
    · rename_i hx
      rcases List.mem_cons.1 h with rfl | h
      · exact hx
      · exact ih h
    · simp at h
 exact this _ hc
theorem qi6 {H:z18} {id:Nat} {x:Sc} (hx:scAt x.src x.pos=x) (hH:ScH id x H) (code:Nat) (hc:code≠0):Shr Vv 36 [.ptr id 0,.c (.int .i64 code),.c (.str [])] H (.c (.bool false)) (fun H'=>(∃ y,ScH id y H'∧zf1 x.src code x.pos [] y)∧KpH id H H'):=by
 obtain ⟨H',h1,h2,h3⟩:=(we0 hH (code:=code) (nm:=[])).run
 exact ⟨H',h1,⟨_,h2,j69 hx hc⟩,h3⟩
theorem jc1 {H:z18} {id:Nat} {x:Sc} (hx:scAt x.src x.pos=x) (hH:ScH id x H) (hp:x.pos≤x.src.length) (hl:x.src.length<2^30) :
 Shr Vv 28 [.ptr id 0] H (resU (numU x.src x.pos)) (j07 id H x.src (numU x.src x.pos)):=by
 refine zh9 v77 ?_
 have hl50:x.src.length<2^50:=by omega
 have hl60:x.src.length<2^60:=by omega
 have l1:=zi4 (p:=z93) (s:=x.src) hp
 have hH0:H[id]?=some (.var (some 8) (scC x)):=hH
 have hrun:=wu3 hH hp hl60
 unfold numU
 have hall:=w86 (p:=z93) (s:=x.src) (i:=x.pos)
 generalize z87 z93 x.src x.pos=t at *
 repeat' first
  | apply z01
  | exact z13
  | exact z19 rfl
  | (apply z15;rfl;rfl)
  | (apply z24;rfl;rfl)
  | (apply z14;rfl;rfl)
  | (apply z29;rfl;rfl)
  | (apply z88;rfl;rfl;first | exact z65 (by first | exact rfl | assumption | exact z06 (by assumption)) | exact z73 (by first | exact rfl | assumption | exact z06 (by assumption)))
  | (apply z22;rfl;rfl;(assumption);rfl)
  | (apply z27 (hc:=⟨hrun.run⟩);rfl;rfl;(exact rfl);rfl;(exact z13);rintro H1 ⟨r1,k1⟩)
  | apply z02
  | apply z00
  | apply z03
  | apply z05
 refine zd2 (fun p:Nat×Nat=>[(0,.ptr id 0),(2,.lbox (some 7) (.c q14)),(4,.c (.str t)),(5,.c (.int .i64 p.2)),(6,.c (.int .i64 p.1))]) (fun p=>p.1≤t.length∧p.2≤9223372036854775807∧numF t 0=numF (t.drop p.1) p.2) (fun p=>t.length - p.1) (0,0) ?_ ⟨Nat.zero_le _,Nat.zero_le _,by simp⟩ ?_
 · repeat' first
    | exact z23
    | refine z64 rfl ?_
 rintro ⟨n,a⟩ ⟨hn,ha,hf⟩
 dsimp only at hn ha hf
 dsimp only
 have hA:=r1
 have hH1:H1[id]?=some (.var (some 8) (scC x)):=r1
 by_cases hns:n<t.length
 · have hdrop:t.drop n=t[n]::t.drop (n+1):=List.drop_eq_getElem_cons hns
   have hd:z93 t[n]=true:=hall _ (List.getElem_mem _)
   obtain ⟨b1,b2⟩:=jw7 hd
   have hqq:=v39 ((t[n].toNat:Int) - 48) (by omega)
   by_cases hq:a≤(9223372036854775807 - (t[n].toNat - 48)) / 10
   · repeat' first
      | apply z01
      | exact z13
      | exact z19 rfl
      | (apply z15;rfl;rfl)
      | (apply z99;rfl;rfl;omega)
      | (apply zp2;rfl;rfl;omega)
      | (apply jc4;rfl;rfl;omega)
      | (apply qc4;rfl;rfl;omega)
      | (apply z30;(iterate 3 rfl))
      | (apply z44;rfl)
      | (apply z68;(iterate 3 rfl);exact List.getElem?_eq_getElem (by omega))
      | (apply z78;(iterate 3 rfl))
      | (apply z24;rfl;rfl)
      | (apply zt4;rfl;omega)
      | (apply z04;focus (repeat (first | exact z23 | (apply kq_c;rfl) | (apply z50;rfl) | (apply z38;rfl))))
      | apply z02
      | apply z00
      | apply z03
      | apply z05
      | apply z07
      | apply z56
      | (apply z12;rfl)
      | (with_reducible apply z69;intro hc)
      | (with_reducible apply z52;intro hc)
     any_goals omega
     any_goals first
      | (exfalso;rw [hqq] at hc;omega)
      | skip
     · refine ⟨(n+1,10 * a+(t[n].toNat - 48)),?_,rfl,⟨by dsimp only;omega,by dsimp only;omega,?_⟩,by dsimp only;omega⟩
       · have e4:(10 * (a:Int)+((t[n].toNat:Int) - 48))=((10 * a+(t[n].toNat - 48):Nat):Int):=by omega
         repeat' first
          | exact z23
          | refine z64 rfl ?_
          | refine z64 ?_ ?_
         all_goals (show WV.c (CV.int .i64 (10 * (a:Int)+((t[n].toNat:Int) - 48)))=_;rw [e4])
       · rw [hf,hdrop]
         simp [numF,hd,hq]
   · have hnone:numF t 0=none:=by rw [hf,hdrop];simp [numF,hd,hq]
     rw [hnone]
     repeat' first
      | apply z01
      | exact z13
      | exact z19 rfl
      | (apply z15;rfl;rfl)
      | (apply z99;rfl;rfl;omega)
      | (apply zp2;rfl;rfl;omega)
      | (apply jc4;rfl;rfl;omega)
      | (apply qc4;rfl;rfl;omega)
      | (apply z30;(iterate 3 rfl))
      | (apply z44;rfl)
      | (apply z68;(iterate 3 rfl);exact List.getElem?_eq_getElem (by omega))
      | (apply z78;(iterate 3 rfl))
      | (apply z24;rfl;rfl)
      | (apply z28;(iterate 4 rfl);exact z34 (by first | exact rfl | assumption | exact z06 (by assumption)))
      | (apply zt4;rfl;omega)
      | (apply z27 (hc:=⟨(qi6 hx hA 6 (by decide)).run⟩);rfl;rfl;(exact rfl);rfl;(exact z13);rintro H1 ⟨r1,k1⟩)
      | (apply z04;focus (repeat (first | exact z23 | (apply kq_c;rfl) | (apply z50;rfl) | (apply z38;rfl))))
      | apply z02
      | apply z00
      | apply z03
      | apply z05
      | apply z07
      | apply z09
      | apply z56
      | (apply z12;rfl)
      | (with_reducible apply z69;intro hc)
      | (with_reducible apply z52;intro hc)
     any_goals omega
     any_goals first
      | (exfalso;rw [hqq] at hc;omega)
      | skip
     · exact zt5 rfl rfl rfl ⟨r1,by repeat (first | assumption | refine KpH.trans ?_ (by assumption))⟩
 · have hsome:numF t 0=some a:=by rw [hf,List.drop_of_length_le (by omega)];rfl
   rw [hsome]
   repeat' first
    | apply z01
    | exact z13
    | exact z19 rfl
    | (apply z15;rfl;rfl)
    | (apply z99;rfl;rfl;omega)
    | (apply zp2;rfl;rfl;omega)
    | (apply jc4;rfl;rfl;omega)
    | (apply qc4;rfl;rfl;omega)
    | (apply z30;(iterate 3 rfl))
    | (apply z44;rfl)
    | (apply z68;(iterate 3 rfl);exact List.getElem?_eq_getElem (by omega))
    | (apply z78;(iterate 3 rfl))
    | (apply z24;rfl;rfl)
    | (apply z28;(iterate 4 rfl);exact z34 (by first | exact rfl | assumption | exact z06 (by assumption)))
    | (apply zt4;rfl;omega)
    | (apply z27 (hc:=⟨(adv (n:=t.length) hx hA l1 hl50).run⟩);rfl;rfl;(exact rfl);rfl;(exact z19 rfl);rintro H1 ⟨r1,k1⟩)
    | (apply z04;focus (repeat (first | exact z23 | (apply kq_c;rfl) | (apply z50;rfl) | (apply z38;rfl))))
    | apply z02
    | apply z00
    | apply z03
    | apply z05
    | apply z07
    | apply z09
    | apply z56
    | (apply z12;rfl)
    | (with_reducible apply z69;intro hc)
    | (with_reducible apply z52;intro hc)
   any_goals omega
   · exact zt5 rfl rfl rfl ⟨⟨_,r1,rfl⟩,by repeat (first | assumption | refine KpH.trans ?_ (by assumption))⟩
def hexV (c:UInt8):Option Nat:=if z93 c then some (c.toNat - 48) else if 97≤c.toNat∧c.toNat≤102 then some (c.toNat - 87) else if 65≤c.toNat∧c.toNat≤70 then some (c.toNat - 55) else none
def hexW (o:Option Nat):WV:=match o with
 | some v=>.tup [.c (.int .i64 v),.c (.bool true)]
 | none=>.tup [.c (.int .i64 0),.c (.bool false)]
theorem wt0 (c:UInt8):Rets Vv 86 [.c (bC c)] (hexW (hexV c)):=by
 refine z67 v93 ?_
 cases hd:z93 c with
 | true=>
   obtain ⟨b1,b2⟩:=jw7 hd
   have h27:=zh5 c
   rw [hd] at h27
   have e:hexV c=some (c.toNat - 48):=by unfold hexV;rw [if_pos hd]
   rw [e]
   repeat' first
    | apply z01
    | exact z13
    | (apply z15;rfl;rfl)
    | (apply qc4;rfl;rfl;omega)
    | (apply zt4;rfl;omega)
    | (apply z08 (hc:=h27);rfl;rfl;rfl)
    | (apply z04;focus (repeat (first | exact z23 | (apply kq_c;rfl))))
    | apply z02
    | apply z00
    | apply z03
    | apply z05
    | apply z09
    | (apply z35;rfl;(with_reducible rfl))
    | (apply qi8;(exact ShI.c rfl);(exact ShI.c rfl);(exact by decide))
   all_goals (simp only [hexW];congr 4;omega)
 | false=>
   have h27:=zh5 c
   rw [hd] at h27
   repeat' first
    | apply z01
    | exact z13
    | exact z19 rfl
    | (apply z15;rfl;rfl)
    | (apply z99;rfl;rfl;omega)
    | (apply qc4;rfl;rfl;omega)
    | (apply z30;(iterate 3 rfl))
    | (apply z17;rfl;(with_reducible rfl);rfl)
    | (apply z16;rfl;(with_reducible rfl);rfl)
    | (apply zt4;rfl;omega)
    | (apply z08 (hc:=h27);rfl;rfl;rfl)
    | (apply z04;focus (repeat (first | exact z23 | (apply kq_c;rfl))))
    | apply z02
    | apply z00
    | apply z03
    | apply z05
    | apply z07
    | apply z09
    | (apply z32;rfl;(with_reducible rfl))
    | (apply z12;rfl)
    | (apply z47;rfl;(with_reducible rfl))
    | (apply z43;rfl;(with_reducible rfl))
    | (apply z39;rfl)
    | (with_reducible apply z69;intro hc)
    | (with_reducible apply z52;intro hc)
    | (apply qi8;(exact ShI.c rfl);(exact ShI.c rfl);(exact by decide))
   all_goals first
    | (exfalso;omega)
    | (have e:hexV c=some (c.toNat - 87):=by
        unfold hexV;rw [if_neg (by rw [hd];simp),if_pos (by omega)]
       rw [e];simp only [hexW];congr 4;omega)
    | (have e:hexV c=some (c.toNat - 55):=by
        unfold hexV;rw [if_neg (by rw [hd];simp),if_neg (by omega),if_pos (by omega)]
       rw [e];simp only [hexW];congr 4;omega)
    | (have e:hexV c=none:=by
        unfold hexV;rw [if_neg (by rw [hd];simp),if_neg (by omega),if_neg (by omega)]
       rw [e];rfl)
def LtH (li id at':Nat) (H:z18):Prop:=H[li]?=some (.var (some 2) [.ptr id 0,.c (.int .i64 at')])
def zi7 (s:List UInt8) (i at':Nat):Option (Nat×Nat):=match s[at']? with
 | none=>some (7,i)
 | some c=>if q34 c=false then some (5,at') else if c.toNat<32 then some (7,i) else none
def v25 (li id:Nat) (H:z18) (x:Sc) (at':Nat) (r:Option (Nat×Nat)):z18→Prop:=fun H'=>match r with
 | some (code,p)=>(∃ y,ScH id y H'∧zf1 x.src code p [] y)∧(∀ i o,i≠id→i≠li→H[i]?=some o→H'[i]?=some o)
 | none=>(LtH li id (at'+1) H'∧ScH id x H')∧(∀ i o,i≠id→i≠li→H[i]?=some o→H'[i]?=some o)
theorem va2 {H:z18} {id j:Nat} {x:Sc} (hx:scAt x.src x.pos=x) (hH:ScH id x H) (h1:x.pos≤j) (h2:j≤x.src.length) (hl:x.src.length<2^30) :
 Shr Vv 34 [.ptr id 0,.c (.int .i64 ((j:Int) - x.pos))] H (.tup []) (fun H'=>ScH id (scAt x.src j) H'∧KpH id H H'):=by
 obtain ⟨H',a,b,c⟩:=(adv (n:=j - x.pos) hx hH (by omega) (by omega)).run
 have e1:((j - x.pos:Nat):Int)=(j:Int) - x.pos:=by omega
 have e2:x.pos+(j - x.pos)=j:=by omega
 rw [e1] at a
 rw [e2] at b
 exact ⟨H',a,b,c⟩
theorem ja4 {H:z18} {id li j:Nat} {x:Sc} {o:WO} (hx:scAt x.src x.pos=x) (hH:ScH id x H) (hL:H[li]?=some o) (hne:li≠id) (h1:x.pos≤j) (h2:j≤x.src.length) (hl:x.src.length<2^30) :
 Shr Vv 34 [.ptr id 0,.c (.int .i64 ((j:Int) - x.pos))] H (.tup []) (fun H'=>H'[li]?=some o∧(ScH id (scAt x.src j) H'∧KpH id H H')):=by
 obtain ⟨H',a,b,c⟩:=(va2 hx hH h1 h2 hl).run
 exact ⟨H',a,c li o hne hL,b,c⟩
theorem wd3 {H:z18} {li id at':Nat} {x:Sc} (hx:scAt x.src x.pos=x) (hL:LtH li id at' H) (hH:ScH id x H) (hne:li≠id) (hp:x.pos≤at') (hat:at'≤x.src.length) (hl:x.src.length<2^30) :
 Shr Vv 58 [.ptr li 0] H (match zi7 x.src x.pos at' with | some _=>.tup [.c (.int .u8 0),.c (.bool false)] | none=>.tup [.c (bC (x.src.getD at' 0)),.c (.bool true)]) (v25 li id H x at' (zi7 x.src x.pos at')):=by
 refine zh9 va0 ?_
 have hL0:H[li]?=some (.var (some 2) [.ptr id 0,.c (.int .i64 at')]):=hL
 have hH0:H[id]?=some (.var (some 8) (scC x)):=hH
 cases hc0:x.src[at']? with
 | none=>
   have e:zi7 x.src x.pos at'=some (7,x.pos):=by unfold zi7;rw [hc0]
   rw [e]
   have hlen:x.src.length≤at':=List.getElem?_eq_none_iff.1 hc0
   repeat' first
    | apply z01
    | exact z13
    | exact z19 rfl
    | (apply z15;rfl;rfl)
    | (apply z30;(iterate 3 rfl))
    | (apply z44;rfl)
    | (apply z68;(iterate 3 rfl);exact List.getElem?_eq_getElem (by omega))
    | (apply z24;rfl;rfl)
    | (apply z14;rfl;rfl)
    | (apply z29;rfl;rfl)
    | (apply z22;rfl;rfl;(assumption);rfl)
    | (apply z82;rfl;rfl;(assumption);rfl)
    | (apply z27 (hc:=⟨(qi6 hx hH 7 (by decide)).run⟩);rfl;rfl;(exact rfl);rfl;(exact z13);rintro H1 ⟨r1,k1⟩)
    | (apply z04;focus (repeat (first | exact z23 | (apply z50;rfl))))
    | apply z02
    | apply z00
    | apply z03
    | apply z07
    | apply z09
    | apply z25
    | apply z54
    | (apply z12;rfl)
    | (apply z62;(exact rfl))
    | (with_reducible apply z69;intro hc)
    | (with_reducible apply z52;intro hc)
    | (apply z48;rfl)
    | (apply z55;rfl)
    | (apply dand;rfl)
   · exact q73 rfl rfl rfl ⟨r1,fun i o h1 _ ho=>k1 i o h1 ho⟩
   · exfalso;omega
 | some c=>
   have hlt:at'<x.src.length:=(List.getElem?_eq_some_iff.1 hc0).1
   have hcc:x.src.getD at' 0=c:=by rw [List.getD_eq_getElem?_getD,hc0];rfl
   have h53:=j60 c
   cases hk:q34 c with
   | false=>
     rw [hk] at h53
     have e:zi7 x.src x.pos at'=some (5,at'):=by unfold zi7;rw [hc0];simp [hk]
     rw [e]
     repeat' first
      | apply z01
      | exact z13
      | exact z19 rfl
      | (apply z15;rfl;rfl)
      | (apply zp2;rfl;rfl;omega)
      | (apply z30;(iterate 3 rfl))
      | (apply z44;rfl)
      | (apply z84;rfl;rfl)
      | (apply z68;(iterate 3 rfl);assumption)
      | (apply z24;rfl;rfl)
      | (apply z14;rfl;rfl)
      | (apply z29;rfl;rfl)
      | (apply z22;rfl;rfl;(assumption);rfl)
      | (apply z82;rfl;rfl;(assumption);rfl)
      | (apply z08 (hc:=h53);rfl;rfl;rfl)
      | (apply z27 (hc:=⟨(ja4 hx hH hL0 hne hp hat hl).run⟩);rfl;rfl;(exact rfl);rfl;(exact z19 rfl);rintro H1 ⟨r1,k1⟩)
      | (apply z27 (hc:=⟨(qi6 (x:=scAt x.src at') rfl k1.1 5 (by decide)).run⟩);rfl;rfl;(exact rfl);rfl;(exact z13);rintro H1 ⟨r1,k1⟩)
      | (apply z04;focus (repeat (first | exact z23 | (apply z50;rfl))))
      | apply z02
      | apply z00
      | apply z03
      | apply z07
      | apply z09
      | apply z25
      | apply z54
      | (apply z12;rfl)
      | (apply z62;(exact rfl))
      | with_reducible exact ze7
      | with_reducible apply ze2
      | with_reducible apply z57
      | with_reducible apply z58
      | (with_reducible apply z69;intro hc)
      | (with_reducible apply z52;intro hc)
      | (apply z48;rfl)
      | (apply z55;rfl)
      | (apply zv1)
      | (apply dand;rfl)
     any_goals (exfalso;omega)
     rename_i HA ra ka
     exact q73 rfl rfl rfl ⟨r1,fun i o h1 _ ho=>k1 i o h1 (ka.2 i o h1 ho)⟩
   | true=>
     rw [hk] at h53
     by_cases h32:c.toNat<32
     · have e:zi7 x.src x.pos at'=some (7,x.pos):=by unfold zi7;rw [hc0];simp [hk,h32]
       rw [e]
       repeat' first
        | apply z01
        | exact z13
        | exact z19 rfl
        | (apply z15;rfl;rfl)
        | (apply z99;rfl;rfl;omega)
        | (apply z30;(iterate 3 rfl))
        | (apply z44;rfl)
        | (apply z84;rfl;rfl)
        | (apply z68;(iterate 3 rfl);assumption)
        | (apply z24;rfl;rfl)
        | (apply z14;rfl;rfl)
        | (apply z29;rfl;rfl)
        | (apply z22;rfl;rfl;(assumption);rfl)
        | (apply z82;rfl;rfl;(assumption);rfl)
        | (apply za8;(iterate 4 rfl);(assumption);rfl;rfl;intro H1 hH1 kH1)
        | (apply z08 (hc:=h53);rfl;rfl;rfl)
        | (apply z27 (hc:=⟨(qi6 hx hH 7 (by decide)).run⟩);rfl;rfl;(exact rfl);rfl;(exact z13);rintro H1 ⟨r1,k1⟩)
        | (apply z04;focus (repeat (first | exact z23 | (apply kq_c;rfl) | (apply z50;rfl))))
        | apply z02
        | apply z00
        | apply z03
        | apply z07
        | apply z09
        | apply z25
        | apply z54
        | (apply z12;rfl)
        | (apply z62;(exact rfl))
        | with_reducible exact zb5
        | with_reducible apply zb4
        | with_reducible apply z57
        | with_reducible apply z58
        | (with_reducible apply z69;intro hc)
        | (with_reducible apply z52;intro hc)
        | (apply z48;rfl)
        | (apply z55;rfl)
        | (apply dand;rfl)
       all_goals first
        | (exfalso;omega)
        | exact q73 rfl rfl rfl ⟨r1,fun i o h1 _ ho=>k1 i o h1 ho⟩
     · have e:zi7 x.src x.pos at'=none:=by unfold zi7;rw [hc0];simp [hk,h32]
       rw [e,hcc]
       repeat' first
        | apply z01
        | exact z13
        | exact z19 rfl
        | (apply z15;rfl;rfl)
        | (apply z99;rfl;rfl;omega)
        | (apply z30;(iterate 3 rfl))
        | (apply z44;rfl)
        | (apply z84;rfl;rfl)
        | (apply z68;(iterate 3 rfl);assumption)
        | (apply z24;rfl;rfl)
        | (apply z14;rfl;rfl)
        | (apply z29;rfl;rfl)
        | (apply z22;rfl;rfl;(assumption);rfl)
        | (apply z82;rfl;rfl;(assumption);rfl)
        | (apply za8;(iterate 4 rfl);(assumption);rfl;rfl;intro H1 hH1 kH1)
        | (apply z08 (hc:=h53);rfl;rfl;rfl)
        | (apply z04;focus (repeat (first | exact z23 | (apply kq_c;rfl) | (apply z50;rfl))))
        | apply z02
        | apply z00
        | apply z03
        | apply z07
        | apply z09
        | apply z25
        | apply z54
        | (apply z12;rfl)
        | (apply z62;(exact rfl))
        | with_reducible exact zb5
        | with_reducible apply zb4
        | with_reducible apply z57
        | with_reducible apply z58
        | (with_reducible apply z69;intro hc)
        | (with_reducible apply z52;intro hc)
        | (apply z48;rfl)
        | (apply z55;rfl)
        | (apply dand;rfl)
       any_goals (exfalso;omega)
       exact q73 rfl rfl rfl ⟨⟨hH1,kH1 id _ (Ne.symm hne) hH⟩,fun i o _ h2 ho=>kH1 i o h2 ho⟩
end Go.Proofs.TryzL
namespace Go.Proofs.TryzL
open Go.Proofs.Lz
set_option maxHeartbeats 4000000
inductive CR where
 | bad (code at':Nat)
 | ok (b:UInt8) (e:Nat)
def hexS (s:List UInt8) (i:Nat):Nat→Nat→Nat→CR
 | 0,v,k=>.ok (UInt8.ofNat v) k
 | n+1,v,k=>match zi7 s i k with
   | some (code,p)=>.bad code p
   | none=>match hexV (s.getD k 0) with
     | none=>.bad 7 i
     | some d=>hexS s i n (16 * v+d) (k+1)
def zo2 (s:List UInt8) (i:Nat) (c:UInt8) (j:Nat):CR:=if c≠92 then .ok c j else match zi7 s i j with
 | some (code,p)=>.bad code p
 | none=>let d:=s.getD j 0
   if d=110 then .ok 10 (j+1) else if d=116 then .ok 9 (j+1) else if d=92∨d=39∨d=34 then .ok d (j+1) else if d=120 then hexS s i 2 0 (j+1) else .bad 7 i
def crW:CR→WV
 | .bad _ _=>.tup [.c (.int .u8 0),.c (.bool false)]
 | .ok b _=>.tup [.c (bC b),.c (.bool true)]
def Kp2 (li id:Nat) (H H':z18):Prop:=∀ i o,i≠id→i≠li→H[i]?=some o→H'[i]?=some o
theorem Kp2.refl {li id:Nat} {H:z18}:Kp2 li id H H:=fun _ _ _ _ h=>h
theorem Kp2.trans {li id:Nat} {H H1 H2:z18} (h:Kp2 li id H H1) (k:Kp2 li id H1 H2):Kp2 li id H H2:=fun i o a b ho=>k i o a b (h i o a b ho)
theorem KpH.two {li id:Nat} {H H':z18} (h:KpH id H H'):Kp2 li id H H':=fun i o a _ ho=>h i o a ho
def ltO (id at':Nat):WO:=.var (some 2) [.ptr id 0,.c (.int .i64 at')]
def Bad (li id:Nat) (H:z18) (s:List UInt8) (code p:Nat):z18→Prop:=fun H'=>(∃ y,ScH id y H'∧zf1 s code p [] y)∧Kp2 li id H H'
def va4 (li id:Nat) (H:z18) (x:Sc):CR→z18→Prop
 | .bad code p=>Bad li id H x.src code p
 | .ok _ e=>fun H'=>H'[li]?=some (ltO id e)∧(ScH id x H'∧Kp2 li id H H')
theorem qg9 {H:z18} {li id at':Nat} {x:Sc} (hx:scAt x.src x.pos=x) (hL:H[li]?=some (ltO id at')) (hH:ScH id x H) (hne:li≠id) (hp:x.pos≤at') (hat:at'≤x.src.length) (hl:x.src.length<2^30) (h:zi7 x.src x.pos at'=none) :
 Shr Vv 58 [.ptr li 0] H (.tup [.c (bC (x.src.getD at' 0)),.c (.bool true)]) (fun H'=>H'[li]?=some (ltO id (at'+1))∧(ScH id x H'∧Kp2 li id H H')):=by
 obtain ⟨H',a,b⟩:=(wd3 hx hL hH hne hp hat hl).run
 rw [h] at a b
 exact ⟨H',a,b.1.1,b.1.2,b.2⟩
theorem q99 {H:z18} {li id at' code p:Nat} {x:Sc} (hx:scAt x.src x.pos=x) (hL:H[li]?=some (ltO id at')) (hH:ScH id x H) (hne:li≠id) (hp:x.pos≤at') (hat:at'≤x.src.length) (hl:x.src.length<2^30) (h:zi7 x.src x.pos at'=some (code,p)) :
 Shr Vv 58 [.ptr li 0] H (.tup [.c (.int .u8 0),.c (.bool false)]) (fun H'=>(∃ y,ScH id y H'∧zf1 x.src code p [] y)∧Kp2 li id H H'):=by
 obtain ⟨H',a,b⟩:=(wd3 hx hL hH hne hp hat hl).run
 rw [h] at a b
 exact ⟨H',a,b.1,b.2⟩
theorem zu4 {s:List UInt8} {i k:Nat} (h:zi7 s i k=none):k<s.length:=by
 unfold zi7 at h
 cases hc:s[k]? with
 | none=>rw [hc] at h;cases h
 | some c=>exact (List.getElem?_eq_some_iff.1 hc).1
theorem w71 {H:z18} {li id:Nat} {x:Sc} (hx:scAt x.src x.pos=x) (hH:ScH id x H) (code:Nat) (hc:code≠0):Shr Vv 36 [.ptr id 0,.c (.int .i64 code),.c (.str [])] H (.c (.bool false)) (fun H'=>(∃ y,ScH id y H'∧zf1 x.src code x.pos [] y)∧Kp2 li id H H'):=by
 obtain ⟨H',a,b,c⟩:=(qi6 hx hH code hc).run
 exact ⟨H',a,b,c.two⟩
theorem jm2 {c:UInt8} {v:Nat} (h:hexV c=some v):v<16:=by
 unfold hexV at h
 have:=c.toNat_lt
 split at h
 · rename_i hd
   obtain ⟨b1,b2⟩:=jw7 hd
   injection h with h;omega
 · split at h
   · injection h with h;omega
   · split at h
     · injection h with h;omega
     · cases h
theorem w24 {H:z18} {H0:z18} {li id i0 n v:Nat} {x:Sc} {N:Post} {B:Hs} {R:RP} (hx:scAt x.src x.pos=x) (hL:H[li]?=some (ltO id (i0+n))) (hH:ScH id x H) (hk:Kp2 li id H0 H) (hne:li≠id) (hp:x.pos≤i0) (hat:i0+n≤x.src.length) (hl:x.src.length<2^30) (hn:n<2) (hv:v<16 ^ n)
 (hgo:∀ d H',zi7 x.src x.pos (i0+n)=none→hexV (x.src.getD (i0+n) 0)=some d→H'[li]?=some (ltO id (i0+(n+1)))→ScH id x H'→Kp2 li id H0 H'→∀ fr,KpL [0,7,33] fr [0,7,33] [(0,.ptr li 0),(7,.c (.int .i64 (16 * v+d:Nat))),(33,.c (.int .i64 (n+1:Nat)))]→N fr H')
 (hbad:∀ code p H',hexS x.src x.pos (2 - n) v (i0+n)=.bad code p→Bad li id H0 x.src code p H'→∀ fr:WFr,fr.env 4=.c (.int .u8 0)→fr.env 5=.c (.bool false)→R.ret fr H') :
 WP Vv wd1 (FL [(0,.ptr li 0),(7,.c (.int .i64 v)),(33,.c (.int .i64 n))] []) H N B R:=by
 have h2n:2 - n=(1 - n)+1:=by omega
 have hv16:v<16:=by
  have:n=0∨n=1:=by omega
  rcases this with rfl | rfl<;>omega
 cases hs:zi7 x.src x.pos (i0+n) with
 | some cp=>
   obtain ⟨code,p⟩:=cp
   have e:hexS x.src x.pos (2 - n) v (i0+n)=.bad code p:=by rw [h2n,hexS,hs]
   repeat' first
    | apply z01
    | exact z13
    | exact z19 rfl
    | (apply z15;rfl;rfl)
    | (apply z30;(iterate 3 rfl))
    | (apply z84;rfl;rfl)
    | (apply z63;(iterate 3 rfl))
    | (apply z24;rfl;rfl)
    | (apply za4;rfl;rfl)
    | (apply z27 (hc:=⟨(q99 hx hL hH hne (by omega) hat hl hs).run⟩);rfl;rfl;(exact rfl);rfl;(exact z19 rfl);rintro H1 ⟨r1,k1⟩)
    | (apply z04;focus (repeat (first | exact z23 | (apply kq_c;rfl) | (apply z50;rfl))))
    | apply z02
    | apply z00
    | apply z03
    | apply z05
    | apply z07
    | apply z09
    | apply z56
    | (apply z12;rfl)
    | with_reducible exact ze7
    | with_reducible apply ze2
    | with_reducible apply z57
    | with_reducible apply z58
    | (with_reducible apply z69;intro hc)
    | (with_reducible apply z52;intro hc)
   · exact hbad code p _ e ⟨r1,hk.trans k1⟩ _ rfl rfl
   · exfalso;omega
 | none=>
   cases hv:hexV (x.src.getD (i0+n) 0) with
   | none=>
     have e:hexS x.src x.pos (2 - n) v (i0+n)=.bad 7 x.pos:=by rw [h2n,hexS,hs];simp only [hv]
     have h86:=wt0 (x.src.getD (i0+n) 0)
     rw [hv] at h86
     repeat' first
      | apply z01
      | exact z13
      | exact z19 rfl
      | (apply z15;rfl;rfl)
      | (apply z30;(iterate 3 rfl))
      | (apply z84;rfl;rfl)
      | (apply z63;(iterate 3 rfl))
      | (apply z24;rfl;rfl)
      | (apply z14;rfl;rfl)
      | (apply z29;rfl;rfl)
      | (apply za4;rfl;rfl)
      | (apply z82;rfl;rfl;(assumption);rfl)
      | (apply z27 (hc:=⟨(qg9 hx hL hH hne (by omega) hat hl hs).run⟩);rfl;rfl;(exact rfl);rfl;(exact z19 rfl);rintro H1 ⟨r1,k1⟩)
      | (apply z08 (hc:=h86);rfl;rfl;rfl)
      | (apply z27 (hc:=⟨(w71 (li:=li) hx k1.1 7 (by decide)).run⟩);rfl;rfl;(exact rfl);rfl;(exact z13);rintro H1 ⟨r1,k1⟩)
      | (apply z04;focus (repeat (first | exact z23 | (apply kq_c;rfl) | (apply z50;rfl))))
      | apply z02
      | apply z00
      | apply z03
      | apply z05
      | apply z07
      | apply z09
      | apply z56
      | (apply z12;rfl)
      | with_reducible exact ze7
      | with_reducible exact zb5
      | with_reducible apply zb4
      | with_reducible apply ze2
      | with_reducible apply z57
      | with_reducible apply z58
      | (with_reducible apply z69;intro hc)
      | (with_reducible apply z52;intro hc)
     · rename_i HA ra ka
       exact hbad 7 x.pos _ e ⟨r1,hk.trans (ka.2.trans k1)⟩ _ rfl rfl
     · exfalso;omega
   | some d=>
     have h86:=wt0 (x.src.getD (i0+n) 0)
     rw [hv] at h86
     have hd16:=jm2 hv
     repeat' first
      | apply z01
      | exact z13
      | exact z19 rfl
      | (apply z15;rfl;rfl)
      | (apply z99;rfl;rfl;omega)
      | (apply jc4;rfl;rfl;omega)
      | (apply z30;(iterate 3 rfl))
      | (apply z84;rfl;rfl)
      | (apply z63;(iterate 3 rfl))
      | (apply z24;rfl;rfl)
      | (apply za4;rfl;rfl)
      | (apply z27 (hc:=⟨(qg9 hx hL hH hne (by omega) hat hl hs).run⟩);rfl;rfl;(exact rfl);rfl;(exact z19 rfl);rintro H1 ⟨r1,k1⟩)
      | (apply z08 (hc:=h86);rfl;rfl;rfl)
      | (apply z04;focus (repeat (first | exact z23 | (apply kq_c;rfl) | (apply z50;rfl))))
      | apply z02
      | apply z00
      | apply z03
      | apply z05
      | apply z07
      | apply z56
      | (apply z12;rfl)
      | with_reducible exact zb5
      | with_reducible apply zb4
      | with_reducible apply z57
      | with_reducible apply z58
      | (with_reducible apply z69;intro hc)
      | (with_reducible apply z52;intro hc)
     · refine hgo d _ hs hv r1 k1.1 (hk.trans k1.2) _ ?_
       repeat' first
        | exact z23
        | refine z64 rfl ?_
       all_goals (show WV.c (CV.int .i64 (16 * (v:Int)+(d:Int)))=_;congr 2)
     · exfalso;omega
theorem we2 {H:z18} {li id j:Nat} {x:Sc} {c:UInt8} (hx:scAt x.src x.pos=x) (hL:H[li]?=some (ltO id j)) (hH:ScH id x H) (hne:li≠id) (hp:x.pos≤j) (hat:j≤x.src.length) (hl:x.src.length<2^30) :
 Shr Vv 59 [.ptr li 0,.c (bC c)] H (crW (zo2 x.src x.pos c j)) (va4 li id H x (zo2 x.src x.pos c j)):=by
 refine zh9 va7 ?_
 by_cases h92:c=92
 · subst h92
   cases hs:zi7 x.src x.pos j with
   | some cp=>
     obtain ⟨code,p⟩:=cp
     have e:zo2 x.src x.pos 92 j=.bad code p:=by unfold zo2;rw [if_neg (by simp),hs]
     rw [e]
     repeat' first
      | apply z01
      | exact z13
      | exact z19 rfl
      | (apply z15;rfl;rfl)
      | (apply z30;(iterate 3 rfl))
      | (apply z84;rfl;rfl)
      | (apply z63;(iterate 3 rfl))
      | (apply z24;rfl;rfl)
      | (apply za4;rfl;rfl)
      | (apply z27 (hc:=⟨(q99 hx hL hH hne hp hat hl hs).run⟩);rfl;rfl;(exact rfl);rfl;(exact z19 rfl);rintro H1 ⟨r1,k1⟩)
      | (apply z04;focus (repeat (first | exact z23 | (apply kq_c;rfl) | (apply z50;rfl))))
      | apply z02
      | apply z00
      | apply z03
      | apply z07
      | apply z09
      | (apply z12;rfl)
      | with_reducible exact ze7
      | with_reducible apply ze2
      | with_reducible apply z57
      | with_reducible apply z58
      | (with_reducible apply zd3;intro hc)
      | (with_reducible apply za6;intro hc)
     · exfalso;exact hc rfl
     · exact q73 rfl rfl rfl ⟨r1,k1⟩
   | none=>
     have hlt:=zu4 hs
     have e:zo2 x.src x.pos 92 j=(if x.src.getD j 0=110 then .ok 10 (j+1) else if x.src.getD j 0=116 then .ok 9 (j+1) else if x.src.getD j 0=92∨x.src.getD j 0=39∨x.src.getD j 0=34 then .ok (x.src.getD j 0) (j+1) else if x.src.getD j 0=120 then hexS x.src x.pos 2 0 (j+1) else .bad 7 x.pos):=by unfold zo2;rw [if_neg (by simp),hs]
     rw [e]
     have hnx:=qg9 hx hL hH hne hp hat hl hs
     generalize x.src.getD j 0=d at *
     have tn:∀ (n:Nat) (m:UInt8),m.toNat=n→(d=m↔(d.toNat:Int)=n):=fun n m hm=>⟨fun h=>by rw [h,hm],fun h=>UInt8.toNat_inj.1 (by omega)⟩
     simp only [tn 110 110 rfl,tn 116 116 rfl,tn 92 92 rfl,tn 39 39 rfl,tn 34 34 rfl,tn 120 120 rfl]
     repeat' first
      | apply z01
      | exact z13
      | exact z19 rfl
      | (apply z15;rfl;rfl)
      | (apply z30;(iterate 3 rfl))
      | (apply z84;rfl;rfl)
      | (apply z63;(iterate 3 rfl))
      | (apply z24;rfl;rfl)
      | (apply z14;rfl;rfl)
      | (apply z29;rfl;rfl)
      | (apply za4;rfl;rfl)
      | (apply z82;rfl;rfl;(assumption);rfl)
      | (apply z27 (hc:=⟨hnx.run⟩);rfl;rfl;(exact rfl);rfl;(exact z19 rfl);rintro H1 ⟨r1,k1⟩)
      | (apply z27 (hc:=⟨(w71 (li:=li) hx k1.1 7 (by decide)).run⟩);rfl;rfl;(exact rfl);rfl;(exact z13);rintro H1 ⟨r1,k1⟩)
      | (apply z04;focus (repeat (first | exact z23 | (apply kq_c;rfl) | (apply z50;rfl))))
      | apply z02
      | apply z00
      | apply z03
      | apply z05
      | apply z07
      | apply z09
      | (apply z35;rfl;(with_reducible rfl))
      | (apply z12;rfl)
      | with_reducible exact zb5
      | with_reducible apply zb4
      | with_reducible apply z57
      | with_reducible apply z58
      | (with_reducible apply za1;intro hc)
      | (with_reducible apply z71;intro hc)
      | (with_reducible apply zd3;intro hc)
      | (with_reducible apply za6;intro hc)
     · exfalso;exact hc rfl
     any_goals (repeat (first | rw [if_pos (by omega)] | rw [if_neg (by omega)]))
     all_goals first
      | (refine q73 rfl rfl rfl ?_;exact And.intro r1 (And.intro k1.1 k1.2))
      | skip
     · refine zk7 (fun p:Nat×Nat=>[(0,.ptr li 0),(7,.c (.int .i64 p.2)),(33,.c (.int .i64 p.1))]) (fun p H'=>p.1≤2∧p.2<16 ^ p.1∧H'[li]?=some (ltO id (j+1+p.1))∧ScH id x H'∧Kp2 li id H H'∧hexS x.src x.pos (2 - p.1) p.2 (j+1+p.1)=hexS x.src x.pos 2 0 (j+1)∧j+1+p.1≤x.src.length) (fun p=>2 - p.1) (0,0) ?_ ⟨by decide,by decide,r1,k1.1,k1.2,rfl,by omega⟩ ?_
       · repeat' first
          | exact z23
          | refine z64 rfl ?_
       rintro ⟨n,v⟩ H2 ⟨hn,hv,g1,g2,g3,g4,g5⟩
       dsimp only at hn hv g1 g2 g3 g4 g5
       dsimp only
       by_cases hn2:n<2
       · refine w24 hx g1 g2 g3 hne (by omega) g5 hl hn2 hv ?_ ?_
         · intro d' H' h1 h2 h3 h4 h5 fr hk
           have hd16:=jm2 h2
           refine ⟨(n+1,16 * v+d'),hk,⟨by dsimp only;omega,?_,h3,h4,h5,?_,?_⟩,by dsimp only;omega⟩
           · dsimp only;rw [Nat.pow_succ];omega
           · dsimp only
             rw [← g4,show 2 - n=(2 - (n+1))+1 by omega,hexS,h1]
             simp only [h2]
             rfl
           · dsimp only;have:=zu4 h1;omega
         · intro code p H' h1 h2 fr h4 h5
           rw [← g4,h1]
           exact q73 h4 h5 rfl h2
       · have hn22:n=2:=by omega
         subst hn22
         have hv256:v<256:=by simpa using hv
         have e9:hexS x.src x.pos 2 0 (j+1)=.ok (UInt8.ofNat v) (j+1+2):=by rw [← g4];rfl
         rw [e9]
         repeat' first
          | apply z01
          | exact z13
          | exact z19 rfl
          | (apply z15;rfl;rfl)
          | (apply z30;(iterate 3 rfl))
          | (apply z24;rfl;rfl)
          | (apply jc6;rfl)
          | (apply z04;focus (repeat (first | exact z23 | (apply kq_c;rfl) | (apply z50;rfl))))
          | apply z02
          | apply z00
          | apply z03
          | apply z05
          | apply z07
          | apply z09
          | apply z56
          | (apply z12;rfl)
          | (with_reducible apply z69;intro hc)
          | (with_reducible apply z52;intro hc)
         · exfalso;omega
         · refine q73 rfl rfl ?_ ?_
           · rw [wq3 ⟨by omega,by omega⟩]
             have:(UInt8.ofNat v).toNat=v:=by simp;omega
             simp only [crW,bC,this]
           · exact And.intro g1 (And.intro g2 g3)
     · refine q73 rfl rfl rfl ?_
       exact And.intro r1 (Kp2.trans (And.right (by assumption:ScH id x _∧Kp2 li id H _)) k1)
 · have e:zo2 x.src x.pos c j=.ok c j:=by unfold zo2;rw [if_pos h92]
   rw [e]
   repeat' first
    | apply z01
    | exact z13
    | exact z19 rfl
    | (apply z15;rfl;rfl)
    | (apply z30;(iterate 3 rfl))
    | (apply z24;rfl;rfl)
    | (apply z04;focus (repeat (first | exact z23 | (apply kq_c;rfl) | (apply z50;rfl))))
    | apply z02
    | apply z00
    | apply z03
    | apply z07
    | apply z09
    | (apply z12;rfl)
    | (with_reducible apply zd3;intro hc)
    | (with_reducible apply za6;intro hc)
   · exact q73 rfl rfl rfl ⟨hL,hH,Kp2.refl⟩
   · exact absurd (UInt8.toNat_inj.1 (by show c.toNat=92;omega)) h92
end Go.Proofs.TryzL
namespace Go.Proofs.Lz
section
variable {V:WEnv} {fr fr':WFr} {H H':z18} {N:Post} {dst:Option Nat}
def wz3 (p:Pl):List (Nat×WV)→List (Nat×WV)
 | []=>[]
 | (s,v)::r=>(s,blind p v)::wz3 p r
theorem ji4 {ek:Option Nat} {xs:List CV}:zr6 ek (.c (.frz ek xs))=some xs:=by
 cases xs with
 | nil=>rfl
 | cons x xs=>simp [zr6,q88]
theorem qj8 {e:Nat} {ek:Option Nat} {bytes p:Nat} {s x:Opd} {xs new:List CV} {l:List (Nat×WV)} {a:List (Nat×Option (Nat×Nat))} (hs:(FL l a).rd s=.view (.sl p 0 0) true 0 e ek xs) (hx:(FL l a).rd x=.c (.frz ek new)) (hb:(xs.length+new.length) * bytes≤140737488355328∧xs.length+new.length≤140737488355328)
 (hq:Put (FL (hitM (inK [.sl p 0 0]) false l) a) dst (.own true e ek (xs++new)) fr') (h:N fr' H):OpP V (.app e ek bytes s x) dst (FL l a) H N:=
 zo5 hs (by rw [hx];exact ji4) hb hq h
end
end Go.Proofs.Lz
