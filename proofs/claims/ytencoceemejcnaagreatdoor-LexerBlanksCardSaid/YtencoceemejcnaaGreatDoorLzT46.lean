/- Chapter 02: a turn of Lex that gives a token. -/
import Derived.Test.YtencoceemejcnaaGreatDoorLzT44
set_option linter.unusedSimpArgs false
set_option linter.unusedVariables false
namespace Go.Proofs.TryzL
open Go.Proofs.Lz
set_option maxHeartbeats 4000000
def z69 (s:List UInt8) (i:Nat) (c:UInt8):U:=
 if (upperB c||lowerB c)=true then zr0 s i
 else if z93 c=true then numU s i
 else if c=39∨c=34 then litU s i c
 else if symB c=true then zj1 i [] (z83 symB s i) (i+(z83 symB s i).length)
 else if spS.contains c=true then .tok 8 [] [c] 0 (i+1)
 else .bad 5 i []
def zj2:ICode:=lexP3.seq (lexP4.seq (lexP5.seq lexT))
theorem zz1 {H:z18} {id f e:Nat} {s q t:List UInt8} {op n:Int} (h:Shr Vv f [.ptr id 0] H (resU (.tok op q t n e)) (qx9 id H s (.tok op q t n e))):Shr Vv f [.ptr id 0] H (.tup [.c (tokC ⟨op,q,t,n,false,0,0⟩),.c (.bool true)]) (fun H'=>ScH id (scAt s e) H'∧KpH id H H'):=by
 obtain ⟨H',a,⟨y,hy,hf⟩,hk⟩:=h.run
 have hf:y=scAt s e:=hf
 subst hf
 exact ⟨H',a,hy,hk⟩
theorem zy3 {H:z18} {id f code p:Nat} {s nm:List UInt8} (h:Shr Vv f [.ptr id 0] H (resU (.bad code p nm)) (qx9 id H s (.bad code p nm))):∃ y,zf3 s code p nm y∧Shr Vv f [.ptr id 0] H (.tup [.c q15,.c (.bool false)]) (fun H'=>ScH id y H'∧KpH id H H'):=by
 obtain ⟨H',a,⟨y,hy,hf⟩,hk⟩:=h.run
 exact ⟨y,hf,H',a,hy,hk⟩
theorem zq8 {H:z18} {id f e:Nat} {s:List UInt8} (h:Shr Vv f [.ptr id 0] H (resU (.skip e)) (qx9 id H s (.skip e))):False:=by
 obtain ⟨H',a,⟨y,hy,hf⟩,hk⟩:=h.run
 exact hf
theorem qj2 {s nm:List UInt8} {code p:Nat} {y:Sc} (h:zf3 s code p nm y):CV.agg [.int .i64 y.code,.str y.name,.int .i64 y.fl,.int .i64 y.fc]=fltC code nm (plc s p).1 (plc s p).2:=by
 obtain ⟨h1,h2,h3,h4⟩:=h
 unfold fltC
 rw [h1,h2,h3,h4]
theorem jl5 {H:z18} {s:List UInt8} {id i:Nat} {c:UInt8} {t6:CV} {N:Post} {B:Hs} {R:RP} (hH:ScH id (scAt s i) H) (hc:s[i]?=some c) (hl:s.length<2^30) (hlen:([]:List Tok).length≤16384)
 (hgo:∀ op q t n e H',z69 s i c=.tok op q t n e→([]:List Tok).length+1≤16384→ScH id (scAt s e) H'→∀ fr,KpL [0,3,4,5,6] fr [0,3,4,5,6] (lexK s id (([]:List Tok)++[⟨op,q,t,n,false,(plc s i).1,(plc s i).2⟩]) (tokC ⟨op,q,t,n,false,(plc s i).1,(plc s i).2⟩))→R.go 0 fr H')
 (hover:∀ op q t n e H',z69 s i c=.tok op q t n e→16384≤([]:List Tok).length→∀ fr:WFr,fr.env 2=.nils→fr.env 3=.lbox (some 4) (.c (fltC 3 [] (plc s i).1 (plc s i).2))→R.ret fr H')
 (hbad:∀ code p nm H',z69 s i c=.bad code p nm→∀ fr:WFr,fr.env 2=.nils→fr.env 3=.lbox (some 4) (.c (fltC code nm (plc s p).1 (plc s p).2))→R.ret fr H')
 (hcl:(upperB c||lowerB c)=true) :
 WP Vv zj2 (FL (lexK s id ([]:List Tok) t6) []) H N B R:=by
 have hH0:H[id]?=some (.var (some 8) (scC (scAt s i))):=hH
 have h0:s[(scAt s i).pos]?=some c:=hc
 have hlt:i<s.length:=(List.getElem?_eq_some_iff.1 hc).1
 have h24:=zf2 c
 have h25:=zj7 c
 have h27:=zh6 c
 unfold zj2 lexP3 lexP4 lexP5 lexK
 generalize hT:lexT=T
 have eu:z69 s i c=zr0 s i:=by unfold z69;rw [if_pos hcl]
 have hcall:=name26 (x:=scAt s i) rfl hH hc hcl hl
 cases hu:zr0 s i with
 | skip e=>have h:=hcall;rw [show zr0 (scAt s i).src (scAt s i).pos=.skip e from hu] at h;exact (zq8 h).elim
 | bad code p nm=>
   rw [show zr0 (scAt s i).src (scAt s i).pos=.bad code p nm from hu] at hcall
   obtain ⟨y,hy,hcall⟩:=zy3 hcall
   have hb:=hbad code p nm
   rw [eu,hu] at hb
   repeat' first|apply z01|exact z12|exact z19 rfl|(apply z15;rfl;rfl)|(apply z84;rfl;rfl)|(apply z17;rfl;(with_reducible rfl);rfl)|(apply z14;rfl;(with_reducible rfl);rfl)|(apply z71;(iterate 3 rfl);assumption)|(apply z68;rfl;rfl)|(apply z57;(iterate 3 rfl))|(apply z24;rfl;rfl)|(apply z16;rfl;rfl)|(apply z29;rfl;rfl)|(apply z25;(iterate 4 rfl);exact z34 (by first | exact rfl | assumption | exact z05 (by assumption)))|(apply z94;rfl;rfl)|(apply z22;rfl;rfl;(assumption);rfl)|(apply z07 (hc:=h24);rfl;rfl;rfl)|(apply z07 (hc:=h25);rfl;rfl;rfl)|(apply z27 (hc:=⟨hcall.run⟩);rfl;rfl;(exact rfl);rfl;(exact z19 rfl);rintro H1 ⟨r1,k1⟩)|(apply z04;focus (repeat (first | exact z23 | (apply kq_c;rfl) | (apply zc6;rfl) | (apply z50;rfl) | (apply z40;rfl))))|apply z02|apply z00|apply z03|apply z06|apply z09|apply z28|apply z55|(apply z35;rfl;(with_reducible rfl))|(apply z13;rfl)|(apply z48;rfl;(with_reducible rfl))|(apply z39;rfl;(with_reducible rfl))|(apply z38;rfl)|(apply z65;(exact rfl))|with_reducible exact zd9|with_reducible apply ze4|with_reducible apply z58|with_reducible apply z60|(with_reducible apply zi4;intro hc)|(apply z52;rfl)|(apply z54;rfl)|(apply zf8;rfl)|(apply dand;rfl)
   try any_goals (exfalso;simp_all;done)
   all_goals exact hb _ rfl _ rfl (congrArg (fun u=>WV.lbox (some 4) (.c u)) (qj2 hy))
 | tok op q t n e=>
   rw [show zr0 (scAt s i).src (scAt s i).pos=.tok op q t n e from hu] at hcall
   have hcall:=zz1 hcall
   have hg:=hgo op q t n e
   have ho:=hover op q t n e
   rw [eu,hu] at hg ho
   repeat' first|apply z01|exact z12|exact z19 rfl|(apply z15;rfl;rfl)|(apply z84;rfl;rfl)|(apply z17;rfl;(with_reducible rfl);rfl)|(apply z14;rfl;(with_reducible rfl);rfl)|(apply z71;(iterate 3 rfl);assumption)|(apply z57;(iterate 3 rfl))|(apply z24;rfl;rfl)|(apply z16;rfl;rfl)|(apply z29;rfl;rfl)|(apply z25;(iterate 4 rfl);exact z34 (by first | exact rfl | assumption | exact z05 (by assumption)))|(apply z94;rfl;rfl)|(apply z22;rfl;rfl;(assumption);rfl)|(apply z07 (hc:=h24);rfl;rfl;rfl)|(apply z07 (hc:=h25);rfl;rfl;rfl)|(apply z27 (hc:=⟨hcall.run⟩);rfl;rfl;(exact rfl);rfl;(exact z19 rfl);rintro H1 ⟨r1,k1⟩)|(apply z04;focus (repeat (first | exact z23 | (apply kq_c;rfl) | (apply zc6;rfl) | (apply z50;rfl) | (apply z40;rfl))))|apply z02|apply z00|apply z03|apply z06|apply z08|apply z28|apply z55|(apply z35;rfl;(with_reducible rfl))|(apply z13;rfl)|(apply z48;rfl;(with_reducible rfl))|(apply z39;rfl;(with_reducible rfl))|(apply z38;rfl)|(apply z65;(exact rfl))|with_reducible exact zb1|with_reducible apply zb3|with_reducible apply z58|with_reducible apply z60|(with_reducible apply zi4;intro hc)|(apply z52;rfl)|(apply z54;rfl)|(apply dand;rfl)
   try any_goals (exfalso;simp_all;done)
   all_goals exact hT▸js4 (t:=⟨op,q,t,n,false,0,0⟩) hlen (fun h fr hk=>hg _ rfl h r1 fr hk) (fun h fr h1 h2=>ho _ rfl h fr h1 h2)
theorem jw6 {H:z18} {s:List UInt8} {id i:Nat} {c:UInt8} {t6:CV} {N:Post} {B:Hs} {R:RP} (hH:ScH id (scAt s i) H) (hc:s[i]?=some c) (hl:s.length<2^30) (hlen:([]:List Tok).length≤16384)
 (hgo:∀ op q t n e H',z69 s i c=.tok op q t n e→([]:List Tok).length+1≤16384→ScH id (scAt s e) H'→∀ fr,KpL [0,3,4,5,6] fr [0,3,4,5,6] (lexK s id (([]:List Tok)++[⟨op,q,t,n,false,(plc s i).1,(plc s i).2⟩]) (tokC ⟨op,q,t,n,false,(plc s i).1,(plc s i).2⟩))→R.go 0 fr H')
 (hover:∀ op q t n e H',z69 s i c=.tok op q t n e→16384≤([]:List Tok).length→∀ fr:WFr,fr.env 2=.nils→fr.env 3=.lbox (some 4) (.c (fltC 3 [] (plc s i).1 (plc s i).2))→R.ret fr H')
 (hbad:∀ code p nm H',z69 s i c=.bad code p nm→∀ fr:WFr,fr.env 2=.nils→fr.env 3=.lbox (some 4) (.c (fltC code nm (plc s p).1 (plc s p).2))→R.ret fr H')
 (hcl:¬ (upperB c||lowerB c)=true) (hd:z93 c=true) :
 WP Vv zj2 (FL (lexK s id ([]:List Tok) t6) []) H N B R:=by
 have hH0:H[id]?=some (.var (some 8) (scC (scAt s i))):=hH
 have h0:s[(scAt s i).pos]?=some c:=hc
 have hlt:i<s.length:=(List.getElem?_eq_some_iff.1 hc).1
 have h24:=zf2 c
 have h25:=zj7 c
 have h27:=zh6 c
 unfold zj2 lexP3 lexP4 lexP5 lexK
 generalize hT:lexT=T
 have eu:z69 s i c=numU s i:=by unfold z69;rw [if_neg hcl,if_pos hd]
 have hcall:=ja2 (x:=scAt s i) rfl hH (by show i≤s.length;omega) hl
 have hup:upperB c=false:=Bool.eq_false_iff.2 (fun h=>hcl (by rw [h];rfl))
 have hlo:lowerB c=false:=Bool.eq_false_iff.2 (fun h=>hcl (by rw [h];exact Bool.or_true _))
 rw [hup] at h24
 rw [hlo] at h25
 rw [hd] at h27
 cases hu:numU s i with
 | skip e=>have h:=hcall;rw [show numU (scAt s i).src (scAt s i).pos=.skip e from hu] at h;exact (zq8 h).elim
 | bad code p nm=>
   rw [show numU (scAt s i).src (scAt s i).pos=.bad code p nm from hu] at hcall
   obtain ⟨y,hy,hcall⟩:=zy3 hcall
   have hb:=hbad code p nm
   rw [eu,hu] at hb
   repeat' first|apply z01|exact z12|exact z19 rfl|(apply z15;rfl;rfl)|(apply z84;rfl;rfl)|(apply z14;rfl;(with_reducible rfl);rfl)|(apply z71;(iterate 3 rfl);assumption)|(apply z68;rfl;rfl)|(apply z57;(iterate 3 rfl))|(apply z24;rfl;rfl)|(apply z16;rfl;rfl)|(apply z29;rfl;rfl)|(apply z25;(iterate 4 rfl);exact z34 (by first | exact rfl | assumption | exact z05 (by assumption)))|(apply z94;rfl;rfl)|(apply z22;rfl;rfl;(assumption);rfl)|(apply z07 (hc:=h24);rfl;rfl;rfl)|(apply z07 (hc:=h25);rfl;rfl;rfl)|(apply z07 (hc:=h27);rfl;rfl;rfl)|(apply z27 (hc:=⟨hcall.run⟩);rfl;rfl;(exact rfl);rfl;(exact z19 rfl);rintro H1 ⟨r1,k1⟩)|(apply z04;focus (repeat (first | exact z23 | (apply kq_c;rfl) | (apply zc6;rfl) | (apply z50;rfl) | (apply z40;rfl))))|apply z02|apply z00|apply z03|apply z06|apply z09|apply z28|apply z55|(apply z35;rfl;(with_reducible rfl))|(apply z32;rfl;(with_reducible rfl))|(apply z13;rfl)|(apply z48;rfl;(with_reducible rfl))|(apply z65;(exact rfl))|with_reducible exact zd9|with_reducible apply ze4|with_reducible apply z58|with_reducible apply z60|(apply z52;rfl)|(apply z54;rfl)|(apply zf8;rfl)|(apply dand;rfl)
   try any_goals (exfalso;simp_all;done)
   all_goals exact hb _ rfl _ rfl (congrArg (fun u=>WV.lbox (some 4) (.c u)) (qj2 hy))
 | tok op q t n e=>
   rw [show numU (scAt s i).src (scAt s i).pos=.tok op q t n e from hu] at hcall
   have hcall:=zz1 hcall
   have hg:=hgo op q t n e
   have ho:=hover op q t n e
   rw [eu,hu] at hg ho
   repeat' first|apply z01|exact z12|exact z19 rfl|(apply z15;rfl;rfl)|(apply z84;rfl;rfl)|(apply z14;rfl;(with_reducible rfl);rfl)|(apply z71;(iterate 3 rfl);assumption)|(apply z57;(iterate 3 rfl))|(apply z24;rfl;rfl)|(apply z16;rfl;rfl)|(apply z29;rfl;rfl)|(apply z25;(iterate 4 rfl);exact z34 (by first | exact rfl | assumption | exact z05 (by assumption)))|(apply z94;rfl;rfl)|(apply z22;rfl;rfl;(assumption);rfl)|(apply z07 (hc:=h24);rfl;rfl;rfl)|(apply z07 (hc:=h25);rfl;rfl;rfl)|(apply z07 (hc:=h27);rfl;rfl;rfl)|(apply z27 (hc:=⟨hcall.run⟩);rfl;rfl;(exact rfl);rfl;(exact z19 rfl);rintro H1 ⟨r1,k1⟩)|(apply z04;focus (repeat (first | exact z23 | (apply kq_c;rfl) | (apply zc6;rfl) | (apply z50;rfl) | (apply z40;rfl))))|apply z02|apply z00|apply z03|apply z06|apply z08|apply z28|apply z55|(apply z35;rfl;(with_reducible rfl))|(apply z32;rfl;(with_reducible rfl))|(apply z13;rfl)|(apply z48;rfl;(with_reducible rfl))|(apply z65;(exact rfl))|with_reducible exact zb1|with_reducible apply zb3|with_reducible apply z58|with_reducible apply z60|(apply z52;rfl)|(apply z54;rfl)|(apply dand;rfl)
   try any_goals (exfalso;simp_all;done)
   all_goals exact hT▸js4 (t:=⟨op,q,t,n,false,0,0⟩) hlen (fun h fr hk=>hg _ rfl h r1 fr hk) (fun h fr h1 h2=>ho _ rfl h fr h1 h2)
theorem jj9 {H:z18} {s:List UInt8} {id i:Nat} {c:UInt8} {a:Tok} {r:List Tok} {t6:CV} {N:Post} {B:Hs} {R:RP} (hH:ScH id (scAt s i) H) (hc:s[i]?=some c) (hl:s.length<2^30) (hlen:(a::r).length≤16384)
 (hgo:∀ op q t n e H',z69 s i c=.tok op q t n e→(a::r).length+1≤16384→ScH id (scAt s e) H'→∀ fr,KpL [0,3,4,5,6] fr [0,3,4,5,6] (lexK s id ((a::r)++[⟨op,q,t,n,false,(plc s i).1,(plc s i).2⟩]) (tokC ⟨op,q,t,n,false,(plc s i).1,(plc s i).2⟩))→R.go 0 fr H')
 (hover:∀ op q t n e H',z69 s i c=.tok op q t n e→16384≤(a::r).length→∀ fr:WFr,fr.env 2=.nils→fr.env 3=.lbox (some 4) (.c (fltC 3 [] (plc s i).1 (plc s i).2))→R.ret fr H')
 (hbad:∀ code p nm H',z69 s i c=.bad code p nm→∀ fr:WFr,fr.env 2=.nils→fr.env 3=.lbox (some 4) (.c (fltC code nm (plc s p).1 (plc s p).2))→R.ret fr H')
 (hcl:(upperB c||lowerB c)=true) :
 WP Vv zj2 (FL (lexK s id (a::r) t6) []) H N B R:=by
 have hH0:H[id]?=some (.var (some 8) (scC (scAt s i))):=hH
 have h0:s[(scAt s i).pos]?=some c:=hc
 have hlt:i<s.length:=(List.getElem?_eq_some_iff.1 hc).1
 have h24:=zf2 c
 have h25:=zj7 c
 have h27:=zh6 c
 unfold zj2 lexP3 lexP4 lexP5 lexK
 generalize hT:lexT=T
 have eu:z69 s i c=zr0 s i:=by unfold z69;rw [if_pos hcl]
 have hcall:=name26 (x:=scAt s i) rfl hH hc hcl hl
 cases hu:zr0 s i with
 | skip e=>have h:=hcall;rw [show zr0 (scAt s i).src (scAt s i).pos=.skip e from hu] at h;exact (zq8 h).elim
 | bad code p nm=>
   rw [show zr0 (scAt s i).src (scAt s i).pos=.bad code p nm from hu] at hcall
   obtain ⟨y,hy,hcall⟩:=zy3 hcall
   have hb:=hbad code p nm
   rw [eu,hu] at hb
   repeat' first|apply z01|exact z12|exact z19 rfl|(apply z15;rfl;rfl)|(apply z84;rfl;rfl)|(apply z17;rfl;(with_reducible rfl);rfl)|(apply z14;rfl;(with_reducible rfl);rfl)|(apply z71;(iterate 3 rfl);assumption)|(apply z68;rfl;rfl)|(apply z57;(iterate 3 rfl))|(apply z24;rfl;rfl)|(apply z16;rfl;rfl)|(apply z29;rfl;rfl)|(apply z25;(iterate 4 rfl);exact z34 (by first | exact rfl | assumption | exact z05 (by assumption)))|(apply z94;rfl;rfl)|(apply z22;rfl;rfl;(assumption);rfl)|(apply z07 (hc:=h24);rfl;rfl;rfl)|(apply z07 (hc:=h25);rfl;rfl;rfl)|(apply z27 (hc:=⟨hcall.run⟩);rfl;rfl;(exact rfl);rfl;(exact z19 rfl);rintro H1 ⟨r1,k1⟩)|(apply z04;focus (repeat (first | exact z23 | (apply kq_c;rfl) | (apply ze6;rfl;rfl) | (apply z50;rfl) | (apply z40;rfl))))|apply z02|apply z00|apply z03|apply z06|apply z09|apply z28|apply z55|(apply z35;rfl;(with_reducible rfl))|(apply z13;rfl)|(apply z48;rfl;(with_reducible rfl))|(apply z39;rfl;(with_reducible rfl))|(apply z38;rfl)|(apply z65;(exact rfl))|with_reducible exact zd9|with_reducible apply ze4|with_reducible apply z58|with_reducible apply z60|(with_reducible apply zi4;intro hc)|(apply z52;rfl)|(apply z54;rfl)|(apply zf8;rfl)|(apply dand;rfl)
   try any_goals (exfalso;simp_all;done)
   all_goals exact hb _ rfl _ rfl (congrArg (fun u=>WV.lbox (some 4) (.c u)) (qj2 hy))
 | tok op q t n e=>
   rw [show zr0 (scAt s i).src (scAt s i).pos=.tok op q t n e from hu] at hcall
   have hcall:=zz1 hcall
   have hg:=hgo op q t n e
   have ho:=hover op q t n e
   rw [eu,hu] at hg ho
   repeat' first|apply z01|exact z12|exact z19 rfl|(apply z15;rfl;rfl)|(apply z84;rfl;rfl)|(apply z17;rfl;(with_reducible rfl);rfl)|(apply z14;rfl;(with_reducible rfl);rfl)|(apply z71;(iterate 3 rfl);assumption)|(apply z57;(iterate 3 rfl))|(apply z24;rfl;rfl)|(apply z16;rfl;rfl)|(apply z29;rfl;rfl)|(apply z25;(iterate 4 rfl);exact z34 (by first | exact rfl | assumption | exact z05 (by assumption)))|(apply z94;rfl;rfl)|(apply z22;rfl;rfl;(assumption);rfl)|(apply z07 (hc:=h24);rfl;rfl;rfl)|(apply z07 (hc:=h25);rfl;rfl;rfl)|(apply z27 (hc:=⟨hcall.run⟩);rfl;rfl;(exact rfl);rfl;(exact z19 rfl);rintro H1 ⟨r1,k1⟩)|(apply z04;focus (repeat (first | exact z23 | (apply kq_c;rfl) | (apply ze6;rfl;rfl) | (apply z50;rfl) | (apply z40;rfl))))|apply z02|apply z00|apply z03|apply z06|apply z08|apply z28|apply z55|(apply z35;rfl;(with_reducible rfl))|(apply z13;rfl)|(apply z48;rfl;(with_reducible rfl))|(apply z39;rfl;(with_reducible rfl))|(apply z38;rfl)|(apply z65;(exact rfl))|with_reducible exact zb1|with_reducible apply zb3|with_reducible apply z58|with_reducible apply z60|(with_reducible apply zi4;intro hc)|(apply z52;rfl)|(apply z54;rfl)|(apply dand;rfl)
   try any_goals (exfalso;simp_all;done)
   all_goals exact hT▸jt5 (t:=⟨op,q,t,n,false,0,0⟩) hlen (fun h fr hk=>hg _ rfl h r1 fr hk) (fun h fr h1 h2=>ho _ rfl h fr h1 h2)
theorem w13 {H:z18} {s:List UInt8} {id i:Nat} {c:UInt8} {a:Tok} {r:List Tok} {t6:CV} {N:Post} {B:Hs} {R:RP} (hH:ScH id (scAt s i) H) (hc:s[i]?=some c) (hl:s.length<2^30) (hlen:(a::r).length≤16384)
 (hgo:∀ op q t n e H',z69 s i c=.tok op q t n e→(a::r).length+1≤16384→ScH id (scAt s e) H'→∀ fr,KpL [0,3,4,5,6] fr [0,3,4,5,6] (lexK s id ((a::r)++[⟨op,q,t,n,false,(plc s i).1,(plc s i).2⟩]) (tokC ⟨op,q,t,n,false,(plc s i).1,(plc s i).2⟩))→R.go 0 fr H')
 (hover:∀ op q t n e H',z69 s i c=.tok op q t n e→16384≤(a::r).length→∀ fr:WFr,fr.env 2=.nils→fr.env 3=.lbox (some 4) (.c (fltC 3 [] (plc s i).1 (plc s i).2))→R.ret fr H')
 (hbad:∀ code p nm H',z69 s i c=.bad code p nm→∀ fr:WFr,fr.env 2=.nils→fr.env 3=.lbox (some 4) (.c (fltC code nm (plc s p).1 (plc s p).2))→R.ret fr H')
 (hcl:¬ (upperB c||lowerB c)=true) (hd:z93 c=true) :
 WP Vv zj2 (FL (lexK s id (a::r) t6) []) H N B R:=by
 have hH0:H[id]?=some (.var (some 8) (scC (scAt s i))):=hH
 have h0:s[(scAt s i).pos]?=some c:=hc
 have hlt:i<s.length:=(List.getElem?_eq_some_iff.1 hc).1
 have h24:=zf2 c
 have h25:=zj7 c
 have h27:=zh6 c
 unfold zj2 lexP3 lexP4 lexP5 lexK
 generalize hT:lexT=T
 have eu:z69 s i c=numU s i:=by unfold z69;rw [if_neg hcl,if_pos hd]
 have hcall:=ja2 (x:=scAt s i) rfl hH (by show i≤s.length;omega) hl
 have hup:upperB c=false:=Bool.eq_false_iff.2 (fun h=>hcl (by rw [h];rfl))
 have hlo:lowerB c=false:=Bool.eq_false_iff.2 (fun h=>hcl (by rw [h];exact Bool.or_true _))
 rw [hup] at h24
 rw [hlo] at h25
 rw [hd] at h27
 cases hu:numU s i with
 | skip e=>have h:=hcall;rw [show numU (scAt s i).src (scAt s i).pos=.skip e from hu] at h;exact (zq8 h).elim
 | bad code p nm=>
   rw [show numU (scAt s i).src (scAt s i).pos=.bad code p nm from hu] at hcall
   obtain ⟨y,hy,hcall⟩:=zy3 hcall
   have hb:=hbad code p nm
   rw [eu,hu] at hb
   repeat' first|apply z01|exact z12|exact z19 rfl|(apply z15;rfl;rfl)|(apply z84;rfl;rfl)|(apply z14;rfl;(with_reducible rfl);rfl)|(apply z71;(iterate 3 rfl);assumption)|(apply z68;rfl;rfl)|(apply z57;(iterate 3 rfl))|(apply z24;rfl;rfl)|(apply z16;rfl;rfl)|(apply z29;rfl;rfl)|(apply z25;(iterate 4 rfl);exact z34 (by first | exact rfl | assumption | exact z05 (by assumption)))|(apply z94;rfl;rfl)|(apply z22;rfl;rfl;(assumption);rfl)|(apply z07 (hc:=h24);rfl;rfl;rfl)|(apply z07 (hc:=h25);rfl;rfl;rfl)|(apply z07 (hc:=h27);rfl;rfl;rfl)|(apply z27 (hc:=⟨hcall.run⟩);rfl;rfl;(exact rfl);rfl;(exact z19 rfl);rintro H1 ⟨r1,k1⟩)|(apply z04;focus (repeat (first | exact z23 | (apply kq_c;rfl) | (apply ze6;rfl;rfl) | (apply z50;rfl) | (apply z40;rfl))))|apply z02|apply z00|apply z03|apply z06|apply z09|apply z28|apply z55|(apply z35;rfl;(with_reducible rfl))|(apply z32;rfl;(with_reducible rfl))|(apply z13;rfl)|(apply z48;rfl;(with_reducible rfl))|(apply z65;(exact rfl))|with_reducible exact zd9|with_reducible apply ze4|with_reducible apply z58|with_reducible apply z60|(apply z52;rfl)|(apply z54;rfl)|(apply zf8;rfl)|(apply dand;rfl)
   try any_goals (exfalso;simp_all;done)
   all_goals exact hb _ rfl _ rfl (congrArg (fun u=>WV.lbox (some 4) (.c u)) (qj2 hy))
 | tok op q t n e=>
   rw [show numU (scAt s i).src (scAt s i).pos=.tok op q t n e from hu] at hcall
   have hcall:=zz1 hcall
   have hg:=hgo op q t n e
   have ho:=hover op q t n e
   rw [eu,hu] at hg ho
   repeat' first|apply z01|exact z12|exact z19 rfl|(apply z15;rfl;rfl)|(apply z84;rfl;rfl)|(apply z14;rfl;(with_reducible rfl);rfl)|(apply z71;(iterate 3 rfl);assumption)|(apply z57;(iterate 3 rfl))|(apply z24;rfl;rfl)|(apply z16;rfl;rfl)|(apply z29;rfl;rfl)|(apply z25;(iterate 4 rfl);exact z34 (by first | exact rfl | assumption | exact z05 (by assumption)))|(apply z94;rfl;rfl)|(apply z22;rfl;rfl;(assumption);rfl)|(apply z07 (hc:=h24);rfl;rfl;rfl)|(apply z07 (hc:=h25);rfl;rfl;rfl)|(apply z07 (hc:=h27);rfl;rfl;rfl)|(apply z27 (hc:=⟨hcall.run⟩);rfl;rfl;(exact rfl);rfl;(exact z19 rfl);rintro H1 ⟨r1,k1⟩)|(apply z04;focus (repeat (first | exact z23 | (apply kq_c;rfl) | (apply ze6;rfl;rfl) | (apply z50;rfl) | (apply z40;rfl))))|apply z02|apply z00|apply z03|apply z06|apply z08|apply z28|apply z55|(apply z35;rfl;(with_reducible rfl))|(apply z32;rfl;(with_reducible rfl))|(apply z13;rfl)|(apply z48;rfl;(with_reducible rfl))|(apply z65;(exact rfl))|with_reducible exact zb1|with_reducible apply zb3|with_reducible apply z58|with_reducible apply z60|(apply z52;rfl)|(apply z54;rfl)|(apply dand;rfl)
   try any_goals (exfalso;simp_all;done)
   all_goals exact hT▸jt5 (t:=⟨op,q,t,n,false,0,0⟩) hlen (fun h fr hk=>hg _ rfl h r1 fr hk) (fun h fr h1 h2=>ho _ rfl h fr h1 h2)
end Go.Proofs.TryzL
namespace Go.Proofs.TryzL
open Go.Proofs.Lz
set_option maxHeartbeats 4000000
theorem w14 {H:z18} {s:List UInt8} {id i:Nat} {c:UInt8} {t6:CV} {N:Post} {B:Hs} {R:RP} (hH:ScH id (scAt s i) H) (hc:s[i]?=some c) (hl:s.length<2^30) (hlen:([]:List Tok).length≤16384)
 (hgo:∀ op q t n e H',z69 s i c=.tok op q t n e→([]:List Tok).length+1≤16384→ScH id (scAt s e) H'→∀ fr,KpL [0,3,4,5,6] fr [0,3,4,5,6] (lexK s id (([]:List Tok)++[⟨op,q,t,n,false,(plc s i).1,(plc s i).2⟩]) (tokC ⟨op,q,t,n,false,(plc s i).1,(plc s i).2⟩))→R.go 0 fr H')
 (hover:∀ op q t n e H',z69 s i c=.tok op q t n e→16384≤([]:List Tok).length→∀ fr:WFr,fr.env 2=.nils→fr.env 3=.lbox (some 4) (.c (fltC 3 [] (plc s i).1 (plc s i).2))→R.ret fr H')
 (hbad:∀ code p nm H',z69 s i c=.bad code p nm→∀ fr:WFr,fr.env 2=.nils→fr.env 3=.lbox (some 4) (.c (fltC code nm (plc s p).1 (plc s p).2))→R.ret fr H')
 (hcl:¬ (upperB c||lowerB c)=true) (hd:¬ z93 c=true) (hq:c=39∨c=34) :
   WP Vv zj2 (FL (lexK s id ([]:List Tok) t6) []) H N B R:=by
  have hH0:H[id]?=some (.var (some 8) (scC (scAt s i))):=hH
  have h0:s[(scAt s i).pos]?=some c:=hc
  have hlt:i<s.length:=(List.getElem?_eq_some_iff.1 hc).1
  have h24:=zf2 c
  have h25:=zj7 c
  have h27:=zh6 c
  unfold zj2 lexP3 lexP4 lexP5 lexK
  generalize hT:lexT=T
  have hup:upperB c=false:=Bool.eq_false_iff.2 (fun h=>hcl (by rw [h];rfl))
  have hlo:lowerB c=false:=Bool.eq_false_iff.2 (fun h=>hcl (by rw [h];exact Bool.or_true _))
  rw [hup] at h24
  rw [hlo] at h25
  rw [Bool.eq_false_iff.2 hd] at h27
  have hxj:scAt (scAt s i).src (scAt s i).pos=scAt s i:=rfl
  have hj1:(scAt s i).pos+1≤(scAt s i).src.length:=by show i+1≤s.length;omega
  have hjp:(scAt s i).pos≤(scAt s i).src.length:=by show i≤s.length;omega
  have hl50:(scAt s i).src.length<2^50:=by show s.length<_;omega
  have hl60:(scAt s i).src.length<2^60:=by show s.length<_;omega
  have hq':(c.toNat:Int)=39∨(c.toNat:Int)=34:=hq.imp qk1 qk1
  have eu:z69 s i c=litU s i c:=by unfold z69;rw [if_neg hcl,if_neg hd,if_pos hq]
  have hcall:=jd2 (x:=scAt s i) rfl hH hc hq hl
  cases hu:litU s i c with
  | skip e=>have h:=hcall;rw [show litU (scAt s i).src (scAt s i).pos c=.skip e from hu] at h;exact (zq8 h).elim
  | bad code p nm=>
    rw [show litU (scAt s i).src (scAt s i).pos c=.bad code p nm from hu] at hcall
    obtain ⟨y,hy,hcall⟩:=zy3 hcall
    have hb:=hbad code p nm
    rw [eu,hu] at hb
    repeat' first|apply z01|exact z12|exact z19 rfl|(apply z15;rfl;rfl)|(apply z30;(iterate 3 rfl))|(apply z84;rfl;rfl)|(apply z17;rfl;(with_reducible rfl);rfl)|(apply z14;rfl;(with_reducible rfl);rfl)|(apply z71;(iterate 3 rfl);assumption)|(apply z68;rfl;rfl)|(apply z57;(iterate 3 rfl))|(apply z24;rfl;rfl)|(apply z16;rfl;rfl)|(apply z29;rfl;rfl)|(apply z25;(iterate 4 rfl);exact z34 (by first | exact rfl | assumption | exact z05 (by assumption)))|(apply z94;rfl;rfl)|(apply z22;rfl;rfl;(assumption);rfl)|(apply z07 (hc:=h24);rfl;rfl;rfl)|(apply z07 (hc:=h25);rfl;rfl;rfl)|(apply z07 (hc:=h27);rfl;rfl;rfl)|(apply z27 (hc:=⟨hcall.run⟩);rfl;rfl;(exact rfl);rfl;(exact z19 rfl);rintro H1 ⟨r1,k1⟩)|(apply z04;focus (repeat (first | exact z23 | (apply kq_c;rfl) | (apply zc6;rfl) | (apply z50;rfl) | (apply z40;rfl))))|apply z02|apply z00|apply z03|apply z06|apply z09|apply z28|apply z55|(apply z35;rfl;(with_reducible rfl))|(apply z32;rfl;(with_reducible rfl))|(apply z13;rfl)|(apply z48;rfl;(with_reducible rfl))|(apply z39;rfl;(with_reducible rfl))|(apply z38;rfl)|(apply z65;(exact rfl))|with_reducible exact zd9|with_reducible apply ze4|with_reducible apply z58|with_reducible apply z60|(with_reducible apply za1;intro hc)|(with_reducible apply z74;intro hc)|(apply z52;rfl)|(apply z54;rfl)|(apply zf8;rfl)|(apply dand;rfl)
    try any_goals (exfalso;omega)
    all_goals exact hb _ rfl _ rfl (congrArg (fun u=>WV.lbox (some 4) (.c u)) (qj2 hy))
  | tok op q t n e=>
    rw [show litU (scAt s i).src (scAt s i).pos c=.tok op q t n e from hu] at hcall
    have hcall:=zz1 hcall
    have hg:=hgo op q t n e
    have ho:=hover op q t n e
    rw [eu,hu] at hg ho
    repeat' first|apply z01|exact z12|exact z19 rfl|(apply z15;rfl;rfl)|(apply z30;(iterate 3 rfl))|(apply z84;rfl;rfl)|(apply z17;rfl;(with_reducible rfl);rfl)|(apply z14;rfl;(with_reducible rfl);rfl)|(apply z71;(iterate 3 rfl);assumption)|(apply z57;(iterate 3 rfl))|(apply z24;rfl;rfl)|(apply z16;rfl;rfl)|(apply z29;rfl;rfl)|(apply z25;(iterate 4 rfl);exact z34 (by first | exact rfl | assumption | exact z05 (by assumption)))|(apply z94;rfl;rfl)|(apply z22;rfl;rfl;(assumption);rfl)|(apply z07 (hc:=h24);rfl;rfl;rfl)|(apply z07 (hc:=h25);rfl;rfl;rfl)|(apply z07 (hc:=h27);rfl;rfl;rfl)|(apply z27 (hc:=⟨hcall.run⟩);rfl;rfl;(exact rfl);rfl;(exact z19 rfl);rintro H1 ⟨r1,k1⟩)|(apply z04;focus (repeat (first | exact z23 | (apply kq_c;rfl) | (apply zc6;rfl) | (apply z50;rfl) | (apply z40;rfl))))|apply z02|apply z00|apply z03|apply z06|apply z08|apply z28|apply z55|(apply z35;rfl;(with_reducible rfl))|(apply z32;rfl;(with_reducible rfl))|(apply z13;rfl)|(apply z48;rfl;(with_reducible rfl))|(apply z39;rfl;(with_reducible rfl))|(apply z38;rfl)|(apply z65;(exact rfl))|with_reducible exact zb1|with_reducible apply zb3|with_reducible apply z58|with_reducible apply z60|(with_reducible apply za1;intro hc)|(with_reducible apply z74;intro hc)|(apply z52;rfl)|(apply z54;rfl)|(apply dand;rfl)
    try any_goals (exfalso;omega)
    all_goals exact hT▸js4 (t:=⟨op,q,t,n,false,0,0⟩) hlen (fun h fr hk=>hg _ rfl h r1 fr hk) (fun h fr h1 h2=>ho _ rfl h fr h1 h2)
theorem jz9 {H:z18} {s:List UInt8} {id i:Nat} {c:UInt8} {a:Tok} {r:List Tok} {t6:CV} {N:Post} {B:Hs} {R:RP} (hH:ScH id (scAt s i) H) (hc:s[i]?=some c) (hl:s.length<2^30) (hlen:(a::r).length≤16384)
 (hgo:∀ op q t n e H',z69 s i c=.tok op q t n e→(a::r).length+1≤16384→ScH id (scAt s e) H'→∀ fr,KpL [0,3,4,5,6] fr [0,3,4,5,6] (lexK s id ((a::r)++[⟨op,q,t,n,false,(plc s i).1,(plc s i).2⟩]) (tokC ⟨op,q,t,n,false,(plc s i).1,(plc s i).2⟩))→R.go 0 fr H')
 (hover:∀ op q t n e H',z69 s i c=.tok op q t n e→16384≤(a::r).length→∀ fr:WFr,fr.env 2=.nils→fr.env 3=.lbox (some 4) (.c (fltC 3 [] (plc s i).1 (plc s i).2))→R.ret fr H')
 (hbad:∀ code p nm H',z69 s i c=.bad code p nm→∀ fr:WFr,fr.env 2=.nils→fr.env 3=.lbox (some 4) (.c (fltC code nm (plc s p).1 (plc s p).2))→R.ret fr H')
 (hcl:¬ (upperB c||lowerB c)=true) (hd:¬ z93 c=true) (hq:c=39∨c=34) :
   WP Vv zj2 (FL (lexK s id (a::r) t6) []) H N B R:=by
  have hH0:H[id]?=some (.var (some 8) (scC (scAt s i))):=hH
  have h0:s[(scAt s i).pos]?=some c:=hc
  have hlt:i<s.length:=(List.getElem?_eq_some_iff.1 hc).1
  have h24:=zf2 c
  have h25:=zj7 c
  have h27:=zh6 c
  unfold zj2 lexP3 lexP4 lexP5 lexK
  generalize hT:lexT=T
  have hup:upperB c=false:=Bool.eq_false_iff.2 (fun h=>hcl (by rw [h];rfl))
  have hlo:lowerB c=false:=Bool.eq_false_iff.2 (fun h=>hcl (by rw [h];exact Bool.or_true _))
  rw [hup] at h24
  rw [hlo] at h25
  rw [Bool.eq_false_iff.2 hd] at h27
  have hxj:scAt (scAt s i).src (scAt s i).pos=scAt s i:=rfl
  have hj1:(scAt s i).pos+1≤(scAt s i).src.length:=by show i+1≤s.length;omega
  have hjp:(scAt s i).pos≤(scAt s i).src.length:=by show i≤s.length;omega
  have hl50:(scAt s i).src.length<2^50:=by show s.length<_;omega
  have hl60:(scAt s i).src.length<2^60:=by show s.length<_;omega
  have hq':(c.toNat:Int)=39∨(c.toNat:Int)=34:=hq.imp qk1 qk1
  have eu:z69 s i c=litU s i c:=by unfold z69;rw [if_neg hcl,if_neg hd,if_pos hq]
  have hcall:=jd2 (x:=scAt s i) rfl hH hc hq hl
  cases hu:litU s i c with
  | skip e=>have h:=hcall;rw [show litU (scAt s i).src (scAt s i).pos c=.skip e from hu] at h;exact (zq8 h).elim
  | bad code p nm=>
    rw [show litU (scAt s i).src (scAt s i).pos c=.bad code p nm from hu] at hcall
    obtain ⟨y,hy,hcall⟩:=zy3 hcall
    have hb:=hbad code p nm
    rw [eu,hu] at hb
    repeat' first|apply z01|exact z12|exact z19 rfl|(apply z15;rfl;rfl)|(apply z30;(iterate 3 rfl))|(apply z84;rfl;rfl)|(apply z17;rfl;(with_reducible rfl);rfl)|(apply z14;rfl;(with_reducible rfl);rfl)|(apply z71;(iterate 3 rfl);assumption)|(apply z68;rfl;rfl)|(apply z57;(iterate 3 rfl))|(apply z24;rfl;rfl)|(apply z16;rfl;rfl)|(apply z29;rfl;rfl)|(apply z25;(iterate 4 rfl);exact z34 (by first | exact rfl | assumption | exact z05 (by assumption)))|(apply z94;rfl;rfl)|(apply z22;rfl;rfl;(assumption);rfl)|(apply z07 (hc:=h24);rfl;rfl;rfl)|(apply z07 (hc:=h25);rfl;rfl;rfl)|(apply z07 (hc:=h27);rfl;rfl;rfl)|(apply z27 (hc:=⟨hcall.run⟩);rfl;rfl;(exact rfl);rfl;(exact z19 rfl);rintro H1 ⟨r1,k1⟩)|(apply z04;focus (repeat (first | exact z23 | (apply kq_c;rfl) | (apply ze6;rfl;rfl) | (apply z50;rfl) | (apply z40;rfl))))|apply z02|apply z00|apply z03|apply z06|apply z09|apply z28|apply z55|(apply z35;rfl;(with_reducible rfl))|(apply z32;rfl;(with_reducible rfl))|(apply z13;rfl)|(apply z48;rfl;(with_reducible rfl))|(apply z39;rfl;(with_reducible rfl))|(apply z38;rfl)|(apply z65;(exact rfl))|with_reducible exact zd9|with_reducible apply ze4|with_reducible apply z58|with_reducible apply z60|(with_reducible apply za1;intro hc)|(with_reducible apply z74;intro hc)|(apply z52;rfl)|(apply z54;rfl)|(apply zf8;rfl)|(apply dand;rfl)
    try any_goals (exfalso;omega)
    all_goals exact hb _ rfl _ rfl (congrArg (fun u=>WV.lbox (some 4) (.c u)) (qj2 hy))
  | tok op q t n e=>
    rw [show litU (scAt s i).src (scAt s i).pos c=.tok op q t n e from hu] at hcall
    have hcall:=zz1 hcall
    have hg:=hgo op q t n e
    have ho:=hover op q t n e
    rw [eu,hu] at hg ho
    repeat' first|apply z01|exact z12|exact z19 rfl|(apply z15;rfl;rfl)|(apply z30;(iterate 3 rfl))|(apply z84;rfl;rfl)|(apply z17;rfl;(with_reducible rfl);rfl)|(apply z14;rfl;(with_reducible rfl);rfl)|(apply z71;(iterate 3 rfl);assumption)|(apply z57;(iterate 3 rfl))|(apply z24;rfl;rfl)|(apply z16;rfl;rfl)|(apply z29;rfl;rfl)|(apply z25;(iterate 4 rfl);exact z34 (by first | exact rfl | assumption | exact z05 (by assumption)))|(apply z94;rfl;rfl)|(apply z22;rfl;rfl;(assumption);rfl)|(apply z07 (hc:=h24);rfl;rfl;rfl)|(apply z07 (hc:=h25);rfl;rfl;rfl)|(apply z07 (hc:=h27);rfl;rfl;rfl)|(apply z27 (hc:=⟨hcall.run⟩);rfl;rfl;(exact rfl);rfl;(exact z19 rfl);rintro H1 ⟨r1,k1⟩)|(apply z04;focus (repeat (first | exact z23 | (apply kq_c;rfl) | (apply ze6;rfl;rfl) | (apply z50;rfl) | (apply z40;rfl))))|apply z02|apply z00|apply z03|apply z06|apply z08|apply z28|apply z55|(apply z35;rfl;(with_reducible rfl))|(apply z32;rfl;(with_reducible rfl))|(apply z13;rfl)|(apply z48;rfl;(with_reducible rfl))|(apply z39;rfl;(with_reducible rfl))|(apply z38;rfl)|(apply z65;(exact rfl))|with_reducible exact zb1|with_reducible apply zb3|with_reducible apply z58|with_reducible apply z60|(with_reducible apply za1;intro hc)|(with_reducible apply z74;intro hc)|(apply z52;rfl)|(apply z54;rfl)|(apply dand;rfl)
    try any_goals (exfalso;omega)
    all_goals exact hT▸jt5 (t:=⟨op,q,t,n,false,0,0⟩) hlen (fun h fr hk=>hg _ rfl h r1 fr hk) (fun h fr h1 h2=>ho _ rfl h fr h1 h2)
end Go.Proofs.TryzL
