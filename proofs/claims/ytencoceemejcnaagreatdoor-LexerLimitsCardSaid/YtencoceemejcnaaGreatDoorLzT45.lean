/- Chapter 02: a turn of Lex that gives a token. -/
import Derived.Test.YtencoceemejcnaaGreatDoorLzT44
set_option linter.unusedSimpArgs false
set_option linter.unusedVariables false
namespace Go.Proofs.TryzL
open Go.Proofs.Lz
set_option maxHeartbeats 4000000
def z71 (s:List UInt8) (i:Nat) (c:UInt8):U:=
 if (upperB c||lowerB c)=true then zx6 s i
 else if z94 c=true then numU s i
 else if c=39∨c=34 then litU s i c
 else if symB c=true then zl8 i [] (z82 symB s i) (i+(z82 symB s i).length)
 else if spS.contains c=true then .tok 8 [] [c] 0 (i+1)
 else .bad 5 i []
def zh0:ICode:=lexP3.seq (lexP4.seq (lexP5.seq lexT))
theorem zw1 {H:z07} {id f e:Nat} {s q t:List UInt8} {op n:Int} (h:Shr Vv f [.ptr id 0] H (resU (.tok op q t n e)) (qu4 id H s (.tok op q t n e))):Shr Vv f [.ptr id 0] H (.tup [.c (tokC ⟨op,q,t,n,false,0,0⟩),.c (.bool true)]) (fun H'=>ScH id (scAt s e) H'∧KpH id H H'):=by
 obtain ⟨H',a,⟨y,hy,hf⟩,hk⟩:=h.run
 have hf:y=scAt s e:=hf
 subst hf
 exact ⟨H',a,hy,hk⟩
theorem zx1 {H:z07} {id f code p:Nat} {s nm:List UInt8} (h:Shr Vv f [.ptr id 0] H (resU (.bad code p nm)) (qu4 id H s (.bad code p nm))):∃ y,zc8 s code p nm y∧Shr Vv f [.ptr id 0] H (.tup [.c zz0,.c (.bool false)]) (fun H'=>ScH id y H'∧KpH id H H'):=by
 obtain ⟨H',a,⟨y,hy,hf⟩,hk⟩:=h.run
 exact ⟨y,hf,H',a,hy,hk⟩
theorem zo5 {H:z07} {id f e:Nat} {s:List UInt8} (h:Shr Vv f [.ptr id 0] H (resU (.skip e)) (qu4 id H s (.skip e))):False:=by
 obtain ⟨H',a,⟨y,hy,hf⟩,hk⟩:=h.run
 exact hf
theorem qf8 {s nm:List UInt8} {code p:Nat} {y:Sc} (h:zc8 s code p nm y):CV.agg [.int .i64 y.code,.str y.name,.int .i64 y.fl,.int .i64 y.fc]=fltC code nm (plc s p).1 (plc s p).2:=by
 obtain ⟨h1,h2,h3,h4⟩:=h
 unfold fltC
 rw [h1,h2,h3,h4]
theorem je3 {H:z07} {s:List UInt8} {id i:Nat} {c:UInt8} {t6:CV} {N:Post} {B:Hs} {R:RP} (hH:ScH id (scAt s i) H) (hc:s[i]?=some c) (hl:s.length<2^30) (hlen:([]:List Tok).length≤16384)
 (hgo:∀ op q t n e H',z71 s i c=.tok op q t n e→([]:List Tok).length+1≤16384→ScH id (scAt s e) H'→∀ fr,KpL [0,3,4,5,6] fr [0,3,4,5,6] (lexK s id (([]:List Tok)++[⟨op,q,t,n,false,(plc s i).1,(plc s i).2⟩]) (tokC ⟨op,q,t,n,false,(plc s i).1,(plc s i).2⟩))→R.go 0 fr H')
 (hover:∀ op q t n e H',z71 s i c=.tok op q t n e→16384≤([]:List Tok).length→∀ fr:WFr,fr.env 2=.nils→fr.env 3=.lbox (some 4) (.c (fltC 3 [] (plc s i).1 (plc s i).2))→R.ret fr H')
 (hbad:∀ code p nm H',z71 s i c=.bad code p nm→∀ fr:WFr,fr.env 2=.nils→fr.env 3=.lbox (some 4) (.c (fltC code nm (plc s p).1 (plc s p).2))→R.ret fr H')
 (hcl:(upperB c||lowerB c)=true) :
 WP Vv zh0 (FL (lexK s id ([]:List Tok) t6) []) H N B R:=by
 have hH0:H[id]?=some (.var (some 8) (scC (scAt s i))):=hH
 have h0:s[(scAt s i).pos]?=some c:=hc
 have hlt:i<s.length:=(List.getElem?_eq_some_iff.1 hc).1
 have h24:=zc9 c
 have h25:=zh8 c
 have h27:=zf5 c
 unfold zh0 lexP3 lexP4 lexP5 lexK
 generalize hT:lexT=T
 have eu:z71 s i c=zx6 s i:=by unfold z71;rw [if_pos hcl]
 have hcall:=name26 (x:=scAt s i) rfl hH hc hcl hl
 cases hu:zx6 s i with
 | skip e=>have h:=hcall;rw [show zx6 (scAt s i).src (scAt s i).pos=.skip e from hu] at h;exact (zo5 h).elim
 | bad code p nm=>
   rw [show zx6 (scAt s i).src (scAt s i).pos=.bad code p nm from hu] at hcall
   obtain ⟨y,hy,hcall⟩:=zx1 hcall
   have hb:=hbad code p nm
   rw [eu,hu] at hb
   repeat' first
    | apply z01
    | exact z13
    | exact z18 rfl
    | (apply z17;rfl;rfl)
    | (apply z93;rfl;rfl)
    | (apply z16;rfl;(with_reducible rfl);rfl)
    | (apply z14;rfl;(with_reducible rfl);rfl)
    | (apply z62;(iterate 3 rfl);assumption)
    | (apply z56;rfl;rfl)
    | (apply z50;(iterate 3 rfl))
    | (apply z22;rfl;rfl)
    | (apply z06;rfl;rfl)
    | (apply z28;rfl;rfl)
    | (apply z27;(iterate 4 rfl);exact z30 (by first | exact rfl | assumption | exact z23 (by assumption)))
    | (apply z87;rfl;rfl)
    | (apply z09;rfl;rfl;(assumption);rfl)
    | (apply z05 (hc:=h24);rfl;rfl;rfl)
    | (apply z05 (hc:=h25);rfl;rfl;rfl)
    | (apply z25 (hc:=⟨hcall.run⟩);rfl;rfl;(exact rfl);rfl;(exact z18 rfl);rintro H1 ⟨r1,k1⟩)
    | (apply z03;focus (repeat (first | exact z29 | (apply kq_c;rfl) | (apply za3;rfl) | (apply z49;rfl) | (apply z39;rfl))))
    | apply z02
    | apply z00
    | apply z04
    | apply z08
    | apply z19
    | apply z24
    | apply z48
    | (apply z41;rfl;(with_reducible rfl))
    | (apply z15;rfl)
    | (apply z52;rfl;(with_reducible rfl))
    | (apply z42;rfl;(with_reducible rfl))
    | (apply z40;rfl)
    | (apply z57;(exact rfl))
    | with_reducible exact zf3
    | with_reducible apply zf1
    | with_reducible apply z65
    | with_reducible apply z64
    | (with_reducible apply zf9;intro hc)
    | (apply z45;rfl)
    | (apply z47;rfl)
    | (apply ze2;rfl)
    | (apply dand;rfl)
   try any_goals (exfalso;simp_all;done)
   all_goals exact hb _ rfl _ rfl (congrArg (fun u=>WV.lbox (some 4) (.c u)) (qf8 hy))
 | tok op q t n e=>
   rw [show zx6 (scAt s i).src (scAt s i).pos=.tok op q t n e from hu] at hcall
   have hcall:=zw1 hcall
   have hg:=hgo op q t n e
   have ho:=hover op q t n e
   rw [eu,hu] at hg ho
   repeat' first
    | apply z01
    | exact z13
    | exact z18 rfl
    | (apply z17;rfl;rfl)
    | (apply z93;rfl;rfl)
    | (apply z16;rfl;(with_reducible rfl);rfl)
    | (apply z14;rfl;(with_reducible rfl);rfl)
    | (apply z62;(iterate 3 rfl);assumption)
    | (apply z50;(iterate 3 rfl))
    | (apply z22;rfl;rfl)
    | (apply z06;rfl;rfl)
    | (apply z28;rfl;rfl)
    | (apply z27;(iterate 4 rfl);exact z30 (by first | exact rfl | assumption | exact z23 (by assumption)))
    | (apply z87;rfl;rfl)
    | (apply z09;rfl;rfl;(assumption);rfl)
    | (apply z05 (hc:=h24);rfl;rfl;rfl)
    | (apply z05 (hc:=h25);rfl;rfl;rfl)
    | (apply z25 (hc:=⟨hcall.run⟩);rfl;rfl;(exact rfl);rfl;(exact z18 rfl);rintro H1 ⟨r1,k1⟩)
    | (apply z03;focus (repeat (first | exact z29 | (apply kq_c;rfl) | (apply za3;rfl) | (apply z49;rfl) | (apply z39;rfl))))
    | apply z02
    | apply z00
    | apply z04
    | apply z08
    | apply z12
    | apply z24
    | apply z48
    | (apply z41;rfl;(with_reducible rfl))
    | (apply z15;rfl)
    | (apply z52;rfl;(with_reducible rfl))
    | (apply z42;rfl;(with_reducible rfl))
    | (apply z40;rfl)
    | (apply z57;(exact rfl))
    | with_reducible exact zb1
    | with_reducible apply zb2
    | with_reducible apply z65
    | with_reducible apply z64
    | (with_reducible apply zf9;intro hc)
    | (apply z45;rfl)
    | (apply z47;rfl)
    | (apply dand;rfl)
   try any_goals (exfalso;simp_all;done)
   all_goals exact hT▸jl5 (t:=⟨op,q,t,n,false,0,0⟩) hlen (fun h fr hk=>hg _ rfl h r1 fr hk) (fun h fr h1 h2=>ho _ rfl h fr h1 h2)
theorem jl7 {H:z07} {s:List UInt8} {id i:Nat} {c:UInt8} {t6:CV} {N:Post} {B:Hs} {R:RP} (hH:ScH id (scAt s i) H) (hc:s[i]?=some c) (hl:s.length<2^30) (hlen:([]:List Tok).length≤16384)
 (hgo:∀ op q t n e H',z71 s i c=.tok op q t n e→([]:List Tok).length+1≤16384→ScH id (scAt s e) H'→∀ fr,KpL [0,3,4,5,6] fr [0,3,4,5,6] (lexK s id (([]:List Tok)++[⟨op,q,t,n,false,(plc s i).1,(plc s i).2⟩]) (tokC ⟨op,q,t,n,false,(plc s i).1,(plc s i).2⟩))→R.go 0 fr H')
 (hover:∀ op q t n e H',z71 s i c=.tok op q t n e→16384≤([]:List Tok).length→∀ fr:WFr,fr.env 2=.nils→fr.env 3=.lbox (some 4) (.c (fltC 3 [] (plc s i).1 (plc s i).2))→R.ret fr H')
 (hbad:∀ code p nm H',z71 s i c=.bad code p nm→∀ fr:WFr,fr.env 2=.nils→fr.env 3=.lbox (some 4) (.c (fltC code nm (plc s p).1 (plc s p).2))→R.ret fr H')
 (hcl:¬ (upperB c||lowerB c)=true) (hd:z94 c=true) :
 WP Vv zh0 (FL (lexK s id ([]:List Tok) t6) []) H N B R:=by
 have hH0:H[id]?=some (.var (some 8) (scC (scAt s i))):=hH
 have h0:s[(scAt s i).pos]?=some c:=hc
 have hlt:i<s.length:=(List.getElem?_eq_some_iff.1 hc).1
 have h24:=zc9 c
 have h25:=zh8 c
 have h27:=zf5 c
 unfold zh0 lexP3 lexP4 lexP5 lexK
 generalize hT:lexT=T
 have eu:z71 s i c=numU s i:=by unfold z71;rw [if_neg hcl,if_pos hd]
 have hcall:=j35 (x:=scAt s i) rfl hH (by show i≤s.length;omega) hl
 have hup:upperB c=false:=Bool.eq_false_iff.2 (fun h=>hcl (by rw [h];rfl))
 have hlo:lowerB c=false:=Bool.eq_false_iff.2 (fun h=>hcl (by rw [h];exact Bool.or_true _))
 rw [hup] at h24
 rw [hlo] at h25
 rw [hd] at h27
 cases hu:numU s i with
 | skip e=>have h:=hcall;rw [show numU (scAt s i).src (scAt s i).pos=.skip e from hu] at h;exact (zo5 h).elim
 | bad code p nm=>
   rw [show numU (scAt s i).src (scAt s i).pos=.bad code p nm from hu] at hcall
   obtain ⟨y,hy,hcall⟩:=zx1 hcall
   have hb:=hbad code p nm
   rw [eu,hu] at hb
   repeat' first
    | apply z01
    | exact z13
    | exact z18 rfl
    | (apply z17;rfl;rfl)
    | (apply z93;rfl;rfl)
    | (apply z14;rfl;(with_reducible rfl);rfl)
    | (apply z62;(iterate 3 rfl);assumption)
    | (apply z56;rfl;rfl)
    | (apply z50;(iterate 3 rfl))
    | (apply z22;rfl;rfl)
    | (apply z06;rfl;rfl)
    | (apply z28;rfl;rfl)
    | (apply z27;(iterate 4 rfl);exact z30 (by first | exact rfl | assumption | exact z23 (by assumption)))
    | (apply z87;rfl;rfl)
    | (apply z09;rfl;rfl;(assumption);rfl)
    | (apply z05 (hc:=h24);rfl;rfl;rfl)
    | (apply z05 (hc:=h25);rfl;rfl;rfl)
    | (apply z05 (hc:=h27);rfl;rfl;rfl)
    | (apply z25 (hc:=⟨hcall.run⟩);rfl;rfl;(exact rfl);rfl;(exact z18 rfl);rintro H1 ⟨r1,k1⟩)
    | (apply z03;focus (repeat (first | exact z29 | (apply kq_c;rfl) | (apply za3;rfl) | (apply z49;rfl) | (apply z39;rfl))))
    | apply z02
    | apply z00
    | apply z04
    | apply z08
    | apply z19
    | apply z24
    | apply z48
    | (apply z41;rfl;(with_reducible rfl))
    | (apply z38;rfl;(with_reducible rfl))
    | (apply z15;rfl)
    | (apply z52;rfl;(with_reducible rfl))
    | (apply z57;(exact rfl))
    | with_reducible exact zf3
    | with_reducible apply zf1
    | with_reducible apply z65
    | with_reducible apply z64
    | (apply z45;rfl)
    | (apply z47;rfl)
    | (apply ze2;rfl)
    | (apply dand;rfl)
   try any_goals (exfalso;simp_all;done)
   all_goals exact hb _ rfl _ rfl (congrArg (fun u=>WV.lbox (some 4) (.c u)) (qf8 hy))
 | tok op q t n e=>
   rw [show numU (scAt s i).src (scAt s i).pos=.tok op q t n e from hu] at hcall
   have hcall:=zw1 hcall
   have hg:=hgo op q t n e
   have ho:=hover op q t n e
   rw [eu,hu] at hg ho
   repeat' first
    | apply z01
    | exact z13
    | exact z18 rfl
    | (apply z17;rfl;rfl)
    | (apply z93;rfl;rfl)
    | (apply z14;rfl;(with_reducible rfl);rfl)
    | (apply z62;(iterate 3 rfl);assumption)
    | (apply z50;(iterate 3 rfl))
    | (apply z22;rfl;rfl)
    | (apply z06;rfl;rfl)
    | (apply z28;rfl;rfl)
    | (apply z27;(iterate 4 rfl);exact z30 (by first | exact rfl | assumption | exact z23 (by assumption)))
    | (apply z87;rfl;rfl)
    | (apply z09;rfl;rfl;(assumption);rfl)
    | (apply z05 (hc:=h24);rfl;rfl;rfl)
    | (apply z05 (hc:=h25);rfl;rfl;rfl)
    | (apply z05 (hc:=h27);rfl;rfl;rfl)
    | (apply z25 (hc:=⟨hcall.run⟩);rfl;rfl;(exact rfl);rfl;(exact z18 rfl);rintro H1 ⟨r1,k1⟩)
    | (apply z03;focus (repeat (first | exact z29 | (apply kq_c;rfl) | (apply za3;rfl) | (apply z49;rfl) | (apply z39;rfl))))
    | apply z02
    | apply z00
    | apply z04
    | apply z08
    | apply z12
    | apply z24
    | apply z48
    | (apply z41;rfl;(with_reducible rfl))
    | (apply z38;rfl;(with_reducible rfl))
    | (apply z15;rfl)
    | (apply z52;rfl;(with_reducible rfl))
    | (apply z57;(exact rfl))
    | with_reducible exact zb1
    | with_reducible apply zb2
    | with_reducible apply z65
    | with_reducible apply z64
    | (apply z45;rfl)
    | (apply z47;rfl)
    | (apply dand;rfl)
   try any_goals (exfalso;simp_all;done)
   all_goals exact hT▸jl5 (t:=⟨op,q,t,n,false,0,0⟩) hlen (fun h fr hk=>hg _ rfl h r1 fr hk) (fun h fr h1 h2=>ho _ rfl h fr h1 h2)
theorem j95 {H:z07} {s:List UInt8} {id i:Nat} {c:UInt8} {a:Tok} {r:List Tok} {t6:CV} {N:Post} {B:Hs} {R:RP} (hH:ScH id (scAt s i) H) (hc:s[i]?=some c) (hl:s.length<2^30) (hlen:(a::r).length≤16384)
 (hgo:∀ op q t n e H',z71 s i c=.tok op q t n e→(a::r).length+1≤16384→ScH id (scAt s e) H'→∀ fr,KpL [0,3,4,5,6] fr [0,3,4,5,6] (lexK s id ((a::r)++[⟨op,q,t,n,false,(plc s i).1,(plc s i).2⟩]) (tokC ⟨op,q,t,n,false,(plc s i).1,(plc s i).2⟩))→R.go 0 fr H')
 (hover:∀ op q t n e H',z71 s i c=.tok op q t n e→16384≤(a::r).length→∀ fr:WFr,fr.env 2=.nils→fr.env 3=.lbox (some 4) (.c (fltC 3 [] (plc s i).1 (plc s i).2))→R.ret fr H')
 (hbad:∀ code p nm H',z71 s i c=.bad code p nm→∀ fr:WFr,fr.env 2=.nils→fr.env 3=.lbox (some 4) (.c (fltC code nm (plc s p).1 (plc s p).2))→R.ret fr H')
 (hcl:(upperB c||lowerB c)=true) :
 WP Vv zh0 (FL (lexK s id (a::r) t6) []) H N B R:=by
 have hH0:H[id]?=some (.var (some 8) (scC (scAt s i))):=hH
 have h0:s[(scAt s i).pos]?=some c:=hc
 have hlt:i<s.length:=(List.getElem?_eq_some_iff.1 hc).1
 have h24:=zc9 c
 have h25:=zh8 c
 have h27:=zf5 c
 unfold zh0 lexP3 lexP4 lexP5 lexK
 generalize hT:lexT=T
 have eu:z71 s i c=zx6 s i:=by unfold z71;rw [if_pos hcl]
 have hcall:=name26 (x:=scAt s i) rfl hH hc hcl hl
 cases hu:zx6 s i with
 | skip e=>have h:=hcall;rw [show zx6 (scAt s i).src (scAt s i).pos=.skip e from hu] at h;exact (zo5 h).elim
 | bad code p nm=>
   rw [show zx6 (scAt s i).src (scAt s i).pos=.bad code p nm from hu] at hcall
   obtain ⟨y,hy,hcall⟩:=zx1 hcall
   have hb:=hbad code p nm
   rw [eu,hu] at hb
   repeat' first
    | apply z01
    | exact z13
    | exact z18 rfl
    | (apply z17;rfl;rfl)
    | (apply z93;rfl;rfl)
    | (apply z16;rfl;(with_reducible rfl);rfl)
    | (apply z14;rfl;(with_reducible rfl);rfl)
    | (apply z62;(iterate 3 rfl);assumption)
    | (apply z56;rfl;rfl)
    | (apply z50;(iterate 3 rfl))
    | (apply z22;rfl;rfl)
    | (apply z06;rfl;rfl)
    | (apply z28;rfl;rfl)
    | (apply z27;(iterate 4 rfl);exact z30 (by first | exact rfl | assumption | exact z23 (by assumption)))
    | (apply z87;rfl;rfl)
    | (apply z09;rfl;rfl;(assumption);rfl)
    | (apply z05 (hc:=h24);rfl;rfl;rfl)
    | (apply z05 (hc:=h25);rfl;rfl;rfl)
    | (apply z25 (hc:=⟨hcall.run⟩);rfl;rfl;(exact rfl);rfl;(exact z18 rfl);rintro H1 ⟨r1,k1⟩)
    | (apply z03;focus (repeat (first | exact z29 | (apply kq_c;rfl) | (apply zb8;rfl;rfl) | (apply z49;rfl) | (apply z39;rfl))))
    | apply z02
    | apply z00
    | apply z04
    | apply z08
    | apply z19
    | apply z24
    | apply z48
    | (apply z41;rfl;(with_reducible rfl))
    | (apply z15;rfl)
    | (apply z52;rfl;(with_reducible rfl))
    | (apply z42;rfl;(with_reducible rfl))
    | (apply z40;rfl)
    | (apply z57;(exact rfl))
    | with_reducible exact zf3
    | with_reducible apply zf1
    | with_reducible apply z65
    | with_reducible apply z64
    | (with_reducible apply zf9;intro hc)
    | (apply z45;rfl)
    | (apply z47;rfl)
    | (apply ze2;rfl)
    | (apply dand;rfl)
   try any_goals (exfalso;simp_all;done)
   all_goals exact hb _ rfl _ rfl (congrArg (fun u=>WV.lbox (some 4) (.c u)) (qf8 hy))
 | tok op q t n e=>
   rw [show zx6 (scAt s i).src (scAt s i).pos=.tok op q t n e from hu] at hcall
   have hcall:=zw1 hcall
   have hg:=hgo op q t n e
   have ho:=hover op q t n e
   rw [eu,hu] at hg ho
   repeat' first
    | apply z01
    | exact z13
    | exact z18 rfl
    | (apply z17;rfl;rfl)
    | (apply z93;rfl;rfl)
    | (apply z16;rfl;(with_reducible rfl);rfl)
    | (apply z14;rfl;(with_reducible rfl);rfl)
    | (apply z62;(iterate 3 rfl);assumption)
    | (apply z50;(iterate 3 rfl))
    | (apply z22;rfl;rfl)
    | (apply z06;rfl;rfl)
    | (apply z28;rfl;rfl)
    | (apply z27;(iterate 4 rfl);exact z30 (by first | exact rfl | assumption | exact z23 (by assumption)))
    | (apply z87;rfl;rfl)
    | (apply z09;rfl;rfl;(assumption);rfl)
    | (apply z05 (hc:=h24);rfl;rfl;rfl)
    | (apply z05 (hc:=h25);rfl;rfl;rfl)
    | (apply z25 (hc:=⟨hcall.run⟩);rfl;rfl;(exact rfl);rfl;(exact z18 rfl);rintro H1 ⟨r1,k1⟩)
    | (apply z03;focus (repeat (first | exact z29 | (apply kq_c;rfl) | (apply zb8;rfl;rfl) | (apply z49;rfl) | (apply z39;rfl))))
    | apply z02
    | apply z00
    | apply z04
    | apply z08
    | apply z12
    | apply z24
    | apply z48
    | (apply z41;rfl;(with_reducible rfl))
    | (apply z15;rfl)
    | (apply z52;rfl;(with_reducible rfl))
    | (apply z42;rfl;(with_reducible rfl))
    | (apply z40;rfl)
    | (apply z57;(exact rfl))
    | with_reducible exact zb1
    | with_reducible apply zb2
    | with_reducible apply z65
    | with_reducible apply z64
    | (with_reducible apply zf9;intro hc)
    | (apply z45;rfl)
    | (apply z47;rfl)
    | (apply dand;rfl)
   try any_goals (exfalso;simp_all;done)
   all_goals exact hT▸jg1 (t:=⟨op,q,t,n,false,0,0⟩) hlen (fun h fr hk=>hg _ rfl h r1 fr hk) (fun h fr h1 h2=>ho _ rfl h fr h1 h2)
theorem jj0 {H:z07} {s:List UInt8} {id i:Nat} {c:UInt8} {a:Tok} {r:List Tok} {t6:CV} {N:Post} {B:Hs} {R:RP} (hH:ScH id (scAt s i) H) (hc:s[i]?=some c) (hl:s.length<2^30) (hlen:(a::r).length≤16384)
 (hgo:∀ op q t n e H',z71 s i c=.tok op q t n e→(a::r).length+1≤16384→ScH id (scAt s e) H'→∀ fr,KpL [0,3,4,5,6] fr [0,3,4,5,6] (lexK s id ((a::r)++[⟨op,q,t,n,false,(plc s i).1,(plc s i).2⟩]) (tokC ⟨op,q,t,n,false,(plc s i).1,(plc s i).2⟩))→R.go 0 fr H')
 (hover:∀ op q t n e H',z71 s i c=.tok op q t n e→16384≤(a::r).length→∀ fr:WFr,fr.env 2=.nils→fr.env 3=.lbox (some 4) (.c (fltC 3 [] (plc s i).1 (plc s i).2))→R.ret fr H')
 (hbad:∀ code p nm H',z71 s i c=.bad code p nm→∀ fr:WFr,fr.env 2=.nils→fr.env 3=.lbox (some 4) (.c (fltC code nm (plc s p).1 (plc s p).2))→R.ret fr H')
 (hcl:¬ (upperB c||lowerB c)=true) (hd:z94 c=true) :
 WP Vv zh0 (FL (lexK s id (a::r) t6) []) H N B R:=by
 have hH0:H[id]?=some (.var (some 8) (scC (scAt s i))):=hH
 have h0:s[(scAt s i).pos]?=some c:=hc
 have hlt:i<s.length:=(List.getElem?_eq_some_iff.1 hc).1
 have h24:=zc9 c
 have h25:=zh8 c
 have h27:=zf5 c
 unfold zh0 lexP3 lexP4 lexP5 lexK
 generalize hT:lexT=T
 have eu:z71 s i c=numU s i:=by unfold z71;rw [if_neg hcl,if_pos hd]
 have hcall:=j35 (x:=scAt s i) rfl hH (by show i≤s.length;omega) hl
 have hup:upperB c=false:=Bool.eq_false_iff.2 (fun h=>hcl (by rw [h];rfl))
 have hlo:lowerB c=false:=Bool.eq_false_iff.2 (fun h=>hcl (by rw [h];exact Bool.or_true _))
 rw [hup] at h24
 rw [hlo] at h25
 rw [hd] at h27
 cases hu:numU s i with
 | skip e=>have h:=hcall;rw [show numU (scAt s i).src (scAt s i).pos=.skip e from hu] at h;exact (zo5 h).elim
 | bad code p nm=>
   rw [show numU (scAt s i).src (scAt s i).pos=.bad code p nm from hu] at hcall
   obtain ⟨y,hy,hcall⟩:=zx1 hcall
   have hb:=hbad code p nm
   rw [eu,hu] at hb
   repeat' first
    | apply z01
    | exact z13
    | exact z18 rfl
    | (apply z17;rfl;rfl)
    | (apply z93;rfl;rfl)
    | (apply z14;rfl;(with_reducible rfl);rfl)
    | (apply z62;(iterate 3 rfl);assumption)
    | (apply z56;rfl;rfl)
    | (apply z50;(iterate 3 rfl))
    | (apply z22;rfl;rfl)
    | (apply z06;rfl;rfl)
    | (apply z28;rfl;rfl)
    | (apply z27;(iterate 4 rfl);exact z30 (by first | exact rfl | assumption | exact z23 (by assumption)))
    | (apply z87;rfl;rfl)
    | (apply z09;rfl;rfl;(assumption);rfl)
    | (apply z05 (hc:=h24);rfl;rfl;rfl)
    | (apply z05 (hc:=h25);rfl;rfl;rfl)
    | (apply z05 (hc:=h27);rfl;rfl;rfl)
    | (apply z25 (hc:=⟨hcall.run⟩);rfl;rfl;(exact rfl);rfl;(exact z18 rfl);rintro H1 ⟨r1,k1⟩)
    | (apply z03;focus (repeat (first | exact z29 | (apply kq_c;rfl) | (apply zb8;rfl;rfl) | (apply z49;rfl) | (apply z39;rfl))))
    | apply z02
    | apply z00
    | apply z04
    | apply z08
    | apply z19
    | apply z24
    | apply z48
    | (apply z41;rfl;(with_reducible rfl))
    | (apply z38;rfl;(with_reducible rfl))
    | (apply z15;rfl)
    | (apply z52;rfl;(with_reducible rfl))
    | (apply z57;(exact rfl))
    | with_reducible exact zf3
    | with_reducible apply zf1
    | with_reducible apply z65
    | with_reducible apply z64
    | (apply z45;rfl)
    | (apply z47;rfl)
    | (apply ze2;rfl)
    | (apply dand;rfl)
   try any_goals (exfalso;simp_all;done)
   all_goals exact hb _ rfl _ rfl (congrArg (fun u=>WV.lbox (some 4) (.c u)) (qf8 hy))
 | tok op q t n e=>
   rw [show numU (scAt s i).src (scAt s i).pos=.tok op q t n e from hu] at hcall
   have hcall:=zw1 hcall
   have hg:=hgo op q t n e
   have ho:=hover op q t n e
   rw [eu,hu] at hg ho
   repeat' first
    | apply z01
    | exact z13
    | exact z18 rfl
    | (apply z17;rfl;rfl)
    | (apply z93;rfl;rfl)
    | (apply z14;rfl;(with_reducible rfl);rfl)
    | (apply z62;(iterate 3 rfl);assumption)
    | (apply z50;(iterate 3 rfl))
    | (apply z22;rfl;rfl)
    | (apply z06;rfl;rfl)
    | (apply z28;rfl;rfl)
    | (apply z27;(iterate 4 rfl);exact z30 (by first | exact rfl | assumption | exact z23 (by assumption)))
    | (apply z87;rfl;rfl)
    | (apply z09;rfl;rfl;(assumption);rfl)
    | (apply z05 (hc:=h24);rfl;rfl;rfl)
    | (apply z05 (hc:=h25);rfl;rfl;rfl)
    | (apply z05 (hc:=h27);rfl;rfl;rfl)
    | (apply z25 (hc:=⟨hcall.run⟩);rfl;rfl;(exact rfl);rfl;(exact z18 rfl);rintro H1 ⟨r1,k1⟩)
    | (apply z03;focus (repeat (first | exact z29 | (apply kq_c;rfl) | (apply zb8;rfl;rfl) | (apply z49;rfl) | (apply z39;rfl))))
    | apply z02
    | apply z00
    | apply z04
    | apply z08
    | apply z12
    | apply z24
    | apply z48
    | (apply z41;rfl;(with_reducible rfl))
    | (apply z38;rfl;(with_reducible rfl))
    | (apply z15;rfl)
    | (apply z52;rfl;(with_reducible rfl))
    | (apply z57;(exact rfl))
    | with_reducible exact zb1
    | with_reducible apply zb2
    | with_reducible apply z65
    | with_reducible apply z64
    | (apply z45;rfl)
    | (apply z47;rfl)
    | (apply dand;rfl)
   try any_goals (exfalso;simp_all;done)
   all_goals exact hT▸jg1 (t:=⟨op,q,t,n,false,0,0⟩) hlen (fun h fr hk=>hg _ rfl h r1 fr hk) (fun h fr h1 h2=>ho _ rfl h fr h1 h2)
end Go.Proofs.TryzL
