/- Chapter 02: a turn of Lex that gives a token. -/
import Derived.Test.YtencoceemejcnaaGreatDoorLzT45
set_option linter.unusedSimpArgs false
set_option linter.unusedVariables false
namespace Go.Proofs.TryzL
open Go.Proofs.Lz
set_option maxHeartbeats 4000000
theorem jr7 {H:z18} {s:List UInt8} {id i:Nat} {c:UInt8} {t6:CV} {N:Post} {B:Hs} {R:RP} (hH:ScH id (scAt s i) H) (hc:s[i]?=some c) (hl:s.length<2^30) (hlen:([]:List Tok).length≤16384)
 (hgo:∀ op q t n e H',z74 s i c=.tok op q t n e→([]:List Tok).length+1≤16384→ScH id (scAt s e) H'→∀ fr,KpL [0,3,4,5,6] fr [0,3,4,5,6] (lexK s id (([]:List Tok)++[⟨op,q,t,n,false,(plc s i).1,(plc s i).2⟩]) (tokC ⟨op,q,t,n,false,(plc s i).1,(plc s i).2⟩))→R.go 0 fr H')
 (hover:∀ op q t n e H',z74 s i c=.tok op q t n e→16384≤([]:List Tok).length→∀ fr:WFr,fr.env 2=.nils→fr.env 3=.lbox (some 4) (.c (fltC 3 [] (plc s i).1 (plc s i).2))→R.ret fr H')
 (hbad:∀ code p nm H',z74 s i c=.bad code p nm→∀ fr:WFr,fr.env 2=.nils→fr.env 3=.lbox (some 4) (.c (fltC code nm (plc s p).1 (plc s p).2))→R.ret fr H')
 (hcl:¬ (upperB c||lowerB c)=true) (hd:¬ z93 c=true) (hq:c=39∨c=34) :
   WP Vv zi9 (FL (lexK s id ([]:List Tok) t6) []) H N B R:=by
  have hH0:H[id]?=some (.var (some 8) (scC (scAt s i))):=hH
  have h0:s[(scAt s i).pos]?=some c:=hc
  have hlt:i<s.length:=(List.getElem?_eq_some_iff.1 hc).1
  have h24:=zf0 c
  have h25:=zj1 c
  have h27:=zh5 c
  unfold zi9 lexP3 lexP4 lexP5 lexK
  generalize hT:lexT=T
  have hup:upperB c=false:=Bool.eq_false_iff.2 (fun h=>hcl (by rw [h];rfl))
  have hlo:lowerB c=false:=Bool.eq_false_iff.2 (fun h=>hcl (by rw [h];exact Bool.or_true _))
  rw [hup] at h24
  rw [hlo] at h25
  rw [Bool.eq_false_iff.2 hd] at h27
  have hxj:scAt (scAt s i).src (scAt s i).pos=scAt s i:=rfl
  have hj1:(scAt s i).pos+1≤(scAt s i).src.length:=by show i+1≤s.length;omega
  have hjp:(scAt s i).pos≤(scAt s i).src.length:=by show i≤s.length;omega
  have hl50:(scAt s i).src.length<2^50:=by show s.length<_;omega
  have hl60:(scAt s i).src.length<2^60:=by show s.length<_;omega
  have hq':(c.toNat:Int)=39∨(c.toNat:Int)=34:=hq.imp qi2 qi2
  have eu:z74 s i c=litU s i c:=by unfold z74;rw [if_neg hcl,if_neg hd,if_pos hq]
  have hcall:=jc2 (x:=scAt s i) rfl hH hc hq hl
  cases hu:litU s i c with
  | skip e=>have h:=hcall;rw [show litU (scAt s i).src (scAt s i).pos c=.skip e from hu] at h;exact (zr1 h).elim
  | bad code p nm=>
    rw [show litU (scAt s i).src (scAt s i).pos c=.bad code p nm from hu] at hcall
    obtain ⟨y,hy,hcall⟩:=zx9 hcall
    have hb:=hbad code p nm
    rw [eu,hu] at hb
    repeat' first
     | apply z01
     | exact z13
     | exact z19 rfl
     | (apply z15;rfl;rfl)
     | (apply z30;(iterate 3 rfl))
     | (apply z84;rfl;rfl)
     | (apply z17;rfl;(with_reducible rfl);rfl)
     | (apply z16;rfl;(with_reducible rfl);rfl)
     | (apply z68;(iterate 3 rfl);assumption)
     | (apply z66;rfl;rfl)
     | (apply z63;(iterate 3 rfl))
     | (apply z24;rfl;rfl)
     | (apply z14;rfl;rfl)
     | (apply z29;rfl;rfl)
     | (apply z28;(iterate 4 rfl);exact z34 (by first | exact rfl | assumption | exact z06 (by assumption)))
     | (apply za4;rfl;rfl)
     | (apply z22;rfl;rfl;(assumption);rfl)
     | (apply z08 (hc:=h24);rfl;rfl;rfl)
     | (apply z08 (hc:=h25);rfl;rfl;rfl)
     | (apply z08 (hc:=h27);rfl;rfl;rfl)
     | (apply z27 (hc:=⟨hcall.run⟩);rfl;rfl;(exact rfl);rfl;(exact z19 rfl);rintro H1 ⟨r1,k1⟩)
     | (apply z04;focus (repeat (first | exact z23 | (apply kq_c;rfl) | (apply zc5;rfl) | (apply z50;rfl) | (apply z38;rfl))))
     | apply z02
     | apply z00
     | apply z03
     | apply z05
     | apply z09
     | apply z25
     | apply z54
     | (apply z35;rfl;(with_reducible rfl))
     | (apply z32;rfl;(with_reducible rfl))
     | (apply z12;rfl)
     | (apply z47;rfl;(with_reducible rfl))
     | (apply z41;rfl;(with_reducible rfl))
     | (apply z39;rfl)
     | (apply z62;(exact rfl))
     | with_reducible exact ze7
     | with_reducible apply ze2
     | with_reducible apply z57
     | with_reducible apply z58
     | (with_reducible apply za1;intro hc)
     | (with_reducible apply z71;intro hc)
     | (apply z48;rfl)
     | (apply z55;rfl)
     | (apply zd7;rfl)
     | (apply dand;rfl)
    try any_goals (exfalso;omega)
    all_goals exact hb _ rfl _ rfl (congrArg (fun u=>WV.lbox (some 4) (.c u)) (qj1 hy))
  | tok op q t n e=>
    rw [show litU (scAt s i).src (scAt s i).pos c=.tok op q t n e from hu] at hcall
    have hcall:=zy4 hcall
    have hg:=hgo op q t n e
    have ho:=hover op q t n e
    rw [eu,hu] at hg ho
    repeat' first
     | apply z01
     | exact z13
     | exact z19 rfl
     | (apply z15;rfl;rfl)
     | (apply z30;(iterate 3 rfl))
     | (apply z84;rfl;rfl)
     | (apply z17;rfl;(with_reducible rfl);rfl)
     | (apply z16;rfl;(with_reducible rfl);rfl)
     | (apply z68;(iterate 3 rfl);assumption)
     | (apply z63;(iterate 3 rfl))
     | (apply z24;rfl;rfl)
     | (apply z14;rfl;rfl)
     | (apply z29;rfl;rfl)
     | (apply z28;(iterate 4 rfl);exact z34 (by first | exact rfl | assumption | exact z06 (by assumption)))
     | (apply za4;rfl;rfl)
     | (apply z22;rfl;rfl;(assumption);rfl)
     | (apply z08 (hc:=h24);rfl;rfl;rfl)
     | (apply z08 (hc:=h25);rfl;rfl;rfl)
     | (apply z08 (hc:=h27);rfl;rfl;rfl)
     | (apply z27 (hc:=⟨hcall.run⟩);rfl;rfl;(exact rfl);rfl;(exact z19 rfl);rintro H1 ⟨r1,k1⟩)
     | (apply z04;focus (repeat (first | exact z23 | (apply kq_c;rfl) | (apply zc5;rfl) | (apply z50;rfl) | (apply z38;rfl))))
     | apply z02
     | apply z00
     | apply z03
     | apply z05
     | apply z07
     | apply z25
     | apply z54
     | (apply z35;rfl;(with_reducible rfl))
     | (apply z32;rfl;(with_reducible rfl))
     | (apply z12;rfl)
     | (apply z47;rfl;(with_reducible rfl))
     | (apply z41;rfl;(with_reducible rfl))
     | (apply z39;rfl)
     | (apply z62;(exact rfl))
     | with_reducible exact zb5
     | with_reducible apply zb4
     | with_reducible apply z57
     | with_reducible apply z58
     | (with_reducible apply za1;intro hc)
     | (with_reducible apply z71;intro hc)
     | (apply z48;rfl)
     | (apply z55;rfl)
     | (apply dand;rfl)
    try any_goals (exfalso;omega)
    all_goals exact hT▸jy2 (t:=⟨op,q,t,n,false,0,0⟩) hlen (fun h fr hk=>hg _ rfl h r1 fr hk) (fun h fr h1 h2=>ho _ rfl h fr h1 h2)
theorem jm9 {H:z18} {s:List UInt8} {id i:Nat} {c:UInt8} {a:Tok} {r:List Tok} {t6:CV} {N:Post} {B:Hs} {R:RP} (hH:ScH id (scAt s i) H) (hc:s[i]?=some c) (hl:s.length<2^30) (hlen:(a::r).length≤16384)
 (hgo:∀ op q t n e H',z74 s i c=.tok op q t n e→(a::r).length+1≤16384→ScH id (scAt s e) H'→∀ fr,KpL [0,3,4,5,6] fr [0,3,4,5,6] (lexK s id ((a::r)++[⟨op,q,t,n,false,(plc s i).1,(plc s i).2⟩]) (tokC ⟨op,q,t,n,false,(plc s i).1,(plc s i).2⟩))→R.go 0 fr H')
 (hover:∀ op q t n e H',z74 s i c=.tok op q t n e→16384≤(a::r).length→∀ fr:WFr,fr.env 2=.nils→fr.env 3=.lbox (some 4) (.c (fltC 3 [] (plc s i).1 (plc s i).2))→R.ret fr H')
 (hbad:∀ code p nm H',z74 s i c=.bad code p nm→∀ fr:WFr,fr.env 2=.nils→fr.env 3=.lbox (some 4) (.c (fltC code nm (plc s p).1 (plc s p).2))→R.ret fr H')
 (hcl:¬ (upperB c||lowerB c)=true) (hd:¬ z93 c=true) (hq:c=39∨c=34) :
   WP Vv zi9 (FL (lexK s id (a::r) t6) []) H N B R:=by
  have hH0:H[id]?=some (.var (some 8) (scC (scAt s i))):=hH
  have h0:s[(scAt s i).pos]?=some c:=hc
  have hlt:i<s.length:=(List.getElem?_eq_some_iff.1 hc).1
  have h24:=zf0 c
  have h25:=zj1 c
  have h27:=zh5 c
  unfold zi9 lexP3 lexP4 lexP5 lexK
  generalize hT:lexT=T
  have hup:upperB c=false:=Bool.eq_false_iff.2 (fun h=>hcl (by rw [h];rfl))
  have hlo:lowerB c=false:=Bool.eq_false_iff.2 (fun h=>hcl (by rw [h];exact Bool.or_true _))
  rw [hup] at h24
  rw [hlo] at h25
  rw [Bool.eq_false_iff.2 hd] at h27
  have hxj:scAt (scAt s i).src (scAt s i).pos=scAt s i:=rfl
  have hj1:(scAt s i).pos+1≤(scAt s i).src.length:=by show i+1≤s.length;omega
  have hjp:(scAt s i).pos≤(scAt s i).src.length:=by show i≤s.length;omega
  have hl50:(scAt s i).src.length<2^50:=by show s.length<_;omega
  have hl60:(scAt s i).src.length<2^60:=by show s.length<_;omega
  have hq':(c.toNat:Int)=39∨(c.toNat:Int)=34:=hq.imp qi2 qi2
  have eu:z74 s i c=litU s i c:=by unfold z74;rw [if_neg hcl,if_neg hd,if_pos hq]
  have hcall:=jc2 (x:=scAt s i) rfl hH hc hq hl
  cases hu:litU s i c with
  | skip e=>have h:=hcall;rw [show litU (scAt s i).src (scAt s i).pos c=.skip e from hu] at h;exact (zr1 h).elim
  | bad code p nm=>
    rw [show litU (scAt s i).src (scAt s i).pos c=.bad code p nm from hu] at hcall
    obtain ⟨y,hy,hcall⟩:=zx9 hcall
    have hb:=hbad code p nm
    rw [eu,hu] at hb
    repeat' first
     | apply z01
     | exact z13
     | exact z19 rfl
     | (apply z15;rfl;rfl)
     | (apply z30;(iterate 3 rfl))
     | (apply z84;rfl;rfl)
     | (apply z17;rfl;(with_reducible rfl);rfl)
     | (apply z16;rfl;(with_reducible rfl);rfl)
     | (apply z68;(iterate 3 rfl);assumption)
     | (apply z66;rfl;rfl)
     | (apply z63;(iterate 3 rfl))
     | (apply z24;rfl;rfl)
     | (apply z14;rfl;rfl)
     | (apply z29;rfl;rfl)
     | (apply z28;(iterate 4 rfl);exact z34 (by first | exact rfl | assumption | exact z06 (by assumption)))
     | (apply za4;rfl;rfl)
     | (apply z22;rfl;rfl;(assumption);rfl)
     | (apply z08 (hc:=h24);rfl;rfl;rfl)
     | (apply z08 (hc:=h25);rfl;rfl;rfl)
     | (apply z08 (hc:=h27);rfl;rfl;rfl)
     | (apply z27 (hc:=⟨hcall.run⟩);rfl;rfl;(exact rfl);rfl;(exact z19 rfl);rintro H1 ⟨r1,k1⟩)
     | (apply z04;focus (repeat (first | exact z23 | (apply kq_c;rfl) | (apply ze1;rfl;rfl) | (apply z50;rfl) | (apply z38;rfl))))
     | apply z02
     | apply z00
     | apply z03
     | apply z05
     | apply z09
     | apply z25
     | apply z54
     | (apply z35;rfl;(with_reducible rfl))
     | (apply z32;rfl;(with_reducible rfl))
     | (apply z12;rfl)
     | (apply z47;rfl;(with_reducible rfl))
     | (apply z41;rfl;(with_reducible rfl))
     | (apply z39;rfl)
     | (apply z62;(exact rfl))
     | with_reducible exact ze7
     | with_reducible apply ze2
     | with_reducible apply z57
     | with_reducible apply z58
     | (with_reducible apply za1;intro hc)
     | (with_reducible apply z71;intro hc)
     | (apply z48;rfl)
     | (apply z55;rfl)
     | (apply zd7;rfl)
     | (apply dand;rfl)
    try any_goals (exfalso;omega)
    all_goals exact hb _ rfl _ rfl (congrArg (fun u=>WV.lbox (some 4) (.c u)) (qj1 hy))
  | tok op q t n e=>
    rw [show litU (scAt s i).src (scAt s i).pos c=.tok op q t n e from hu] at hcall
    have hcall:=zy4 hcall
    have hg:=hgo op q t n e
    have ho:=hover op q t n e
    rw [eu,hu] at hg ho
    repeat' first
     | apply z01
     | exact z13
     | exact z19 rfl
     | (apply z15;rfl;rfl)
     | (apply z30;(iterate 3 rfl))
     | (apply z84;rfl;rfl)
     | (apply z17;rfl;(with_reducible rfl);rfl)
     | (apply z16;rfl;(with_reducible rfl);rfl)
     | (apply z68;(iterate 3 rfl);assumption)
     | (apply z63;(iterate 3 rfl))
     | (apply z24;rfl;rfl)
     | (apply z14;rfl;rfl)
     | (apply z29;rfl;rfl)
     | (apply z28;(iterate 4 rfl);exact z34 (by first | exact rfl | assumption | exact z06 (by assumption)))
     | (apply za4;rfl;rfl)
     | (apply z22;rfl;rfl;(assumption);rfl)
     | (apply z08 (hc:=h24);rfl;rfl;rfl)
     | (apply z08 (hc:=h25);rfl;rfl;rfl)
     | (apply z08 (hc:=h27);rfl;rfl;rfl)
     | (apply z27 (hc:=⟨hcall.run⟩);rfl;rfl;(exact rfl);rfl;(exact z19 rfl);rintro H1 ⟨r1,k1⟩)
     | (apply z04;focus (repeat (first | exact z23 | (apply kq_c;rfl) | (apply ze1;rfl;rfl) | (apply z50;rfl) | (apply z38;rfl))))
     | apply z02
     | apply z00
     | apply z03
     | apply z05
     | apply z07
     | apply z25
     | apply z54
     | (apply z35;rfl;(with_reducible rfl))
     | (apply z32;rfl;(with_reducible rfl))
     | (apply z12;rfl)
     | (apply z47;rfl;(with_reducible rfl))
     | (apply z41;rfl;(with_reducible rfl))
     | (apply z39;rfl)
     | (apply z62;(exact rfl))
     | with_reducible exact zb5
     | with_reducible apply zb4
     | with_reducible apply z57
     | with_reducible apply z58
     | (with_reducible apply za1;intro hc)
     | (with_reducible apply z71;intro hc)
     | (apply z48;rfl)
     | (apply z55;rfl)
     | (apply dand;rfl)
    try any_goals (exfalso;omega)
    all_goals exact hT▸jy8 (t:=⟨op,q,t,n,false,0,0⟩) hlen (fun h fr hk=>hg _ rfl h r1 fr hk) (fun h fr h1 h2=>ho _ rfl h fr h1 h2)
end Go.Proofs.TryzL
namespace Go.Proofs.TryzL
open Go.Proofs.Lz
set_option maxHeartbeats 4000000
theorem jz8 {H:z18} {s:List UInt8} {id i:Nat} {c:UInt8} {t6:CV} {N:Post} {B:Hs} {R:RP} (hH:ScH id (scAt s i) H) (hc:s[i]?=some c) (hl:s.length<2^30) (hlen:([]:List Tok).length≤16384)
 (hgo:∀ op q t n e H',z74 s i c=.tok op q t n e→([]:List Tok).length+1≤16384→ScH id (scAt s e) H'→∀ fr,KpL [0,3,4,5,6] fr [0,3,4,5,6] (lexK s id (([]:List Tok)++[⟨op,q,t,n,false,(plc s i).1,(plc s i).2⟩]) (tokC ⟨op,q,t,n,false,(plc s i).1,(plc s i).2⟩))→R.go 0 fr H')
 (hover:∀ op q t n e H',z74 s i c=.tok op q t n e→16384≤([]:List Tok).length→∀ fr:WFr,fr.env 2=.nils→fr.env 3=.lbox (some 4) (.c (fltC 3 [] (plc s i).1 (plc s i).2))→R.ret fr H')
 (hbad:∀ code p nm H',z74 s i c=.bad code p nm→∀ fr:WFr,fr.env 2=.nils→fr.env 3=.lbox (some 4) (.c (fltC code nm (plc s p).1 (plc s p).2))→R.ret fr H')
 (hcl:¬ (upperB c||lowerB c)=true) (hd:¬ z93 c=true) (hq:¬ (c=39∨c=34)) (hs:symB c=true) :
   WP Vv zi9 (FL (lexK s id ([]:List Tok) t6) []) H N B R:=by
  have hH0:H[id]?=some (.var (some 8) (scC (scAt s i))):=hH
  have h0:s[(scAt s i).pos]?=some c:=hc
  have hlt:i<s.length:=(List.getElem?_eq_some_iff.1 hc).1
  have h24:=zf0 c
  have h25:=zj1 c
  have h27:=zh5 c
  unfold zi9 lexP3 lexP4 lexP5 lexK
  generalize hT:lexT=T
  have hup:upperB c=false:=Bool.eq_false_iff.2 (fun h=>hcl (by rw [h];rfl))
  have hlo:lowerB c=false:=Bool.eq_false_iff.2 (fun h=>hcl (by rw [h];exact Bool.or_true _))
  rw [hup] at h24
  rw [hlo] at h25
  rw [Bool.eq_false_iff.2 hd] at h27
  have hxj:scAt (scAt s i).src (scAt s i).pos=scAt s i:=rfl
  have hj1:(scAt s i).pos+1≤(scAt s i).src.length:=by show i+1≤s.length;omega
  have hjp:(scAt s i).pos≤(scAt s i).src.length:=by show i≤s.length;omega
  have hl50:(scAt s i).src.length<2^50:=by show s.length<_;omega
  have hl60:(scAt s i).src.length<2^60:=by show s.length<_;omega
  have hq1:¬ (c.toNat:Int)=39:=fun h=>hq (.inl (Classical.byContradiction fun e=>zz8 e h))
  have hq2:¬ (c.toNat:Int)=34:=fun h=>hq (.inr (Classical.byContradiction fun e=>zz8 e h))
  have h30:=zl0 c
  rw [hs] at h30
  have htl:=zi4 (p:=symB) (s:=s) (i:=i) (by omega)
  have hst:(z87 symB s i).length<2^60:=by omega
  have hrun:=qk6 hH hjp hl60
  have h33:=qf1 (z87 symB s i) (by omega)
  have hjt:(scAt s i).pos+(z87 symB s i).length≤(scAt s i).src.length:=htl
  have eu:z74 s i c=zm1 i [] (z87 symB s i) (i+(z87 symB s i).length):=by unfold z74;rw [if_neg hcl,if_neg hd,if_neg hq,if_pos hs]
  unfold zm1 at eu
  rw [if_neg (by simp)] at eu
  by_cases h64:(z87 symB s i).length≤64
  · rw [if_neg (by omega)] at eu
    have hg:=fun H'=>hgo _ _ _ _ _ H' eu
    have ho:=fun H'=>hover _ _ _ _ _ H' eu
    repeat' first
     | apply z01
     | exact z13
     | exact z19 rfl
     | (apply z15;rfl;rfl)
     | (apply z30;(iterate 3 rfl))
     | (apply z44;rfl)
     | (apply z84;rfl;rfl)
     | (apply z17;rfl;(with_reducible rfl);rfl)
     | (apply z16;rfl;(with_reducible rfl);rfl)
     | (apply z68;(iterate 3 rfl);assumption)
     | (apply z24;rfl;rfl)
     | (apply z14;rfl;rfl)
     | (apply z29;rfl;rfl)
     | (apply z28;(iterate 4 rfl);exact z34 (by first | exact rfl | assumption | exact z06 (by assumption)))
     | (apply z22;rfl;rfl;(assumption);rfl)
     | (apply z08 (hc:=h24);rfl;rfl;rfl)
     | (apply z08 (hc:=h25);rfl;rfl;rfl)
     | (apply z08 (hc:=h27);rfl;rfl;rfl)
     | (apply z08 (hc:=h30);rfl;rfl;rfl)
     | (apply z27 (hc:=⟨hrun.run⟩);rfl;rfl;(exact rfl);rfl;(exact z13);rintro H1 ⟨r1,k1⟩)
     | (apply z27 (hc:=⟨(zr7 r1 h64).run⟩);rfl;rfl;(exact rfl);rfl;(exact z13);rintro H1 ⟨r1,k1⟩)
     | (apply z08 (hc:=h33);rfl;rfl;rfl)
     | (apply z27 (hc:=⟨(adv (n:=(z87 symB s i).length) hxj r1 hjt hl50).run⟩);rfl;rfl;(exact rfl);rfl;(exact z19 rfl);rintro H1 ⟨r1,k1⟩)
     | (apply z04;focus (repeat (first | exact z23 | (apply kq_c;rfl) | (apply zc5;rfl) | (apply z50;rfl) | (apply z38;rfl))))
     | apply z02
     | apply z00
     | apply z03
     | apply z05
     | apply z07
     | apply z25
     | apply z54
     | (apply z35;rfl;(with_reducible rfl))
     | (apply z32;rfl;(with_reducible rfl))
     | (apply z12;rfl)
     | (apply z47;rfl;(with_reducible rfl))
     | (apply z41;rfl;(with_reducible rfl))
     | (apply z39;rfl)
     | (apply z62;(exact rfl))
     | with_reducible exact zb5
     | with_reducible apply zb4
     | with_reducible apply z57
     | with_reducible apply z58
     | (with_reducible apply za1;intro hc)
     | (with_reducible apply z71;intro hc)
     | (apply z48;rfl)
     | (apply z55;rfl)
     | (apply dand;rfl)
    try any_goals (exfalso;omega)
    all_goals exact hT▸jy2 (t:=⟨nmOp (z87 symB s i),[],z87 symB s i,0,false,0,0⟩) hlen (fun h fr hk=>hg _ h r1 fr hk) (fun h fr h1 h2=>ho _ h fr h1 h2)
  · rw [if_pos (by omega)] at eu
    repeat' first
     | apply z01
     | exact z13
     | exact z19 rfl
     | (apply z15;rfl;rfl)
     | (apply z30;(iterate 3 rfl))
     | (apply z84;rfl;rfl)
     | (apply z17;rfl;(with_reducible rfl);rfl)
     | (apply z16;rfl;(with_reducible rfl);rfl)
     | (apply z68;(iterate 3 rfl);assumption)
     | (apply z66;rfl;rfl)
     | (apply z24;rfl;rfl)
     | (apply z14;rfl;rfl)
     | (apply z29;rfl;rfl)
     | (apply z28;(iterate 4 rfl);exact z34 (by first | exact rfl | assumption | exact z06 (by assumption)))
     | (apply z22;rfl;rfl;(assumption);rfl)
     | (apply z08 (hc:=h24);rfl;rfl;rfl)
     | (apply z08 (hc:=h25);rfl;rfl;rfl)
     | (apply z08 (hc:=h27);rfl;rfl;rfl)
     | (apply z08 (hc:=h30);rfl;rfl;rfl)
     | (apply z27 (hc:=⟨hrun.run⟩);rfl;rfl;(exact rfl);rfl;(exact z13);rintro H1 ⟨r1,k1⟩)
     | (apply z27 (hc:=⟨(q28 r1 h64 hst).run⟩);rfl;rfl;(exact rfl);rfl;(exact z13);rintro H1 ⟨r1,k1⟩)
     | (apply z04;focus (repeat (first | exact z23 | (apply kq_c;rfl) | (apply zc5;rfl) | (apply z50;rfl) | (apply z38;rfl))))
     | apply z02
     | apply z00
     | apply z03
     | apply z05
     | apply z07
     | apply z09
     | apply z25
     | apply z54
     | (apply z35;rfl;(with_reducible rfl))
     | (apply z32;rfl;(with_reducible rfl))
     | (apply z12;rfl)
     | (apply z47;rfl;(with_reducible rfl))
     | (apply z41;rfl;(with_reducible rfl))
     | (apply z39;rfl)
     | (apply z62;(exact rfl))
     | with_reducible exact ze7
     | with_reducible apply ze2
     | with_reducible apply z57
     | with_reducible apply z58
     | (with_reducible apply za1;intro hc)
     | (with_reducible apply z71;intro hc)
     | (apply z48;rfl)
     | (apply z55;rfl)
     | (apply zd7;rfl)
     | (apply dand;rfl)
    try any_goals (exfalso;omega)
    all_goals exact hbad _ _ _ _ eu _ rfl (congrArg (fun u=>WV.lbox (some 4) (.c u)) (qj1 (j26 s i 3 _ (by decide))))
theorem w06 {H:z18} {s:List UInt8} {id i:Nat} {c:UInt8} {a:Tok} {r:List Tok} {t6:CV} {N:Post} {B:Hs} {R:RP} (hH:ScH id (scAt s i) H) (hc:s[i]?=some c) (hl:s.length<2^30) (hlen:(a::r).length≤16384)
 (hgo:∀ op q t n e H',z74 s i c=.tok op q t n e→(a::r).length+1≤16384→ScH id (scAt s e) H'→∀ fr,KpL [0,3,4,5,6] fr [0,3,4,5,6] (lexK s id ((a::r)++[⟨op,q,t,n,false,(plc s i).1,(plc s i).2⟩]) (tokC ⟨op,q,t,n,false,(plc s i).1,(plc s i).2⟩))→R.go 0 fr H')
 (hover:∀ op q t n e H',z74 s i c=.tok op q t n e→16384≤(a::r).length→∀ fr:WFr,fr.env 2=.nils→fr.env 3=.lbox (some 4) (.c (fltC 3 [] (plc s i).1 (plc s i).2))→R.ret fr H')
 (hbad:∀ code p nm H',z74 s i c=.bad code p nm→∀ fr:WFr,fr.env 2=.nils→fr.env 3=.lbox (some 4) (.c (fltC code nm (plc s p).1 (plc s p).2))→R.ret fr H')
 (hcl:¬ (upperB c||lowerB c)=true) (hd:¬ z93 c=true) (hq:¬ (c=39∨c=34)) (hs:symB c=true) :
   WP Vv zi9 (FL (lexK s id (a::r) t6) []) H N B R:=by
  have hH0:H[id]?=some (.var (some 8) (scC (scAt s i))):=hH
  have h0:s[(scAt s i).pos]?=some c:=hc
  have hlt:i<s.length:=(List.getElem?_eq_some_iff.1 hc).1
  have h24:=zf0 c
  have h25:=zj1 c
  have h27:=zh5 c
  unfold zi9 lexP3 lexP4 lexP5 lexK
  generalize hT:lexT=T
  have hup:upperB c=false:=Bool.eq_false_iff.2 (fun h=>hcl (by rw [h];rfl))
  have hlo:lowerB c=false:=Bool.eq_false_iff.2 (fun h=>hcl (by rw [h];exact Bool.or_true _))
  rw [hup] at h24
  rw [hlo] at h25
  rw [Bool.eq_false_iff.2 hd] at h27
  have hxj:scAt (scAt s i).src (scAt s i).pos=scAt s i:=rfl
  have hj1:(scAt s i).pos+1≤(scAt s i).src.length:=by show i+1≤s.length;omega
  have hjp:(scAt s i).pos≤(scAt s i).src.length:=by show i≤s.length;omega
  have hl50:(scAt s i).src.length<2^50:=by show s.length<_;omega
  have hl60:(scAt s i).src.length<2^60:=by show s.length<_;omega
  have hq1:¬ (c.toNat:Int)=39:=fun h=>hq (.inl (Classical.byContradiction fun e=>zz8 e h))
  have hq2:¬ (c.toNat:Int)=34:=fun h=>hq (.inr (Classical.byContradiction fun e=>zz8 e h))
  have h30:=zl0 c
  rw [hs] at h30
  have htl:=zi4 (p:=symB) (s:=s) (i:=i) (by omega)
  have hst:(z87 symB s i).length<2^60:=by omega
  have hrun:=qk6 hH hjp hl60
  have h33:=qf1 (z87 symB s i) (by omega)
  have hjt:(scAt s i).pos+(z87 symB s i).length≤(scAt s i).src.length:=htl
  have eu:z74 s i c=zm1 i [] (z87 symB s i) (i+(z87 symB s i).length):=by unfold z74;rw [if_neg hcl,if_neg hd,if_neg hq,if_pos hs]
  unfold zm1 at eu
  rw [if_neg (by simp)] at eu
  by_cases h64:(z87 symB s i).length≤64
  · rw [if_neg (by omega)] at eu
    have hg:=fun H'=>hgo _ _ _ _ _ H' eu
    have ho:=fun H'=>hover _ _ _ _ _ H' eu
    repeat' first
     | apply z01
     | exact z13
     | exact z19 rfl
     | (apply z15;rfl;rfl)
     | (apply z30;(iterate 3 rfl))
     | (apply z44;rfl)
     | (apply z84;rfl;rfl)
     | (apply z17;rfl;(with_reducible rfl);rfl)
     | (apply z16;rfl;(with_reducible rfl);rfl)
     | (apply z68;(iterate 3 rfl);assumption)
     | (apply z24;rfl;rfl)
     | (apply z14;rfl;rfl)
     | (apply z29;rfl;rfl)
     | (apply z28;(iterate 4 rfl);exact z34 (by first | exact rfl | assumption | exact z06 (by assumption)))
     | (apply z22;rfl;rfl;(assumption);rfl)
     | (apply z08 (hc:=h24);rfl;rfl;rfl)
     | (apply z08 (hc:=h25);rfl;rfl;rfl)
     | (apply z08 (hc:=h27);rfl;rfl;rfl)
     | (apply z08 (hc:=h30);rfl;rfl;rfl)
     | (apply z27 (hc:=⟨hrun.run⟩);rfl;rfl;(exact rfl);rfl;(exact z13);rintro H1 ⟨r1,k1⟩)
     | (apply z27 (hc:=⟨(zr7 r1 h64).run⟩);rfl;rfl;(exact rfl);rfl;(exact z13);rintro H1 ⟨r1,k1⟩)
     | (apply z08 (hc:=h33);rfl;rfl;rfl)
     | (apply z27 (hc:=⟨(adv (n:=(z87 symB s i).length) hxj r1 hjt hl50).run⟩);rfl;rfl;(exact rfl);rfl;(exact z19 rfl);rintro H1 ⟨r1,k1⟩)
     | (apply z04;focus (repeat (first | exact z23 | (apply kq_c;rfl) | (apply ze1;rfl;rfl) | (apply z50;rfl) | (apply z38;rfl))))
     | apply z02
     | apply z00
     | apply z03
     | apply z05
     | apply z07
     | apply z25
     | apply z54
     | (apply z35;rfl;(with_reducible rfl))
     | (apply z32;rfl;(with_reducible rfl))
     | (apply z12;rfl)
     | (apply z47;rfl;(with_reducible rfl))
     | (apply z41;rfl;(with_reducible rfl))
     | (apply z39;rfl)
     | (apply z62;(exact rfl))
     | with_reducible exact zb5
     | with_reducible apply zb4
     | with_reducible apply z57
     | with_reducible apply z58
     | (with_reducible apply za1;intro hc)
     | (with_reducible apply z71;intro hc)
     | (apply z48;rfl)
     | (apply z55;rfl)
     | (apply dand;rfl)
    try any_goals (exfalso;omega)
    all_goals exact hT▸jy8 (t:=⟨nmOp (z87 symB s i),[],z87 symB s i,0,false,0,0⟩) hlen (fun h fr hk=>hg _ h r1 fr hk) (fun h fr h1 h2=>ho _ h fr h1 h2)
  · rw [if_pos (by omega)] at eu
    repeat' first
     | apply z01
     | exact z13
     | exact z19 rfl
     | (apply z15;rfl;rfl)
     | (apply z30;(iterate 3 rfl))
     | (apply z84;rfl;rfl)
     | (apply z17;rfl;(with_reducible rfl);rfl)
     | (apply z16;rfl;(with_reducible rfl);rfl)
     | (apply z68;(iterate 3 rfl);assumption)
     | (apply z66;rfl;rfl)
     | (apply z24;rfl;rfl)
     | (apply z14;rfl;rfl)
     | (apply z29;rfl;rfl)
     | (apply z28;(iterate 4 rfl);exact z34 (by first | exact rfl | assumption | exact z06 (by assumption)))
     | (apply z22;rfl;rfl;(assumption);rfl)
     | (apply z08 (hc:=h24);rfl;rfl;rfl)
     | (apply z08 (hc:=h25);rfl;rfl;rfl)
     | (apply z08 (hc:=h27);rfl;rfl;rfl)
     | (apply z08 (hc:=h30);rfl;rfl;rfl)
     | (apply z27 (hc:=⟨hrun.run⟩);rfl;rfl;(exact rfl);rfl;(exact z13);rintro H1 ⟨r1,k1⟩)
     | (apply z27 (hc:=⟨(q28 r1 h64 hst).run⟩);rfl;rfl;(exact rfl);rfl;(exact z13);rintro H1 ⟨r1,k1⟩)
     | (apply z04;focus (repeat (first | exact z23 | (apply kq_c;rfl) | (apply ze1;rfl;rfl) | (apply z50;rfl) | (apply z38;rfl))))
     | apply z02
     | apply z00
     | apply z03
     | apply z05
     | apply z07
     | apply z09
     | apply z25
     | apply z54
     | (apply z35;rfl;(with_reducible rfl))
     | (apply z32;rfl;(with_reducible rfl))
     | (apply z12;rfl)
     | (apply z47;rfl;(with_reducible rfl))
     | (apply z41;rfl;(with_reducible rfl))
     | (apply z39;rfl)
     | (apply z62;(exact rfl))
     | with_reducible exact ze7
     | with_reducible apply ze2
     | with_reducible apply z57
     | with_reducible apply z58
     | (with_reducible apply za1;intro hc)
     | (with_reducible apply z71;intro hc)
     | (apply z48;rfl)
     | (apply z55;rfl)
     | (apply zd7;rfl)
     | (apply dand;rfl)
    try any_goals (exfalso;omega)
    all_goals exact hbad _ _ _ _ eu _ rfl (congrArg (fun u=>WV.lbox (some 4) (.c u)) (qj1 (j26 s i 3 _ (by decide))))
end Go.Proofs.TryzL
namespace Go.Proofs.TryzL
open Go.Proofs.Lz
set_option maxHeartbeats 4000000
theorem w32 {H:z18} {s:List UInt8} {id i:Nat} {c:UInt8} {t6:CV} {N:Post} {B:Hs} {R:RP} (hH:ScH id (scAt s i) H) (hc:s[i]?=some c) (hl:s.length<2^30) (hlen:([]:List Tok).length≤16384)
 (hgo:∀ op q t n e H',z74 s i c=.tok op q t n e→([]:List Tok).length+1≤16384→ScH id (scAt s e) H'→∀ fr,KpL [0,3,4,5,6] fr [0,3,4,5,6] (lexK s id (([]:List Tok)++[⟨op,q,t,n,false,(plc s i).1,(plc s i).2⟩]) (tokC ⟨op,q,t,n,false,(plc s i).1,(plc s i).2⟩))→R.go 0 fr H')
 (hover:∀ op q t n e H',z74 s i c=.tok op q t n e→16384≤([]:List Tok).length→∀ fr:WFr,fr.env 2=.nils→fr.env 3=.lbox (some 4) (.c (fltC 3 [] (plc s i).1 (plc s i).2))→R.ret fr H')
 (hbad:∀ code p nm H',z74 s i c=.bad code p nm→∀ fr:WFr,fr.env 2=.nils→fr.env 3=.lbox (some 4) (.c (fltC code nm (plc s p).1 (plc s p).2))→R.ret fr H')
 (hcl:¬ (upperB c||lowerB c)=true) (hd:¬ z93 c=true) (hq:¬ (c=39∨c=34)) (hs:¬ symB c=true) (hp:spS.contains c=true) :
   WP Vv zi9 (FL (lexK s id ([]:List Tok) t6) []) H N B R:=by
  have hH0:H[id]?=some (.var (some 8) (scC (scAt s i))):=hH
  have h0:s[(scAt s i).pos]?=some c:=hc
  have hlt:i<s.length:=(List.getElem?_eq_some_iff.1 hc).1
  have h24:=zf0 c
  have h25:=zj1 c
  have h27:=zh5 c
  unfold zi9 lexP3 lexP4 lexP5 lexK
  generalize hT:lexT=T
  have hup:upperB c=false:=Bool.eq_false_iff.2 (fun h=>hcl (by rw [h];rfl))
  have hlo:lowerB c=false:=Bool.eq_false_iff.2 (fun h=>hcl (by rw [h];exact Bool.or_true _))
  rw [hup] at h24
  rw [hlo] at h25
  rw [Bool.eq_false_iff.2 hd] at h27
  have hxj:scAt (scAt s i).src (scAt s i).pos=scAt s i:=rfl
  have hj1:(scAt s i).pos+1≤(scAt s i).src.length:=by show i+1≤s.length;omega
  have hjp:(scAt s i).pos≤(scAt s i).src.length:=by show i≤s.length;omega
  have hl50:(scAt s i).src.length<2^50:=by show s.length<_;omega
  have hl60:(scAt s i).src.length<2^60:=by show s.length<_;omega
  have hq1:¬ (c.toNat:Int)=39:=fun h=>hq (.inl (Classical.byContradiction fun e=>zz8 e h))
  have hq2:¬ (c.toNat:Int)=34:=fun h=>hq (.inr (Classical.byContradiction fun e=>zz8 e h))
  have h30:=zl0 c
  rw [Bool.eq_false_iff.2 hs] at h30
  have h35:=zy2 spS c
  have hge:0≤Lib.indexByte spS c:=of_decide_eq_true (by rw [q07];exact hp)
  have eu:z74 s i c=.tok 8 [] [c] 0 (i+1):=by unfold z74;rw [if_neg hcl,if_neg hd,if_neg hq,if_neg hs,if_pos hp]
  have hg:=fun H'=>hgo _ _ _ _ _ H' eu
  have ho:=fun H'=>hover _ _ _ _ _ H' eu
  repeat' first
   | apply z01
   | exact z13
   | exact z19 rfl
   | (apply z15;rfl;rfl)
   | (apply z99;rfl;rfl;omega)
   | (apply zx6;(iterate 3 rfl);assumption)
   | (apply z30;(iterate 3 rfl))
   | (apply z84;rfl;rfl)
   | (apply z17;rfl;(with_reducible rfl);rfl)
   | (apply z16;rfl;(with_reducible rfl);rfl)
   | (apply z68;(iterate 3 rfl);assumption)
   | (apply z78;(iterate 3 rfl))
   | (apply z24;rfl;rfl)
   | (apply z14;rfl;rfl)
   | (apply z29;rfl;rfl)
   | (apply z28;(iterate 4 rfl);exact z34 (by first | exact rfl | assumption | exact z06 (by assumption)))
   | (apply z22;rfl;rfl;(assumption);rfl)
   | (apply z08 (hc:=h24);rfl;rfl;rfl)
   | (apply z08 (hc:=h25);rfl;rfl;rfl)
   | (apply z08 (hc:=h27);rfl;rfl;rfl)
   | (apply z08 (hc:=h30);rfl;rfl;rfl)
   | (apply z08 (hc:=h35);rfl;rfl;rfl)
   | (apply z27 (hc:=⟨(adv (n:=1) hxj hH hj1 hl50).run⟩);rfl;rfl;(exact rfl);rfl;(exact z19 rfl);rintro H1 ⟨r1,k1⟩)
   | (apply z04;focus (repeat (first | exact z23 | (apply kq_c;rfl) | (apply zc5;rfl) | (apply z50;rfl) | (apply z38;rfl))))
   | apply z02
   | apply z00
   | apply z03
   | apply z05
   | apply z07
   | apply z25
   | apply z54
   | (apply z35;rfl;(with_reducible rfl))
   | (apply z32;rfl;(with_reducible rfl))
   | (apply z12;rfl)
   | (apply z47;rfl;(with_reducible rfl))
   | (apply z41;rfl;(with_reducible rfl))
   | (apply z39;rfl)
   | (apply z62;(exact rfl))
   | with_reducible exact zb5
   | with_reducible apply zb4
   | with_reducible apply z57
   | with_reducible apply z58
   | (with_reducible apply za1;intro hc)
   | (with_reducible apply z71;intro hc)
   | (with_reducible apply z69;intro hc)
   | (with_reducible apply z52;intro hc)
   | (apply z48;rfl)
   | (apply z55;rfl)
   | (apply zd7;rfl)
   | (apply zi6)
   | (apply dand;rfl)
  try any_goals (exfalso;omega)
  all_goals exact hT▸jy2 (t:=⟨8,[],[c],0,false,0,0⟩) hlen (fun h fr hk=>hg _ h r1 fr hk) (fun h fr h1 h2=>ho _ h fr h1 h2)
theorem w35 {H:z18} {s:List UInt8} {id i:Nat} {c:UInt8} {a:Tok} {r:List Tok} {t6:CV} {N:Post} {B:Hs} {R:RP} (hH:ScH id (scAt s i) H) (hc:s[i]?=some c) (hl:s.length<2^30) (hlen:(a::r).length≤16384)
 (hgo:∀ op q t n e H',z74 s i c=.tok op q t n e→(a::r).length+1≤16384→ScH id (scAt s e) H'→∀ fr,KpL [0,3,4,5,6] fr [0,3,4,5,6] (lexK s id ((a::r)++[⟨op,q,t,n,false,(plc s i).1,(plc s i).2⟩]) (tokC ⟨op,q,t,n,false,(plc s i).1,(plc s i).2⟩))→R.go 0 fr H')
 (hover:∀ op q t n e H',z74 s i c=.tok op q t n e→16384≤(a::r).length→∀ fr:WFr,fr.env 2=.nils→fr.env 3=.lbox (some 4) (.c (fltC 3 [] (plc s i).1 (plc s i).2))→R.ret fr H')
 (hbad:∀ code p nm H',z74 s i c=.bad code p nm→∀ fr:WFr,fr.env 2=.nils→fr.env 3=.lbox (some 4) (.c (fltC code nm (plc s p).1 (plc s p).2))→R.ret fr H')
 (hcl:¬ (upperB c||lowerB c)=true) (hd:¬ z93 c=true) (hq:¬ (c=39∨c=34)) (hs:¬ symB c=true) (hp:spS.contains c=true) :
   WP Vv zi9 (FL (lexK s id (a::r) t6) []) H N B R:=by
  have hH0:H[id]?=some (.var (some 8) (scC (scAt s i))):=hH
  have h0:s[(scAt s i).pos]?=some c:=hc
  have hlt:i<s.length:=(List.getElem?_eq_some_iff.1 hc).1
  have h24:=zf0 c
  have h25:=zj1 c
  have h27:=zh5 c
  unfold zi9 lexP3 lexP4 lexP5 lexK
  generalize hT:lexT=T
  have hup:upperB c=false:=Bool.eq_false_iff.2 (fun h=>hcl (by rw [h];rfl))
  have hlo:lowerB c=false:=Bool.eq_false_iff.2 (fun h=>hcl (by rw [h];exact Bool.or_true _))
  rw [hup] at h24
  rw [hlo] at h25
  rw [Bool.eq_false_iff.2 hd] at h27
  have hxj:scAt (scAt s i).src (scAt s i).pos=scAt s i:=rfl
  have hj1:(scAt s i).pos+1≤(scAt s i).src.length:=by show i+1≤s.length;omega
  have hjp:(scAt s i).pos≤(scAt s i).src.length:=by show i≤s.length;omega
  have hl50:(scAt s i).src.length<2^50:=by show s.length<_;omega
  have hl60:(scAt s i).src.length<2^60:=by show s.length<_;omega
  have hq1:¬ (c.toNat:Int)=39:=fun h=>hq (.inl (Classical.byContradiction fun e=>zz8 e h))
  have hq2:¬ (c.toNat:Int)=34:=fun h=>hq (.inr (Classical.byContradiction fun e=>zz8 e h))
  have h30:=zl0 c
  rw [Bool.eq_false_iff.2 hs] at h30
  have h35:=zy2 spS c
  have hge:0≤Lib.indexByte spS c:=of_decide_eq_true (by rw [q07];exact hp)
  have eu:z74 s i c=.tok 8 [] [c] 0 (i+1):=by unfold z74;rw [if_neg hcl,if_neg hd,if_neg hq,if_neg hs,if_pos hp]
  have hg:=fun H'=>hgo _ _ _ _ _ H' eu
  have ho:=fun H'=>hover _ _ _ _ _ H' eu
  repeat' first
   | apply z01
   | exact z13
   | exact z19 rfl
   | (apply z15;rfl;rfl)
   | (apply z99;rfl;rfl;omega)
   | (apply zx6;(iterate 3 rfl);assumption)
   | (apply z30;(iterate 3 rfl))
   | (apply z84;rfl;rfl)
   | (apply z17;rfl;(with_reducible rfl);rfl)
   | (apply z16;rfl;(with_reducible rfl);rfl)
   | (apply z68;(iterate 3 rfl);assumption)
   | (apply z78;(iterate 3 rfl))
   | (apply z24;rfl;rfl)
   | (apply z14;rfl;rfl)
   | (apply z29;rfl;rfl)
   | (apply z28;(iterate 4 rfl);exact z34 (by first | exact rfl | assumption | exact z06 (by assumption)))
   | (apply z22;rfl;rfl;(assumption);rfl)
   | (apply z08 (hc:=h24);rfl;rfl;rfl)
   | (apply z08 (hc:=h25);rfl;rfl;rfl)
   | (apply z08 (hc:=h27);rfl;rfl;rfl)
   | (apply z08 (hc:=h30);rfl;rfl;rfl)
   | (apply z08 (hc:=h35);rfl;rfl;rfl)
   | (apply z27 (hc:=⟨(adv (n:=1) hxj hH hj1 hl50).run⟩);rfl;rfl;(exact rfl);rfl;(exact z19 rfl);rintro H1 ⟨r1,k1⟩)
   | (apply z04;focus (repeat (first | exact z23 | (apply kq_c;rfl) | (apply ze1;rfl;rfl) | (apply z50;rfl) | (apply z38;rfl))))
   | apply z02
   | apply z00
   | apply z03
   | apply z05
   | apply z07
   | apply z25
   | apply z54
   | (apply z35;rfl;(with_reducible rfl))
   | (apply z32;rfl;(with_reducible rfl))
   | (apply z12;rfl)
   | (apply z47;rfl;(with_reducible rfl))
   | (apply z41;rfl;(with_reducible rfl))
   | (apply z39;rfl)
   | (apply z62;(exact rfl))
   | with_reducible exact zb5
   | with_reducible apply zb4
   | with_reducible apply z57
   | with_reducible apply z58
   | (with_reducible apply za1;intro hc)
   | (with_reducible apply z71;intro hc)
   | (with_reducible apply z69;intro hc)
   | (with_reducible apply z52;intro hc)
   | (apply z48;rfl)
   | (apply z55;rfl)
   | (apply zd7;rfl)
   | (apply zi6)
   | (apply dand;rfl)
  try any_goals (exfalso;omega)
  all_goals exact hT▸jy8 (t:=⟨8,[],[c],0,false,0,0⟩) hlen (fun h fr hk=>hg _ h r1 fr hk) (fun h fr h1 h2=>ho _ h fr h1 h2)
end Go.Proofs.TryzL
