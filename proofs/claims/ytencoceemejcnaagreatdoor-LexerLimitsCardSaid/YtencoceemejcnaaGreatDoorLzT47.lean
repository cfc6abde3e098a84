/- Chapter 02: a turn of Lex that gives a token. -/
import Derived.Test.YtencoceemejcnaaGreatDoorLzT45
set_option linter.unusedSimpArgs false
set_option linter.unusedVariables false
namespace Go.Proofs.TryzL
open Go.Proofs.Lz
set_option maxHeartbeats 4000000
theorem jj8 {H:z07} {s:List UInt8} {id i:Nat} {c:UInt8} {t6:CV} {N:Post} {B:Hs} {R:RP} (hH:ScH id (scAt s i) H) (hc:s[i]?=some c) (hl:s.length<2^30) (hlen:([]:List Tok).length≤16384)
 (hgo:∀ op q t n e H',z71 s i c=.tok op q t n e→([]:List Tok).length+1≤16384→ScH id (scAt s e) H'→∀ fr,KpL [0,3,4,5,6] fr [0,3,4,5,6] (lexK s id (([]:List Tok)++[⟨op,q,t,n,false,(plc s i).1,(plc s i).2⟩]) (tokC ⟨op,q,t,n,false,(plc s i).1,(plc s i).2⟩))→R.go 0 fr H')
 (hover:∀ op q t n e H',z71 s i c=.tok op q t n e→16384≤([]:List Tok).length→∀ fr:WFr,fr.env 2=.nils→fr.env 3=.lbox (some 4) (.c (fltC 3 [] (plc s i).1 (plc s i).2))→R.ret fr H')
 (hbad:∀ code p nm H',z71 s i c=.bad code p nm→∀ fr:WFr,fr.env 2=.nils→fr.env 3=.lbox (some 4) (.c (fltC code nm (plc s p).1 (plc s p).2))→R.ret fr H')
 (hcl:¬ (upperB c||lowerB c)=true) (hd:¬ z94 c=true) (hq:c=39∨c=34) :
   WP Vv zh0 (FL (lexK s id ([]:List Tok) t6) []) H N B R:=by
  have hH0:H[id]?=some (.var (some 8) (scC (scAt s i))):=hH
  have h0:s[(scAt s i).pos]?=some c:=hc
  have hlt:i<s.length:=(List.getElem?_eq_some_iff.1 hc).1
  have h24:=zc9 c
  have h25:=zh8 c
  have h27:=zf5 c
  unfold zh0 lexP3 lexP4 lexP5 lexK
  generalize hT:lexT=T
  have hup:upperB c=false:=Bool.eq_false_iff.2 (fun h=>hcl (by rw [h];rfl))
  have hlo:lowerB c=false:=Bool.eq_false_iff.2 (fun h=>hcl (by rw [h];exact Bool.or_true _))
  rw [hup] at h24
  rw [hlo] at h25
  rw [Bool.eq_false_iff.2 hd] at h27
  have hxj:scAt (scAt s i).src (scAt s i).pos=scAt s i:=rfl
  have hj1:(scAt s i).pos+1≤(scAt s i).src.length:=by show i+1≤s.length;omega
  have hjp:(scAt s i).pos≤(scAt s i).src.length:=by show i≤s.length;omega
  have hl50:(scAt s i).src.length<2^50:=by show s.length<_;omega
  have hl60:(scAt s i).src.length<2^60:=by show s.length<_;omega
  have hq':(c.toNat:Int)=39∨(c.toNat:Int)=34:=hq.imp qf1 qf1
  have eu:z71 s i c=litU s i c:=by unfold z71;rw [if_neg hcl,if_neg hd,if_pos hq]
  have hcall:=j90 (x:=scAt s i) rfl hH hc hq hl
  cases hu:litU s i c with
  | skip e=>have h:=hcall;rw [show litU (scAt s i).src (scAt s i).pos c=.skip e from hu] at h;exact (zo5 h).elim
  | bad code p nm=>
    rw [show litU (scAt s i).src (scAt s i).pos c=.bad code p nm from hu] at hcall
    obtain ⟨y,hy,hcall⟩:=zx1 hcall
    have hb:=hbad code p nm
    rw [eu,hu] at hb
    repeat' first
     | apply z01
     | exact z13
     | exact z18 rfl
     | (apply z17;rfl;rfl)
     | (apply z34;(iterate 3 rfl))
     | (apply z93;rfl;rfl)
     | (apply z16;rfl;(with_reducible rfl);rfl)
     | (apply z14;rfl;(with_reducible rfl);rfl)
     | (apply z62;(iterate 3 rfl);assumption)
     | (apply z56;rfl;rfl)
     | (apply z50;(iterate 3 rfl))
     | (apply z22;rfl;rfl)
     | (apply z06;rfl;rfl)
     | (apply z28;rfl;rfl)
     | (apply z27;(iterate 4 rfl);exact z30 (by first | exact rfl | assumption | exact z23 (by assumption)))
     | (apply z87;rfl;rfl)
     | (apply z09;rfl;rfl;(assumption);rfl)
     | (apply z05 (hc:=h24);rfl;rfl;rfl)
     | (apply z05 (hc:=h25);rfl;rfl;rfl)
     | (apply z05 (hc:=h27);rfl;rfl;rfl)
     | (apply z25 (hc:=⟨hcall.run⟩);rfl;rfl;(exact rfl);rfl;(exact z18 rfl);rintro H1 ⟨r1,k1⟩)
     | (apply z03;focus (repeat (first | exact z29 | (apply kq_c;rfl) | (apply za3;rfl) | (apply z49;rfl) | (apply z39;rfl))))
     | apply z02
     | apply z00
     | apply z04
     | apply z08
     | apply z19
     | apply z24
     | apply z48
     | (apply z41;rfl;(with_reducible rfl))
     | (apply z38;rfl;(with_reducible rfl))
     | (apply z15;rfl)
     | (apply z52;rfl;(with_reducible rfl))
     | (apply z42;rfl;(with_reducible rfl))
     | (apply z40;rfl)
     | (apply z57;(exact rfl))
     | with_reducible exact zf3
     | with_reducible apply zf1
     | with_reducible apply z65
     | with_reducible apply z64
     | (with_reducible apply za1;intro hc)
     | (with_reducible apply z69;intro hc)
     | (apply z45;rfl)
     | (apply z47;rfl)
     | (apply ze2;rfl)
     | (apply dand;rfl)
    try any_goals (exfalso;omega)
    all_goals exact hb _ rfl _ rfl (congrArg (fun u=>WV.lbox (some 4) (.c u)) (qf8 hy))
  | tok op q t n e=>
    rw [show litU (scAt s i).src (scAt s i).pos c=.tok op q t n e from hu] at hcall
    have hcall:=zw1 hcall
    have hg:=hgo op q t n e
    have ho:=hover op q t n e
    rw [eu,hu] at hg ho
    repeat' first
     | apply z01
     | exact z13
     | exact z18 rfl
     | (apply z17;rfl;rfl)
     | (apply z34;(iterate 3 rfl))
     | (apply z93;rfl;rfl)
     | (apply z16;rfl;(with_reducible rfl);rfl)
     | (apply z14;rfl;(with_reducible rfl);rfl)
     | (apply z62;(iterate 3 rfl);assumption)
     | (apply z50;(iterate 3 rfl))
     | (apply z22;rfl;rfl)
     | (apply z06;rfl;rfl)
     | (apply z28;rfl;rfl)
     | (apply z27;(iterate 4 rfl);exact z30 (by first | exact rfl | assumption | exact z23 (by assumption)))
     | (apply z87;rfl;rfl)
     | (apply z09;rfl;rfl;(assumption);rfl)
     | (apply z05 (hc:=h24);rfl;rfl;rfl)
     | (apply z05 (hc:=h25);rfl;rfl;rfl)
     | (apply z05 (hc:=h27);rfl;rfl;rfl)
     | (apply z25 (hc:=⟨hcall.run⟩);rfl;rfl;(exact rfl);rfl;(exact z18 rfl);rintro H1 ⟨r1,k1⟩)
     | (apply z03;focus (repeat (first | exact z29 | (apply kq_c;rfl) | (apply za3;rfl) | (apply z49;rfl) | (apply z39;rfl))))
     | apply z02
     | apply z00
     | apply z04
     | apply z08
     | apply z12
     | apply z24
     | apply z48
     | (apply z41;rfl;(with_reducible rfl))
     | (apply z38;rfl;(with_reducible rfl))
     | (apply z15;rfl)
     | (apply z52;rfl;(with_reducible rfl))
     | (apply z42;rfl;(with_reducible rfl))
     | (apply z40;rfl)
     | (apply z57;(exact rfl))
     | with_reducible exact zb1
     | with_reducible apply zb2
     | with_reducible apply z65
     | with_reducible apply z64
     | (with_reducible apply za1;intro hc)
     | (with_reducible apply z69;intro hc)
     | (apply z45;rfl)
     | (apply z47;rfl)
     | (apply dand;rfl)
    try any_goals (exfalso;omega)
    all_goals exact hT▸jl5 (t:=⟨op,q,t,n,false,0,0⟩) hlen (fun h fr hk=>hg _ rfl h r1 fr hk) (fun h fr h1 h2=>ho _ rfl h fr h1 h2)
theorem ji1 {H:z07} {s:List UInt8} {id i:Nat} {c:UInt8} {a:Tok} {r:List Tok} {t6:CV} {N:Post} {B:Hs} {R:RP} (hH:ScH id (scAt s i) H) (hc:s[i]?=some c) (hl:s.length<2^30) (hlen:(a::r).length≤16384)
 (hgo:∀ op q t n e H',z71 s i c=.tok op q t n e→(a::r).length+1≤16384→ScH id (scAt s e) H'→∀ fr,KpL [0,3,4,5,6] fr [0,3,4,5,6] (lexK s id ((a::r)++[⟨op,q,t,n,false,(plc s i).1,(plc s i).2⟩]) (tokC ⟨op,q,t,n,false,(plc s i).1,(plc s i).2⟩))→R.go 0 fr H')
 (hover:∀ op q t n e H',z71 s i c=.tok op q t n e→16384≤(a::r).length→∀ fr:WFr,fr.env 2=.nils→fr.env 3=.lbox (some 4) (.c (fltC 3 [] (plc s i).1 (plc s i).2))→R.ret fr H')
 (hbad:∀ code p nm H',z71 s i c=.bad code p nm→∀ fr:WFr,fr.env 2=.nils→fr.env 3=.lbox (some 4) (.c (fltC code nm (plc s p).1 (plc s p).2))→R.ret fr H')
 (hcl:¬ (upperB c||lowerB c)=true) (hd:¬ z94 c=true) (hq:c=39∨c=34) :
   WP Vv zh0 (FL (lexK s id (a::r) t6) []) H N B R:=by
  have hH0:H[id]?=some (.var (some 8) (scC (scAt s i))):=hH
  have h0:s[(scAt s i).pos]?=some c:=hc
  have hlt:i<s.length:=(List.getElem?_eq_some_iff.1 hc).1
  have h24:=zc9 c
  have h25:=zh8 c
  have h27:=zf5 c
  unfold zh0 lexP3 lexP4 lexP5 lexK
  generalize hT:lexT=T
  have hup:upperB c=false:=Bool.eq_false_iff.2 (fun h=>hcl (by rw [h];rfl))
  have hlo:lowerB c=false:=Bool.eq_false_iff.2 (fun h=>hcl (by rw [h];exact Bool.or_true _))
  rw [hup] at h24
  rw [hlo] at h25
  rw [Bool.eq_false_iff.2 hd] at h27
  have hxj:scAt (scAt s i).src (scAt s i).pos=scAt s i:=rfl
  have hj1:(scAt s i).pos+1≤(scAt s i).src.length:=by show i+1≤s.length;omega
  have hjp:(scAt s i).pos≤(scAt s i).src.length:=by show i≤s.length;omega
  have hl50:(scAt s i).src.length<2^50:=by show s.length<_;omega
  have hl60:(scAt s i).src.length<2^60:=by show s.length<_;omega
  have hq':(c.toNat:Int)=39∨(c.toNat:Int)=34:=hq.imp qf1 qf1
  have eu:z71 s i c=litU s i c:=by unfold z71;rw [if_neg hcl,if_neg hd,if_pos hq]
  have hcall:=j90 (x:=scAt s i) rfl hH hc hq hl
  cases hu:litU s i c with
  | skip e=>have h:=hcall;rw [show litU (scAt s i).src (scAt s i).pos c=.skip e from hu] at h;exact (zo5 h).elim
  | bad code p nm=>
    rw [show litU (scAt s i).src (scAt s i).pos c=.bad code p nm from hu] at hcall
    obtain ⟨y,hy,hcall⟩:=zx1 hcall
    have hb:=hbad code p nm
    rw [eu,hu] at hb
    repeat' first
     | apply z01
     | exact z13
     | exact z18 rfl
     | (apply z17;rfl;rfl)
     | (apply z34;(iterate 3 rfl))
     | (apply z93;rfl;rfl)
     | (apply z16;rfl;(with_reducible rfl);rfl)
     | (apply z14;rfl;(with_reducible rfl);rfl)
     | (apply z62;(iterate 3 rfl);assumption)
     | (apply z56;rfl;rfl)
     | (apply z50;(iterate 3 rfl))
     | (apply z22;rfl;rfl)
     | (apply z06;rfl;rfl)
     | (apply z28;rfl;rfl)
     | (apply z27;(iterate 4 rfl);exact z30 (by first | exact rfl | assumption | exact z23 (by assumption)))
     | (apply z87;rfl;rfl)
     | (apply z09;rfl;rfl;(assumption);rfl)
     | (apply z05 (hc:=h24);rfl;rfl;rfl)
     | (apply z05 (hc:=h25);rfl;rfl;rfl)
     | (apply z05 (hc:=h27);rfl;rfl;rfl)
     | (apply z25 (hc:=⟨hcall.run⟩);rfl;rfl;(exact rfl);rfl;(exact z18 rfl);rintro H1 ⟨r1,k1⟩)
     | (apply z03;focus (repeat (first | exact z29 | (apply kq_c;rfl) | (apply zb8;rfl;rfl) | (apply z49;rfl) | (apply z39;rfl))))
     | apply z02
     | apply z00
     | apply z04
     | apply z08
     | apply z19
     | apply z24
     | apply z48
     | (apply z41;rfl;(with_reducible rfl))
     | (apply z38;rfl;(with_reducible rfl))
     | (apply z15;rfl)
     | (apply z52;rfl;(with_reducible rfl))
     | (apply z42;rfl;(with_reducible rfl))
     | (apply z40;rfl)
     | (apply z57;(exact rfl))
     | with_reducible exact zf3
     | with_reducible apply zf1
     | with_reducible apply z65
     | with_reducible apply z64
     | (with_reducible apply za1;intro hc)
     | (with_reducible apply z69;intro hc)
     | (apply z45;rfl)
     | (apply z47;rfl)
     | (apply ze2;rfl)
     | (apply dand;rfl)
    try any_goals (exfalso;omega)
    all_goals exact hb _ rfl _ rfl (congrArg (fun u=>WV.lbox (some 4) (.c u)) (qf8 hy))
  | tok op q t n e=>
    rw [show litU (scAt s i).src (scAt s i).pos c=.tok op q t n e from hu] at hcall
    have hcall:=zw1 hcall
    have hg:=hgo op q t n e
    have ho:=hover op q t n e
    rw [eu,hu] at hg ho
    repeat' first
     | apply z01
     | exact z13
     | exact z18 rfl
     | (apply z17;rfl;rfl)
     | (apply z34;(iterate 3 rfl))
     | (apply z93;rfl;rfl)
     | (apply z16;rfl;(with_reducible rfl);rfl)
     | (apply z14;rfl;(with_reducible rfl);rfl)
     | (apply z62;(iterate 3 rfl);assumption)
     | (apply z50;(iterate 3 rfl))
     | (apply z22;rfl;rfl)
     | (apply z06;rfl;rfl)
     | (apply z28;rfl;rfl)
     | (apply z27;(iterate 4 rfl);exact z30 (by first | exact rfl | assumption | exact z23 (by assumption)))
     | (apply z87;rfl;rfl)
     | (apply z09;rfl;rfl;(assumption);rfl)
     | (apply z05 (hc:=h24);rfl;rfl;rfl)
     | (apply z05 (hc:=h25);rfl;rfl;rfl)
     | (apply z05 (hc:=h27);rfl;rfl;rfl)
     | (apply z25 (hc:=⟨hcall.run⟩);rfl;rfl;(exact rfl);rfl;(exact z18 rfl);rintro H1 ⟨r1,k1⟩)
     | (apply z03;focus (repeat (first | exact z29 | (apply kq_c;rfl) | (apply zb8;rfl;rfl) | (apply z49;rfl) | (apply z39;rfl))))
     | apply z02
     | apply z00
     | apply z04
     | apply z08
     | apply z12
     | apply z24
     | apply z48
     | (apply z41;rfl;(with_reducible rfl))
     | (apply z38;rfl;(with_reducible rfl))
     | (apply z15;rfl)
     | (apply z52;rfl;(with_reducible rfl))
     | (apply z42;rfl;(with_reducible rfl))
     | (apply z40;rfl)
     | (apply z57;(exact rfl))
     | with_reducible exact zb1
     | with_reducible apply zb2
     | with_reducible apply z65
     | with_reducible apply z64
     | (with_reducible apply za1;intro hc)
     | (with_reducible apply z69;intro hc)
     | (apply z45;rfl)
     | (apply z47;rfl)
     | (apply dand;rfl)
    try any_goals (exfalso;omega)
    all_goals exact hT▸jg1 (t:=⟨op,q,t,n,false,0,0⟩) hlen (fun h fr hk=>hg _ rfl h r1 fr hk) (fun h fr h1 h2=>ho _ rfl h fr h1 h2)
end Go.Proofs.TryzL
namespace Go.Proofs.TryzL
open Go.Proofs.Lz
set_option maxHeartbeats 4000000
theorem js9 {H:z07} {s:List UInt8} {id i:Nat} {c:UInt8} {t6:CV} {N:Post} {B:Hs} {R:RP} (hH:ScH id (scAt s i) H) (hc:s[i]?=some c) (hl:s.length<2^30) (hlen:([]:List Tok).length≤16384)
 (hgo:∀ op q t n e H',z71 s i c=.tok op q t n e→([]:List Tok).length+1≤16384→ScH id (scAt s e) H'→∀ fr,KpL [0,3,4,5,6] fr [0,3,4,5,6] (lexK s id (([]:List Tok)++[⟨op,q,t,n,false,(plc s i).1,(plc s i).2⟩]) (tokC ⟨op,q,t,n,false,(plc s i).1,(plc s i).2⟩))→R.go 0 fr H')
 (hover:∀ op q t n e H',z71 s i c=.tok op q t n e→16384≤([]:List Tok).length→∀ fr:WFr,fr.env 2=.nils→fr.env 3=.lbox (some 4) (.c (fltC 3 [] (plc s i).1 (plc s i).2))→R.ret fr H')
 (hbad:∀ code p nm H',z71 s i c=.bad code p nm→∀ fr:WFr,fr.env 2=.nils→fr.env 3=.lbox (some 4) (.c (fltC code nm (plc s p).1 (plc s p).2))→R.ret fr H')
 (hcl:¬ (upperB c||lowerB c)=true) (hd:¬ z94 c=true) (hq:¬ (c=39∨c=34)) (hs:symB c=true) :
   WP Vv zh0 (FL (lexK s id ([]:List Tok) t6) []) H N B R:=by
  have hH0:H[id]?=some (.var (some 8) (scC (scAt s i))):=hH
  have h0:s[(scAt s i).pos]?=some c:=hc
  have hlt:i<s.length:=(List.getElem?_eq_some_iff.1 hc).1
  have h24:=zc9 c
  have h25:=zh8 c
  have h27:=zf5 c
  unfold zh0 lexP3 lexP4 lexP5 lexK
  generalize hT:lexT=T
  have hup:upperB c=false:=Bool.eq_false_iff.2 (fun h=>hcl (by rw [h];rfl))
  have hlo:lowerB c=false:=Bool.eq_false_iff.2 (fun h=>hcl (by rw [h];exact Bool.or_true _))
  rw [hup] at h24
  rw [hlo] at h25
  rw [Bool.eq_false_iff.2 hd] at h27
  have hxj:scAt (scAt s i).src (scAt s i).pos=scAt s i:=rfl
  have hj1:(scAt s i).pos+1≤(scAt s i).src.length:=by show i+1≤s.length;omega
  have hjp:(scAt s i).pos≤(scAt s i).src.length:=by show i≤s.length;omega
  have hl50:(scAt s i).src.length<2^50:=by show s.length<_;omega
  have hl60:(scAt s i).src.length<2^60:=by show s.length<_;omega
  have hq1:¬ (c.toNat:Int)=39:=fun h=>hq (.inl (Classical.byContradiction fun e=>zx4 e h))
  have hq2:¬ (c.toNat:Int)=34:=fun h=>hq (.inr (Classical.byContradiction fun e=>zx4 e h))
  have h30:=zi5 c
  rw [hs] at h30
  have htl:=zg3 (p:=symB) (s:=s) (i:=i) (by omega)
  have hst:(z82 symB s i).length<2^60:=by omega
  have hrun:=qh8 hH hjp hl60
  have h33:=qc6 (z82 symB s i) (by omega)
  have hjt:(scAt s i).pos+(z82 symB s i).length≤(scAt s i).src.length:=htl
  have eu:z71 s i c=zl8 i [] (z82 symB s i) (i+(z82 symB s i).length):=by unfold z71;rw [if_neg hcl,if_neg hd,if_neg hq,if_pos hs]
  unfold zl8 at eu
  rw [if_neg (by simp)] at eu
  by_cases h64:(z82 symB s i).length≤64
  · rw [if_neg (by omega)] at eu
    have hg:=fun H'=>hgo _ _ _ _ _ H' eu
    have ho:=fun H'=>hover _ _ _ _ _ H' eu
    repeat' first
     | apply z01
     | exact z13
     | exact z18 rfl
     | (apply z17;rfl;rfl)
     | (apply z34;(iterate 3 rfl))
     | (apply z44;rfl)
     | (apply z93;rfl;rfl)
     | (apply z16;rfl;(with_reducible rfl);rfl)
     | (apply z14;rfl;(with_reducible rfl);rfl)
     | (apply z62;(iterate 3 rfl);assumption)
     | (apply z22;rfl;rfl)
     | (apply z06;rfl;rfl)
     | (apply z28;rfl;rfl)
     | (apply z27;(iterate 4 rfl);exact z30 (by first | exact rfl | assumption | exact z23 (by assumption)))
     | (apply z09;rfl;rfl;(assumption);rfl)
     | (apply z05 (hc:=h24);rfl;rfl;rfl)
     | (apply z05 (hc:=h25);rfl;rfl;rfl)
     | (apply z05 (hc:=h27);rfl;rfl;rfl)
     | (apply z05 (hc:=h30);rfl;rfl;rfl)
     | (apply z25 (hc:=⟨hrun.run⟩);rfl;rfl;(exact rfl);rfl;(exact z13);rintro H1 ⟨r1,k1⟩)
     | (apply z25 (hc:=⟨(zq9 r1 h64).run⟩);rfl;rfl;(exact rfl);rfl;(exact z13);rintro H1 ⟨r1,k1⟩)
     | (apply z05 (hc:=h33);rfl;rfl;rfl)
     | (apply z25 (hc:=⟨(adv (n:=(z82 symB s i).length) hxj r1 hjt hl50).run⟩);rfl;rfl;(exact rfl);rfl;(exact z18 rfl);rintro H1 ⟨r1,k1⟩)
     | (apply z03;focus (repeat (first | exact z29 | (apply kq_c;rfl) | (apply za3;rfl) | (apply z49;rfl) | (apply z39;rfl))))
     | apply z02
     | apply z00
     | apply z04
     | apply z08
     | apply z12
     | apply z24
     | apply z48
     | (apply z41;rfl;(with_reducible rfl))
     | (apply z38;rfl;(with_reducible rfl))
     | (apply z15;rfl)
     | (apply z52;rfl;(with_reducible rfl))
     | (apply z42;rfl;(with_reducible rfl))
     | (apply z40;rfl)
     | (apply z57;(exact rfl))
     | with_reducible exact zb1
     | with_reducible apply zb2
     | with_reducible apply z65
     | with_reducible apply z64
     | (with_reducible apply za1;intro hc)
     | (with_reducible apply z69;intro hc)
     | (apply z45;rfl)
     | (apply z47;rfl)
     | (apply dand;rfl)
    try any_goals (exfalso;omega)
    all_goals exact hT▸jl5 (t:=⟨nmOp (z82 symB s i),[],z82 symB s i,0,false,0,0⟩) hlen (fun h fr hk=>hg _ h r1 fr hk) (fun h fr h1 h2=>ho _ h fr h1 h2)
  · rw [if_pos (by omega)] at eu
    repeat' first
     | apply z01
     | exact z13
     | exact z18 rfl
     | (apply z17;rfl;rfl)
     | (apply z34;(iterate 3 rfl))
     | (apply z93;rfl;rfl)
     | (apply z16;rfl;(with_reducible rfl);rfl)
     | (apply z14;rfl;(with_reducible rfl);rfl)
     | (apply z62;(iterate 3 rfl);assumption)
     | (apply z56;rfl;rfl)
     | (apply z22;rfl;rfl)
     | (apply z06;rfl;rfl)
     | (apply z28;rfl;rfl)
     | (apply z27;(iterate 4 rfl);exact z30 (by first | exact rfl | assumption | exact z23 (by assumption)))
     | (apply z09;rfl;rfl;(assumption);rfl)
     | (apply z05 (hc:=h24);rfl;rfl;rfl)
     | (apply z05 (hc:=h25);rfl;rfl;rfl)
     | (apply z05 (hc:=h27);rfl;rfl;rfl)
     | (apply z05 (hc:=h30);rfl;rfl;rfl)
     | (apply z25 (hc:=⟨hrun.run⟩);rfl;rfl;(exact rfl);rfl;(exact z13);rintro H1 ⟨r1,k1⟩)
     | (apply z25 (hc:=⟨(q06 r1 h64 hst).run⟩);rfl;rfl;(exact rfl);rfl;(exact z13);rintro H1 ⟨r1,k1⟩)
     | (apply z03;focus (repeat (first | exact z29 | (apply kq_c;rfl) | (apply za3;rfl) | (apply z49;rfl) | (apply z39;rfl))))
     | apply z02
     | apply z00
     | apply z04
     | apply z08
     | apply z12
     | apply z19
     | apply z24
     | apply z48
     | (apply z41;rfl;(with_reducible rfl))
     | (apply z38;rfl;(with_reducible rfl))
     | (apply z15;rfl)
     | (apply z52;rfl;(with_reducible rfl))
     | (apply z42;rfl;(with_reducible rfl))
     | (apply z40;rfl)
     | (apply z57;(exact rfl))
     | with_reducible exact zf3
     | with_reducible apply zf1
     | with_reducible apply z65
     | with_reducible apply z64
     | (with_reducible apply za1;intro hc)
     | (with_reducible apply z69;intro hc)
     | (apply z45;rfl)
     | (apply z47;rfl)
     | (apply ze2;rfl)
     | (apply dand;rfl)
    try any_goals (exfalso;omega)
    all_goals exact hbad _ _ _ _ eu _ rfl (congrArg (fun u=>WV.lbox (some 4) (.c u)) (qf8 (j08 s i 3 _ (by decide))))
theorem js5 {H:z07} {s:List UInt8} {id i:Nat} {c:UInt8} {a:Tok} {r:List Tok} {t6:CV} {N:Post} {B:Hs} {R:RP} (hH:ScH id (scAt s i) H) (hc:s[i]?=some c) (hl:s.length<2^30) (hlen:(a::r).length≤16384)
 (hgo:∀ op q t n e H',z71 s i c=.tok op q t n e→(a::r).length+1≤16384→ScH id (scAt s e) H'→∀ fr,KpL [0,3,4,5,6] fr [0,3,4,5,6] (lexK s id ((a::r)++[⟨op,q,t,n,false,(plc s i).1,(plc s i).2⟩]) (tokC ⟨op,q,t,n,false,(plc s i).1,(plc s i).2⟩))→R.go 0 fr H')
 (hover:∀ op q t n e H',z71 s i c=.tok op q t n e→16384≤(a::r).length→∀ fr:WFr,fr.env 2=.nils→fr.env 3=.lbox (some 4) (.c (fltC 3 [] (plc s i).1 (plc s i).2))→R.ret fr H')
 (hbad:∀ code p nm H',z71 s i c=.bad code p nm→∀ fr:WFr,fr.env 2=.nils→fr.env 3=.lbox (some 4) (.c (fltC code nm (plc s p).1 (plc s p).2))→R.ret fr H')
 (hcl:¬ (upperB c||lowerB c)=true) (hd:¬ z94 c=true) (hq:¬ (c=39∨c=34)) (hs:symB c=true) :
   WP Vv zh0 (FL (lexK s id (a::r) t6) []) H N B R:=by
  have hH0:H[id]?=some (.var (some 8) (scC (scAt s i))):=hH
  have h0:s[(scAt s i).pos]?=some c:=hc
  have hlt:i<s.length:=(List.getElem?_eq_some_iff.1 hc).1
  have h24:=zc9 c
  have h25:=zh8 c
  have h27:=zf5 c
  unfold zh0 lexP3 lexP4 lexP5 lexK
  generalize hT:lexT=T
  have hup:upperB c=false:=Bool.eq_false_iff.2 (fun h=>hcl (by rw [h];rfl))
  have hlo:lowerB c=false:=Bool.eq_false_iff.2 (fun h=>hcl (by rw [h];exact Bool.or_true _))
  rw [hup] at h24
  rw [hlo] at h25
  rw [Bool.eq_false_iff.2 hd] at h27
  have hxj:scAt (scAt s i).src (scAt s i).pos=scAt s i:=rfl
  have hj1:(scAt s i).pos+1≤(scAt s i).src.length:=by show i+1≤s.length;omega
  have hjp:(scAt s i).pos≤(scAt s i).src.length:=by show i≤s.length;omega
  have hl50:(scAt s i).src.length<2^50:=by show s.length<_;omega
  have hl60:(scAt s i).src.length<2^60:=by show s.length<_;omega
  have hq1:¬ (c.toNat:Int)=39:=fun h=>hq (.inl (Classical.byContradiction fun e=>zx4 e h))
  have hq2:¬ (c.toNat:Int)=34:=fun h=>hq (.inr (Classical.byContradiction fun e=>zx4 e h))
  have h30:=zi5 c
  rw [hs] at h30
  have htl:=zg3 (p:=symB) (s:=s) (i:=i) (by omega)
  have hst:(z82 symB s i).length<2^60:=by omega
  have hrun:=qh8 hH hjp hl60
  have h33:=qc6 (z82 symB s i) (by omega)
  have hjt:(scAt s i).pos+(z82 symB s i).length≤(scAt s i).src.length:=htl
  have eu:z71 s i c=zl8 i [] (z82 symB s i) (i+(z82 symB s i).length):=by unfold z71;rw [if_neg hcl,if_neg hd,if_neg hq,if_pos hs]
  unfold zl8 at eu
  rw [if_neg (by simp)] at eu
  by_cases h64:(z82 symB s i).length≤64
  · rw [if_neg (by omega)] at eu
    have hg:=fun H'=>hgo _ _ _ _ _ H' eu
    have ho:=fun H'=>hover _ _ _ _ _ H' eu
    repeat' first
     | apply z01
     | exact z13
     | exact z18 rfl
     | (apply z17;rfl;rfl)
     | (apply z34;(iterate 3 rfl))
     | (apply z44;rfl)
     | (apply z93;rfl;rfl)
     | (apply z16;rfl;(with_reducible rfl);rfl)
     | (apply z14;rfl;(with_reducible rfl);rfl)
     | (apply z62;(iterate 3 rfl);assumption)
     | (apply z22;rfl;rfl)
     | (apply z06;rfl;rfl)
     | (apply z28;rfl;rfl)
     | (apply z27;(iterate 4 rfl);exact z30 (by first | exact rfl | assumption | exact z23 (by assumption)))
     | (apply z09;rfl;rfl;(assumption);rfl)
     | (apply z05 (hc:=h24);rfl;rfl;rfl)
     | (apply z05 (hc:=h25);rfl;rfl;rfl)
     | (apply z05 (hc:=h27);rfl;rfl;rfl)
     | (apply z05 (hc:=h30);rfl;rfl;rfl)
     | (apply z25 (hc:=⟨hrun.run⟩);rfl;rfl;(exact rfl);rfl;(exact z13);rintro H1 ⟨r1,k1⟩)
     | (apply z25 (hc:=⟨(zq9 r1 h64).run⟩);rfl;rfl;(exact rfl);rfl;(exact z13);rintro H1 ⟨r1,k1⟩)
     | (apply z05 (hc:=h33);rfl;rfl;rfl)
     | (apply z25 (hc:=⟨(adv (n:=(z82 symB s i).length) hxj r1 hjt hl50).run⟩);rfl;rfl;(exact rfl);rfl;(exact z18 rfl);rintro H1 ⟨r1,k1⟩)
     | (apply z03;focus (repeat (first | exact z29 | (apply kq_c;rfl) | (apply zb8;rfl;rfl) | (apply z49;rfl) | (apply z39;rfl))))
     | apply z02
     | apply z00
     | apply z04
     | apply z08
     | apply z12
     | apply z24
     | apply z48
     | (apply z41;rfl;(with_reducible rfl))
     | (apply z38;rfl;(with_reducible rfl))
     | (apply z15;rfl)
     | (apply z52;rfl;(with_reducible rfl))
     | (apply z42;rfl;(with_reducible rfl))
     | (apply z40;rfl)
     | (apply z57;(exact rfl))
     | with_reducible exact zb1
     | with_reducible apply zb2
     | with_reducible apply z65
     | with_reducible apply z64
     | (with_reducible apply za1;intro hc)
     | (with_reducible apply z69;intro hc)
     | (apply z45;rfl)
     | (apply z47;rfl)
     | (apply dand;rfl)
    try any_goals (exfalso;omega)
    all_goals exact hT▸jg1 (t:=⟨nmOp (z82 symB s i),[],z82 symB s i,0,false,0,0⟩) hlen (fun h fr hk=>hg _ h r1 fr hk) (fun h fr h1 h2=>ho _ h fr h1 h2)
  · rw [if_pos (by omega)] at eu
    repeat' first
     | apply z01
     | exact z13
     | exact z18 rfl
     | (apply z17;rfl;rfl)
     | (apply z34;(iterate 3 rfl))
     | (apply z93;rfl;rfl)
     | (apply z16;rfl;(with_reducible rfl);rfl)
     | (apply z14;rfl;(with_reducible rfl);rfl)
     | (apply z62;(iterate 3 rfl);assumption)
     | (apply z56;rfl;rfl)
     | (apply z22;rfl;rfl)
     | (apply z06;rfl;rfl)
     | (apply z28;rfl;rfl)
     | (apply z27;(iterate 4 rfl);exact z30 (by first | exact rfl | assumption | exact z23 (by assumption)))
     | (apply z09;rfl;rfl;(assumption);rfl)
     | (apply z05 (hc:=h24);rfl;rfl;rfl)
     | (apply z05 (hc:=h25);rfl;rfl;rfl)
     | (apply z05 (hc:=h27);rfl;rfl;rfl)
     | (apply z05 (hc:=h30);rfl;rfl;rfl)
     | (apply z25 (hc:=⟨hrun.run⟩);rfl;rfl;(exact rfl);rfl;(exact z13);rintro H1 ⟨r1,k1⟩)
     | (apply z25 (hc:=⟨(q06 r1 h64 hst).run⟩);rfl;rfl;(exact rfl);rfl;(exact z13);rintro H1 ⟨r1,k1⟩)
     | (apply z03;focus (repeat (first | exact z29 | (apply kq_c;rfl) | (apply zb8;rfl;rfl) | (apply z49;rfl) | (apply z39;rfl))))
     | apply z02
     | apply z00
     | apply z04
     | apply z08
     | apply z12
     | apply z19
     | apply z24
     | apply z48
     | (apply z41;rfl;(with_reducible rfl))
     | (apply z38;rfl;(with_reducible rfl))
     | (apply z15;rfl)
     | (apply z52;rfl;(with_reducible rfl))
     | (apply z42;rfl;(with_reducible rfl))
     | (apply z40;rfl)
     | (apply z57;(exact rfl))
     | with_reducible exact zf3
     | with_reducible apply zf1
     | with_reducible apply z65
     | with_reducible apply z64
     | (with_reducible apply za1;intro hc)
     | (with_reducible apply z69;intro hc)
     | (apply z45;rfl)
     | (apply z47;rfl)
     | (apply ze2;rfl)
     | (apply dand;rfl)
    try any_goals (exfalso;omega)
    all_goals exact hbad _ _ _ _ eu _ rfl (congrArg (fun u=>WV.lbox (some 4) (.c u)) (qf8 (j08 s i 3 _ (by decide))))
end Go.Proofs.TryzL
