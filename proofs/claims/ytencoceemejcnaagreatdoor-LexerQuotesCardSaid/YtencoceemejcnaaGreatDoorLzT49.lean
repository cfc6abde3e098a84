/- Chapter 02: a turn of Lex that gives a token. -/
import Derived.Test.YtencoceemejcnaaGreatDoorLzT46
set_option linter.unusedSimpArgs false
set_option linter.unusedVariables false
namespace Go.Proofs.TryzL
open Go.Proofs.Lz
set_option maxHeartbeats 4000000
theorem ju4 {H:z06} {s:List UInt8} {id i:Nat} {c:UInt8} {t6:CV} {N:Post} {B:Hs} {R:RP} (hH:ScH id (scAt s i) H) (hc:s[i]?=some c) (hl:s.length<2^30) (hlen:([]:List Tok).length≤16384)
 (hgo:∀ op q t n e H',z62 s i c=.tok op q t n e→([]:List Tok).length+1≤16384→ScH id (scAt s e) H'→∀ fr,KpL [0,3,4,5,6] fr [0,3,4,5,6] (lexK s id (([]:List Tok)++[⟨op,q,t,n,false,(plc s i).1,(plc s i).2⟩]) (tokC ⟨op,q,t,n,false,(plc s i).1,(plc s i).2⟩))→R.go 0 fr H')
 (hover:∀ op q t n e H',z62 s i c=.tok op q t n e→16384≤([]:List Tok).length→∀ fr:WFr,fr.env 2=.nils→fr.env 3=.lbox (some 4) (.c (fltC 3 [] (plc s i).1 (plc s i).2))→R.ret fr H')
 (hbad:∀ code p nm H',z62 s i c=.bad code p nm→∀ fr:WFr,fr.env 2=.nils→fr.env 3=.lbox (some 4) (.c (fltC code nm (plc s p).1 (plc s p).2))→R.ret fr H')
 (hcl:¬ (upperB c||lowerB c)=true) (hd:¬ z84 c=true) (hq:¬ (c=39∨c=34)) (hs:symB c=true) :
   WP Vv zh0 (FL (lexK s id ([]:List Tok) t6) []) H N B R:=by
  have hH0:H[id]?=some (.var (some 8) (scC (scAt s i))):=hH
  have h0:s[(scAt s i).pos]?=some c:=hc
  have hlt:i<s.length:=(List.getElem?_eq_some_iff.1 hc).1
  have h24:=zd1 c
  have h25:=zh9 c
  have h27:=zf6 c
  unfold zh0 lexP3 lexP4 lexP5 lexK
  generalize hT:lexT=T
  have hup:upperB c=false:=Bool.eq_false_iff.2 (fun h=>hcl (by rw [h];rfl))
  have hlo:lowerB c=false:=Bool.eq_false_iff.2 (fun h=>hcl (by rw [h];exact Bool.or_true _))
  rw [hup] at h24
  rw [hlo] at h25
  rw [Bool.eq_false_iff.2 hd] at h27
  have hxj:scAt (scAt s i).src (scAt s i).pos=scAt s i:=rfl
  have hj1:(scAt s i).pos+1≤(scAt s i).src.length:=by show i+1≤s.length;omega
  have hjp:(scAt s i).pos≤(scAt s i).src.length:=by show i≤s.length;omega
  have hl50:(scAt s i).src.length<2^50:=by show s.length<_;omega
  have hl60:(scAt s i).src.length<2^60:=by show s.length<_;omega
  have hq1:¬ (c.toNat:Int)=39:=fun h=>hq (.inl (Classical.byContradiction fun e=>zy0 e h))
  have hq2:¬ (c.toNat:Int)=34:=fun h=>hq (.inr (Classical.byContradiction fun e=>zy0 e h))
  have h30:=zj0 c
  rw [hs] at h30
  have htl:=zg3 (p:=symB) (s:=s) (i:=i) (by omega)
  have hst:(z74 symB s i).length<2^60:=by omega
  have hrun:=qh4 hH hjp hl60
  have h33:=qd5 (z74 symB s i) (by omega)
  have hjt:(scAt s i).pos+(z74 symB s i).length≤(scAt s i).src.length:=htl
  have eu:z62 s i c=zk4 i [] (z74 symB s i) (i+(z74 symB s i).length):=by unfold z62;rw [if_neg hcl,if_neg hd,if_neg hq,if_pos hs]
  unfold zk4 at eu
  rw [if_neg (by simp)] at eu
  by_cases h64:(z74 symB s i).length≤64
  · rw [if_neg (by omega)] at eu
    have hg:=fun H'=>hgo _ _ _ _ _ H' eu
    have ho:=fun H'=>hover _ _ _ _ _ H' eu
    repeat' first
     | apply z01
     | exact z13
     | exact z19 rfl
     | (apply z17;rfl;rfl)
     | (apply z30;(iterate 3 rfl))
     | (apply z42;rfl)
     | (apply z94;rfl;rfl)
     | (apply z18;rfl;(with_reducible rfl);rfl)
     | (apply z16;rfl;(with_reducible rfl);rfl)
     | (apply z60;(iterate 3 rfl);assumption)
     | (apply z23;rfl;rfl)
     | (apply z07;rfl;rfl)
     | (apply z27;rfl;rfl)
     | (apply z29;(iterate 4 rfl);exact z32 (by first | exact rfl | assumption | exact z25 (by assumption)))
     | (apply z08;rfl;rfl;(assumption);rfl)
     | (apply z05 (hc:=h24);rfl;rfl;rfl)
     | (apply z05 (hc:=h25);rfl;rfl;rfl)
     | (apply z05 (hc:=h27);rfl;rfl;rfl)
     | (apply z05 (hc:=h30);rfl;rfl;rfl)
     | (apply z24 (hc:=⟨hrun.run⟩);rfl;rfl;(exact rfl);rfl;(exact z13);rintro H1 ⟨r1,k1⟩)
     | (apply z24 (hc:=⟨(zr1 r1 h64).run⟩);rfl;rfl;(exact rfl);rfl;(exact z13);rintro H1 ⟨r1,k1⟩)
     | (apply z05 (hc:=h33);rfl;rfl;rfl)
     | (apply z24 (hc:=⟨(adv (n:=(z74 symB s i).length) hxj r1 hjt hl50).run⟩);rfl;rfl;(exact rfl);rfl;(exact z19 rfl);rintro H1 ⟨r1,k1⟩)
     | (apply z04;focus (repeat (first | exact z28 | (apply kq_c;rfl) | (apply za8;rfl) | (apply z49;rfl) | (apply z43;rfl))))
     | apply z02
     | apply z00
     | apply z03
     | apply z09
     | apply z12
     | apply z22
     | apply z45
     | (apply z39;rfl;(with_reducible rfl))
     | (apply z35;rfl;(with_reducible rfl))
     | (apply z14;rfl)
     | (apply z50;rfl;(with_reducible rfl))
     | (apply z41;rfl;(with_reducible rfl))
     | (apply z40;rfl)
     | (apply z56;(exact rfl))
     | with_reducible exact zb1
     | with_reducible apply zb0
     | with_reducible apply z64
     | with_reducible apply z63
     | (with_reducible apply za2;intro hc)
     | (with_reducible apply z73;intro hc)
     | (apply z44;rfl)
     | (apply z47;rfl)
     | (apply dand;rfl)
    try any_goals (exfalso;omega)
    all_goals exact hT▸jo2 (t:=⟨nmOp (z74 symB s i),[],z74 symB s i,0,false,0,0⟩) hlen (fun h fr hk=>hg _ h r1 fr hk) (fun h fr h1 h2=>ho _ h fr h1 h2)
  · rw [if_pos (by omega)] at eu
    repeat' first
     | apply z01
     | exact z13
     | exact z19 rfl
     | (apply z17;rfl;rfl)
     | (apply z30;(iterate 3 rfl))
     | (apply z94;rfl;rfl)
     | (apply z18;rfl;(with_reducible rfl);rfl)
     | (apply z16;rfl;(with_reducible rfl);rfl)
     | (apply z60;(iterate 3 rfl);assumption)
     | (apply z58;rfl;rfl)
     | (apply z23;rfl;rfl)
     | (apply z07;rfl;rfl)
     | (apply z27;rfl;rfl)
     | (apply z29;(iterate 4 rfl);exact z32 (by first | exact rfl | assumption | exact z25 (by assumption)))
     | (apply z08;rfl;rfl;(assumption);rfl)
     | (apply z05 (hc:=h24);rfl;rfl;rfl)
     | (apply z05 (hc:=h25);rfl;rfl;rfl)
     | (apply z05 (hc:=h27);rfl;rfl;rfl)
     | (apply z05 (hc:=h30);rfl;rfl;rfl)
     | (apply z24 (hc:=⟨hrun.run⟩);rfl;rfl;(exact rfl);rfl;(exact z13);rintro H1 ⟨r1,k1⟩)
     | (apply z24 (hc:=⟨(zz9 r1 h64 hst).run⟩);rfl;rfl;(exact rfl);rfl;(exact z13);rintro H1 ⟨r1,k1⟩)
     | (apply z04;focus (repeat (first | exact z28 | (apply kq_c;rfl) | (apply za8;rfl) | (apply z49;rfl) | (apply z43;rfl))))
     | apply z02
     | apply z00
     | apply z03
     | apply z09
     | apply z12
     | apply z15
     | apply z22
     | apply z45
     | (apply z39;rfl;(with_reducible rfl))
     | (apply z35;rfl;(with_reducible rfl))
     | (apply z14;rfl)
     | (apply z50;rfl;(with_reducible rfl))
     | (apply z41;rfl;(with_reducible rfl))
     | (apply z40;rfl)
     | (apply z56;(exact rfl))
     | with_reducible exact zf2
     | with_reducible apply zf5
     | with_reducible apply z64
     | with_reducible apply z63
     | (with_reducible apply za2;intro hc)
     | (with_reducible apply z73;intro hc)
     | (apply z44;rfl)
     | (apply z47;rfl)
     | (apply ze5;rfl)
     | (apply dand;rfl)
    try any_goals (exfalso;omega)
    all_goals exact hbad _ _ _ _ eu _ rfl (congrArg (fun u=>WV.lbox (some 4) (.c u)) (qh0 (j55 s i 3 _ (by decide))))
theorem jo9 {H:z06} {s:List UInt8} {id i:Nat} {c:UInt8} {a:Tok} {r:List Tok} {t6:CV} {N:Post} {B:Hs} {R:RP} (hH:ScH id (scAt s i) H) (hc:s[i]?=some c) (hl:s.length<2^30) (hlen:(a::r).length≤16384)
 (hgo:∀ op q t n e H',z62 s i c=.tok op q t n e→(a::r).length+1≤16384→ScH id (scAt s e) H'→∀ fr,KpL [0,3,4,5,6] fr [0,3,4,5,6] (lexK s id ((a::r)++[⟨op,q,t,n,false,(plc s i).1,(plc s i).2⟩]) (tokC ⟨op,q,t,n,false,(plc s i).1,(plc s i).2⟩))→R.go 0 fr H')
 (hover:∀ op q t n e H',z62 s i c=.tok op q t n e→16384≤(a::r).length→∀ fr:WFr,fr.env 2=.nils→fr.env 3=.lbox (some 4) (.c (fltC 3 [] (plc s i).1 (plc s i).2))→R.ret fr H')
 (hbad:∀ code p nm H',z62 s i c=.bad code p nm→∀ fr:WFr,fr.env 2=.nils→fr.env 3=.lbox (some 4) (.c (fltC code nm (plc s p).1 (plc s p).2))→R.ret fr H')
 (hcl:¬ (upperB c||lowerB c)=true) (hd:¬ z84 c=true) (hq:¬ (c=39∨c=34)) (hs:symB c=true) :
   WP Vv zh0 (FL (lexK s id (a::r) t6) []) H N B R:=by
  have hH0:H[id]?=some (.var (some 8) (scC (scAt s i))):=hH
  have h0:s[(scAt s i).pos]?=some c:=hc
  have hlt:i<s.length:=(List.getElem?_eq_some_iff.1 hc).1
  have h24:=zd1 c
  have h25:=zh9 c
  have h27:=zf6 c
  unfold zh0 lexP3 lexP4 lexP5 lexK
  generalize hT:lexT=T
  have hup:upperB c=false:=Bool.eq_false_iff.2 (fun h=>hcl (by rw [h];rfl))
  have hlo:lowerB c=false:=Bool.eq_false_iff.2 (fun h=>hcl (by rw [h];exact Bool.or_true _))
  rw [hup] at h24
  rw [hlo] at h25
  rw [Bool.eq_false_iff.2 hd] at h27
  have hxj:scAt (scAt s i).src (scAt s i).pos=scAt s i:=rfl
  have hj1:(scAt s i).pos+1≤(scAt s i).src.length:=by show i+1≤s.length;omega
  have hjp:(scAt s i).pos≤(scAt s i).src.length:=by show i≤s.length;omega
  have hl50:(scAt s i).src.length<2^50:=by show s.length<_;omega
  have hl60:(scAt s i).src.length<2^60:=by show s.length<_;omega
  have hq1:¬ (c.toNat:Int)=39:=fun h=>hq (.inl (Classical.byContradiction fun e=>zy0 e h))
  have hq2:¬ (c.toNat:Int)=34:=fun h=>hq (.inr (Classical.byContradiction fun e=>zy0 e h))
  have h30:=zj0 c
  rw [hs] at h30
  have htl:=zg3 (p:=symB) (s:=s) (i:=i) (by omega)
  have hst:(z74 symB s i).length<2^60:=by omega
  have hrun:=qh4 hH hjp hl60
  have h33:=qd5 (z74 symB s i) (by omega)
  have hjt:(scAt s i).pos+(z74 symB s i).length≤(scAt s i).src.length:=htl
  have eu:z62 s i c=zk4 i [] (z74 symB s i) (i+(z74 symB s i).length):=by unfold z62;rw [if_neg hcl,if_neg hd,if_neg hq,if_pos hs]
  unfold zk4 at eu
  rw [if_neg (by simp)] at eu
  by_cases h64:(z74 symB s i).length≤64
  · rw [if_neg (by omega)] at eu
    have hg:=fun H'=>hgo _ _ _ _ _ H' eu
    have ho:=fun H'=>hover _ _ _ _ _ H' eu
    repeat' first
     | apply z01
     | exact z13
     | exact z19 rfl
     | (apply z17;rfl;rfl)
     | (apply z30;(iterate 3 rfl))
     | (apply z42;rfl)
     | (apply z94;rfl;rfl)
     | (apply z18;rfl;(with_reducible rfl);rfl)
     | (apply z16;rfl;(with_reducible rfl);rfl)
     | (apply z60;(iterate 3 rfl);assumption)
     | (apply z23;rfl;rfl)
     | (apply z07;rfl;rfl)
     | (apply z27;rfl;rfl)
     | (apply z29;(iterate 4 rfl);exact z32 (by first | exact rfl | assumption | exact z25 (by assumption)))
     | (apply z08;rfl;rfl;(assumption);rfl)
     | (apply z05 (hc:=h24);rfl;rfl;rfl)
     | (apply z05 (hc:=h25);rfl;rfl;rfl)
     | (apply z05 (hc:=h27);rfl;rfl;rfl)
     | (apply z05 (hc:=h30);rfl;rfl;rfl)
     | (apply z24 (hc:=⟨hrun.run⟩);rfl;rfl;(exact rfl);rfl;(exact z13);rintro H1 ⟨r1,k1⟩)
     | (apply z24 (hc:=⟨(zr1 r1 h64).run⟩);rfl;rfl;(exact rfl);rfl;(exact z13);rintro H1 ⟨r1,k1⟩)
     | (apply z05 (hc:=h33);rfl;rfl;rfl)
     | (apply z24 (hc:=⟨(adv (n:=(z74 symB s i).length) hxj r1 hjt hl50).run⟩);rfl;rfl;(exact rfl);rfl;(exact z19 rfl);rintro H1 ⟨r1,k1⟩)
     | (apply z04;focus (repeat (first | exact z28 | (apply kq_c;rfl) | (apply zc6;rfl;rfl) | (apply z49;rfl) | (apply z43;rfl))))
     | apply z02
     | apply z00
     | apply z03
     | apply z09
     | apply z12
     | apply z22
     | apply z45
     | (apply z39;rfl;(with_reducible rfl))
     | (apply z35;rfl;(with_reducible rfl))
     | (apply z14;rfl)
     | (apply z50;rfl;(with_reducible rfl))
     | (apply z41;rfl;(with_reducible rfl))
     | (apply z40;rfl)
     | (apply z56;(exact rfl))
     | with_reducible exact zb1
     | with_reducible apply zb0
     | with_reducible apply z64
     | with_reducible apply z63
     | (with_reducible apply za2;intro hc)
     | (with_reducible apply z73;intro hc)
     | (apply z44;rfl)
     | (apply z47;rfl)
     | (apply dand;rfl)
    try any_goals (exfalso;omega)
    all_goals exact hT▸jo1 (t:=⟨nmOp (z74 symB s i),[],z74 symB s i,0,false,0,0⟩) hlen (fun h fr hk=>hg _ h r1 fr hk) (fun h fr h1 h2=>ho _ h fr h1 h2)
  · rw [if_pos (by omega)] at eu
    repeat' first
     | apply z01
     | exact z13
     | exact z19 rfl
     | (apply z17;rfl;rfl)
     | (apply z30;(iterate 3 rfl))
     | (apply z94;rfl;rfl)
     | (apply z18;rfl;(with_reducible rfl);rfl)
     | (apply z16;rfl;(with_reducible rfl);rfl)
     | (apply z60;(iterate 3 rfl);assumption)
     | (apply z58;rfl;rfl)
     | (apply z23;rfl;rfl)
     | (apply z07;rfl;rfl)
     | (apply z27;rfl;rfl)
     | (apply z29;(iterate 4 rfl);exact z32 (by first | exact rfl | assumption | exact z25 (by assumption)))
     | (apply z08;rfl;rfl;(assumption);rfl)
     | (apply z05 (hc:=h24);rfl;rfl;rfl)
     | (apply z05 (hc:=h25);rfl;rfl;rfl)
     | (apply z05 (hc:=h27);rfl;rfl;rfl)
     | (apply z05 (hc:=h30);rfl;rfl;rfl)
     | (apply z24 (hc:=⟨hrun.run⟩);rfl;rfl;(exact rfl);rfl;(exact z13);rintro H1 ⟨r1,k1⟩)
     | (apply z24 (hc:=⟨(zz9 r1 h64 hst).run⟩);rfl;rfl;(exact rfl);rfl;(exact z13);rintro H1 ⟨r1,k1⟩)
     | (apply z04;focus (repeat (first | exact z28 | (apply kq_c;rfl) | (apply zc6;rfl;rfl) | (apply z49;rfl) | (apply z43;rfl))))
     | apply z02
     | apply z00
     | apply z03
     | apply z09
     | apply z12
     | apply z15
     | apply z22
     | apply z45
     | (apply z39;rfl;(with_reducible rfl))
     | (apply z35;rfl;(with_reducible rfl))
     | (apply z14;rfl)
     | (apply z50;rfl;(with_reducible rfl))
     | (apply z41;rfl;(with_reducible rfl))
     | (apply z40;rfl)
     | (apply z56;(exact rfl))
     | with_reducible exact zf2
     | with_reducible apply zf5
     | with_reducible apply z64
     | with_reducible apply z63
     | (with_reducible apply za2;intro hc)
     | (with_reducible apply z73;intro hc)
     | (apply z44;rfl)
     | (apply z47;rfl)
     | (apply ze5;rfl)
     | (apply dand;rfl)
    try any_goals (exfalso;omega)
    all_goals exact hbad _ _ _ _ eu _ rfl (congrArg (fun u=>WV.lbox (some 4) (.c u)) (qh0 (j55 s i 3 _ (by decide))))
end Go.Proofs.TryzL
namespace Go.Proofs.TryzL
open Go.Proofs.Lz
set_option maxHeartbeats 4000000
theorem w76 {H:z06} {s:List UInt8} {id i:Nat} {c:UInt8} {t6:CV} {N:Post} {B:Hs} {R:RP} (hH:ScH id (scAt s i) H) (hc:s[i]?=some c) (hl:s.length<2^30) (hlen:([]:List Tok).length≤16384)
 (hgo:∀ op q t n e H',z62 s i c=.tok op q t n e→([]:List Tok).length+1≤16384→ScH id (scAt s e) H'→∀ fr,KpL [0,3,4,5,6] fr [0,3,4,5,6] (lexK s id (([]:List Tok)++[⟨op,q,t,n,false,(plc s i).1,(plc s i).2⟩]) (tokC ⟨op,q,t,n,false,(plc s i).1,(plc s i).2⟩))→R.go 0 fr H')
 (hover:∀ op q t n e H',z62 s i c=.tok op q t n e→16384≤([]:List Tok).length→∀ fr:WFr,fr.env 2=.nils→fr.env 3=.lbox (some 4) (.c (fltC 3 [] (plc s i).1 (plc s i).2))→R.ret fr H')
 (hbad:∀ code p nm H',z62 s i c=.bad code p nm→∀ fr:WFr,fr.env 2=.nils→fr.env 3=.lbox (some 4) (.c (fltC code nm (plc s p).1 (plc s p).2))→R.ret fr H')
 (hcl:¬ (upperB c||lowerB c)=true) (hd:¬ z84 c=true) (hq:¬ (c=39∨c=34)) (hs:¬ symB c=true) (hp:spS.contains c=true) :
   WP Vv zh0 (FL (lexK s id ([]:List Tok) t6) []) H N B R:=by
  have hH0:H[id]?=some (.var (some 8) (scC (scAt s i))):=hH
  have h0:s[(scAt s i).pos]?=some c:=hc
  have hlt:i<s.length:=(List.getElem?_eq_some_iff.1 hc).1
  have h24:=zd1 c
  have h25:=zh9 c
  have h27:=zf6 c
  unfold zh0 lexP3 lexP4 lexP5 lexK
  generalize hT:lexT=T
  have hup:upperB c=false:=Bool.eq_false_iff.2 (fun h=>hcl (by rw [h];rfl))
  have hlo:lowerB c=false:=Bool.eq_false_iff.2 (fun h=>hcl (by rw [h];exact Bool.or_true _))
  rw [hup] at h24
  rw [hlo] at h25
  rw [Bool.eq_false_iff.2 hd] at h27
  have hxj:scAt (scAt s i).src (scAt s i).pos=scAt s i:=rfl
  have hj1:(scAt s i).pos+1≤(scAt s i).src.length:=by show i+1≤s.length;omega
  have hjp:(scAt s i).pos≤(scAt s i).src.length:=by show i≤s.length;omega
  have hl50:(scAt s i).src.length<2^50:=by show s.length<_;omega
  have hl60:(scAt s i).src.length<2^60:=by show s.length<_;omega
  have hq1:¬ (c.toNat:Int)=39:=fun h=>hq (.inl (Classical.byContradiction fun e=>zy0 e h))
  have hq2:¬ (c.toNat:Int)=34:=fun h=>hq (.inr (Classical.byContradiction fun e=>zy0 e h))
  have h30:=zj0 c
  rw [Bool.eq_false_iff.2 hs] at h30
  have h35:=zx8 spS c
  have hge:0≤Lib.indexByte spS c:=of_decide_eq_true (by rw [q25];exact hp)
  have eu:z62 s i c=.tok 8 [] [c] 0 (i+1):=by unfold z62;rw [if_neg hcl,if_neg hd,if_neg hq,if_neg hs,if_pos hp]
  have hg:=fun H'=>hgo _ _ _ _ _ H' eu
  have ho:=fun H'=>hover _ _ _ _ _ H' eu
  repeat' first
   | apply z01
   | exact z13
   | exact z19 rfl
   | (apply z17;rfl;rfl)
   | (apply za3;rfl;rfl;omega)
   | (apply zo9;(iterate 3 rfl);assumption)
   | (apply z30;(iterate 3 rfl))
   | (apply z94;rfl;rfl)
   | (apply z18;rfl;(with_reducible rfl);rfl)
   | (apply z16;rfl;(with_reducible rfl);rfl)
   | (apply z60;(iterate 3 rfl);assumption)
   | (apply z66;(iterate 3 rfl))
   | (apply z23;rfl;rfl)
   | (apply z07;rfl;rfl)
   | (apply z27;rfl;rfl)
   | (apply z29;(iterate 4 rfl);exact z32 (by first | exact rfl | assumption | exact z25 (by assumption)))
   | (apply z08;rfl;rfl;(assumption);rfl)
   | (apply z05 (hc:=h24);rfl;rfl;rfl)
   | (apply z05 (hc:=h25);rfl;rfl;rfl)
   | (apply z05 (hc:=h27);rfl;rfl;rfl)
   | (apply z05 (hc:=h30);rfl;rfl;rfl)
   | (apply z05 (hc:=h35);rfl;rfl;rfl)
   | (apply z24 (hc:=⟨(adv (n:=1) hxj hH hj1 hl50).run⟩);rfl;rfl;(exact rfl);rfl;(exact z19 rfl);rintro H1 ⟨r1,k1⟩)
   | (apply z04;focus (repeat (first | exact z28 | (apply kq_c;rfl) | (apply za8;rfl) | (apply z49;rfl) | (apply z43;rfl))))
   | apply z02
   | apply z00
   | apply z03
   | apply z09
   | apply z12
   | apply z22
   | apply z45
   | (apply z39;rfl;(with_reducible rfl))
   | (apply z35;rfl;(with_reducible rfl))
   | (apply z14;rfl)
   | (apply z50;rfl;(with_reducible rfl))
   | (apply z41;rfl;(with_reducible rfl))
   | (apply z40;rfl)
   | (apply z56;(exact rfl))
   | with_reducible exact zb1
   | with_reducible apply zb0
   | with_reducible apply z64
   | with_reducible apply z63
   | (with_reducible apply za2;intro hc)
   | (with_reducible apply z73;intro hc)
   | (with_reducible apply z78;intro hc)
   | (with_reducible apply z57;intro hc)
   | (apply z44;rfl)
   | (apply z47;rfl)
   | (apply ze5;rfl)
   | (apply zf8)
   | (apply dand;rfl)
  try any_goals (exfalso;omega)
  all_goals exact hT▸jo2 (t:=⟨8,[],[c],0,false,0,0⟩) hlen (fun h fr hk=>hg _ h r1 fr hk) (fun h fr h1 h2=>ho _ h fr h1 h2)
theorem jz0 {H:z06} {s:List UInt8} {id i:Nat} {c:UInt8} {a:Tok} {r:List Tok} {t6:CV} {N:Post} {B:Hs} {R:RP} (hH:ScH id (scAt s i) H) (hc:s[i]?=some c) (hl:s.length<2^30) (hlen:(a::r).length≤16384)
 (hgo:∀ op q t n e H',z62 s i c=.tok op q t n e→(a::r).length+1≤16384→ScH id (scAt s e) H'→∀ fr,KpL [0,3,4,5,6] fr [0,3,4,5,6] (lexK s id ((a::r)++[⟨op,q,t,n,false,(plc s i).1,(plc s i).2⟩]) (tokC ⟨op,q,t,n,false,(plc s i).1,(plc s i).2⟩))→R.go 0 fr H')
 (hover:∀ op q t n e H',z62 s i c=.tok op q t n e→16384≤(a::r).length→∀ fr:WFr,fr.env 2=.nils→fr.env 3=.lbox (some 4) (.c (fltC 3 [] (plc s i).1 (plc s i).2))→R.ret fr H')
 (hbad:∀ code p nm H',z62 s i c=.bad code p nm→∀ fr:WFr,fr.env 2=.nils→fr.env 3=.lbox (some 4) (.c (fltC code nm (plc s p).1 (plc s p).2))→R.ret fr H')
 (hcl:¬ (upperB c||lowerB c)=true) (hd:¬ z84 c=true) (hq:¬ (c=39∨c=34)) (hs:¬ symB c=true) (hp:spS.contains c=true) :
   WP Vv zh0 (FL (lexK s id (a::r) t6) []) H N B R:=by
  have hH0:H[id]?=some (.var (some 8) (scC (scAt s i))):=hH
  have h0:s[(scAt s i).pos]?=some c:=hc
  have hlt:i<s.length:=(List.getElem?_eq_some_iff.1 hc).1
  have h24:=zd1 c
  have h25:=zh9 c
  have h27:=zf6 c
  unfold zh0 lexP3 lexP4 lexP5 lexK
  generalize hT:lexT=T
  have hup:upperB c=false:=Bool.eq_false_iff.2 (fun h=>hcl (by rw [h];rfl))
  have hlo:lowerB c=false:=Bool.eq_false_iff.2 (fun h=>hcl (by rw [h];exact Bool.or_true _))
  rw [hup] at h24
  rw [hlo] at h25
  rw [Bool.eq_false_iff.2 hd] at h27
  have hxj:scAt (scAt s i).src (scAt s i).pos=scAt s i:=rfl
  have hj1:(scAt s i).pos+1≤(scAt s i).src.length:=by show i+1≤s.length;omega
  have hjp:(scAt s i).pos≤(scAt s i).src.length:=by show i≤s.length;omega
  have hl50:(scAt s i).src.length<2^50:=by show s.length<_;omega
  have hl60:(scAt s i).src.length<2^60:=by show s.length<_;omega
  have hq1:¬ (c.toNat:Int)=39:=fun h=>hq (.inl (Classical.byContradiction fun e=>zy0 e h))
  have hq2:¬ (c.toNat:Int)=34:=fun h=>hq (.inr (Classical.byContradiction fun e=>zy0 e h))
  have h30:=zj0 c
  rw [Bool.eq_false_iff.2 hs] at h30
  have h35:=zx8 spS c
  have hge:0≤Lib.indexByte spS c:=of_decide_eq_true (by rw [q25];exact hp)
  have eu:z62 s i c=.tok 8 [] [c] 0 (i+1):=by unfold z62;rw [if_neg hcl,if_neg hd,if_neg hq,if_neg hs,if_pos hp]
  have hg:=fun H'=>hgo _ _ _ _ _ H' eu
  have ho:=fun H'=>hover _ _ _ _ _ H' eu
  repeat' first
   | apply z01
   | exact z13
   | exact z19 rfl
   | (apply z17;rfl;rfl)
   | (apply za3;rfl;rfl;omega)
   | (apply zo9;(iterate 3 rfl);assumption)
   | (apply z30;(iterate 3 rfl))
   | (apply z94;rfl;rfl)
   | (apply z18;rfl;(with_reducible rfl);rfl)
   | (apply z16;rfl;(with_reducible rfl);rfl)
   | (apply z60;(iterate 3 rfl);assumption)
   | (apply z66;(iterate 3 rfl))
   | (apply z23;rfl;rfl)
   | (apply z07;rfl;rfl)
   | (apply z27;rfl;rfl)
   | (apply z29;(iterate 4 rfl);exact z32 (by first | exact rfl | assumption | exact z25 (by assumption)))
   | (apply z08;rfl;rfl;(assumption);rfl)
   | (apply z05 (hc:=h24);rfl;rfl;rfl)
   | (apply z05 (hc:=h25);rfl;rfl;rfl)
   | (apply z05 (hc:=h27);rfl;rfl;rfl)
   | (apply z05 (hc:=h30);rfl;rfl;rfl)
   | (apply z05 (hc:=h35);rfl;rfl;rfl)
   | (apply z24 (hc:=⟨(adv (n:=1) hxj hH hj1 hl50).run⟩);rfl;rfl;(exact rfl);rfl;(exact z19 rfl);rintro H1 ⟨r1,k1⟩)
   | (apply z04;focus (repeat (first | exact z28 | (apply kq_c;rfl) | (apply zc6;rfl;rfl) | (apply z49;rfl) | (apply z43;rfl))))
   | apply z02
   | apply z00
   | apply z03
   | apply z09
   | apply z12
   | apply z22
   | apply z45
   | (apply z39;rfl;(with_reducible rfl))
   | (apply z35;rfl;(with_reducible rfl))
   | (apply z14;rfl)
   | (apply z50;rfl;(with_reducible rfl))
   | (apply z41;rfl;(with_reducible rfl))
   | (apply z40;rfl)
   | (apply z56;(exact rfl))
   | with_reducible exact zb1
   | with_reducible apply zb0
   | with_reducible apply z64
   | with_reducible apply z63
   | (with_reducible apply za2;intro hc)
   | (with_reducible apply z73;intro hc)
   | (with_reducible apply z78;intro hc)
   | (with_reducible apply z57;intro hc)
   | (apply z44;rfl)
   | (apply z47;rfl)
   | (apply ze5;rfl)
   | (apply zf8)
   | (apply dand;rfl)
  try any_goals (exfalso;omega)
  all_goals exact hT▸jo1 (t:=⟨8,[],[c],0,false,0,0⟩) hlen (fun h fr hk=>hg _ h r1 fr hk) (fun h fr h1 h2=>ho _ h fr h1 h2)
end Go.Proofs.TryzL
namespace Go.Proofs.TryzL
open Go.Proofs.Lz
set_option maxHeartbeats 4000000
theorem w78 {H:z06} {s:List UInt8} {id i:Nat} {c:UInt8} {t6:CV} {N:Post} {B:Hs} {R:RP} (hH:ScH id (scAt s i) H) (hc:s[i]?=some c) (hl:s.length<2^30) (hlen:([]:List Tok).length≤16384)
 (hgo:∀ op q t n e H',z62 s i c=.tok op q t n e→([]:List Tok).length+1≤16384→ScH id (scAt s e) H'→∀ fr,KpL [0,3,4,5,6] fr [0,3,4,5,6] (lexK s id (([]:List Tok)++[⟨op,q,t,n,false,(plc s i).1,(plc s i).2⟩]) (tokC ⟨op,q,t,n,false,(plc s i).1,(plc s i).2⟩))→R.go 0 fr H')
 (hover:∀ op q t n e H',z62 s i c=.tok op q t n e→16384≤([]:List Tok).length→∀ fr:WFr,fr.env 2=.nils→fr.env 3=.lbox (some 4) (.c (fltC 3 [] (plc s i).1 (plc s i).2))→R.ret fr H')
 (hbad:∀ code p nm H',z62 s i c=.bad code p nm→∀ fr:WFr,fr.env 2=.nils→fr.env 3=.lbox (some 4) (.c (fltC code nm (plc s p).1 (plc s p).2))→R.ret fr H')
 (hcl:¬ (upperB c||lowerB c)=true) (hd:¬ z84 c=true) (hq:¬ (c=39∨c=34)) (hs:¬ symB c=true) (hp:¬ spS.contains c=true) :
   WP Vv zh0 (FL (lexK s id ([]:List Tok) t6) []) H N B R:=by
  have hH0:H[id]?=some (.var (some 8) (scC (scAt s i))):=hH
  have h0:s[(scAt s i).pos]?=some c:=hc
  have hlt:i<s.length:=(List.getElem?_eq_some_iff.1 hc).1
  have h24:=zd1 c
  have h25:=zh9 c
  have h27:=zf6 c
  unfold zh0 lexP3 lexP4 lexP5 lexK
  generalize hT:lexT=T
  have hup:upperB c=false:=Bool.eq_false_iff.2 (fun h=>hcl (by rw [h];rfl))
  have hlo:lowerB c=false:=Bool.eq_false_iff.2 (fun h=>hcl (by rw [h];exact Bool.or_true _))
  rw [hup] at h24
  rw [hlo] at h25
  rw [Bool.eq_false_iff.2 hd] at h27
  have hxj:scAt (scAt s i).src (scAt s i).pos=scAt s i:=rfl
  have hj1:(scAt s i).pos+1≤(scAt s i).src.length:=by show i+1≤s.length;omega
  have hjp:(scAt s i).pos≤(scAt s i).src.length:=by show i≤s.length;omega
  have hl50:(scAt s i).src.length<2^50:=by show s.length<_;omega
  have hl60:(scAt s i).src.length<2^60:=by show s.length<_;omega
  have hq1:¬ (c.toNat:Int)=39:=fun h=>hq (.inl (Classical.byContradiction fun e=>zy0 e h))
  have hq2:¬ (c.toNat:Int)=34:=fun h=>hq (.inr (Classical.byContradiction fun e=>zy0 e h))
  have h30:=zj0 c
  rw [Bool.eq_false_iff.2 hs] at h30
  have h35:=zx8 spS c
  have hge:¬ 0≤Lib.indexByte spS c:=fun h=>hp (by rw [← q25];exact decide_eq_true h)
  have eu:z62 s i c=.bad 5 i []:=by unfold z62;rw [if_neg hcl,if_neg hd,if_neg hq,if_neg hs,if_neg hp]
  obtain ⟨H',a1,⟨y,hy,hf⟩,hk⟩:=(qg3 hxj hH 5 (by decide)).run
  have hcall:Shr Vv 36 [.ptr id 0,.c (.int .i64 (5:Nat)),.c (.str [])] H (.c (.bool false)) (fun H'=>ScH id y H'∧KpH id H H'):=⟨H',a1,hy,hk⟩
  repeat' first
   | apply z01
   | exact z13
   | exact z19 rfl
   | (apply z17;rfl;rfl)
   | (apply za3;rfl;rfl;omega)
   | (apply zo9;(iterate 3 rfl);assumption)
   | (apply z30;(iterate 3 rfl))
   | (apply z94;rfl;rfl)
   | (apply z18;rfl;(with_reducible rfl);rfl)
   | (apply z16;rfl;(with_reducible rfl);rfl)
   | (apply z60;(iterate 3 rfl);assumption)
   | (apply z66;(iterate 3 rfl))
   | (apply z58;rfl;rfl)
   | (apply z23;rfl;rfl)
   | (apply z07;rfl;rfl)
   | (apply z27;rfl;rfl)
   | (apply z29;(iterate 4 rfl);exact z32 (by first | exact rfl | assumption | exact z25 (by assumption)))
   | (apply z08;rfl;rfl;(assumption);rfl)
   | (apply z05 (hc:=h24);rfl;rfl;rfl)
   | (apply z05 (hc:=h25);rfl;rfl;rfl)
   | (apply z05 (hc:=h27);rfl;rfl;rfl)
   | (apply z05 (hc:=h30);rfl;rfl;rfl)
   | (apply z05 (hc:=h35);rfl;rfl;rfl)
   | (apply z24 (hc:=⟨hcall.run⟩);rfl;rfl;(exact rfl);rfl;(exact z13);rintro H1 ⟨r1,k1⟩)
   | (apply z04;focus (repeat (first | exact z28 | (apply kq_c;rfl) | (apply za8;rfl) | (apply z49;rfl) | (apply z43;rfl))))
   | apply z02
   | apply z00
   | apply z03
   | apply z09
   | apply z15
   | apply z22
   | apply z45
   | (apply z39;rfl;(with_reducible rfl))
   | (apply z35;rfl;(with_reducible rfl))
   | (apply z14;rfl)
   | (apply z50;rfl;(with_reducible rfl))
   | (apply z41;rfl;(with_reducible rfl))
   | (apply z40;rfl)
   | (apply z56;(exact rfl))
   | with_reducible exact zf2
   | with_reducible apply zf5
   | with_reducible apply z64
   | with_reducible apply z63
   | (with_reducible apply za2;intro hc)
   | (with_reducible apply z73;intro hc)
   | (with_reducible apply z78;intro hc)
   | (with_reducible apply z57;intro hc)
   | (apply z44;rfl)
   | (apply z47;rfl)
   | (apply ze5;rfl)
   | (apply zf8)
   | (apply dand;rfl)
  try any_goals (exfalso;omega)
  all_goals exact hbad _ _ _ _ eu _ rfl (congrArg (fun u=>WV.lbox (some 4) (.c u)) (qh0 hf))
theorem w43 {H:z06} {s:List UInt8} {id i:Nat} {c:UInt8} {a:Tok} {r:List Tok} {t6:CV} {N:Post} {B:Hs} {R:RP} (hH:ScH id (scAt s i) H) (hc:s[i]?=some c) (hl:s.length<2^30) (hlen:(a::r).length≤16384)
 (hgo:∀ op q t n e H',z62 s i c=.tok op q t n e→(a::r).length+1≤16384→ScH id (scAt s e) H'→∀ fr,KpL [0,3,4,5,6] fr [0,3,4,5,6] (lexK s id ((a::r)++[⟨op,q,t,n,false,(plc s i).1,(plc s i).2⟩]) (tokC ⟨op,q,t,n,false,(plc s i).1,(plc s i).2⟩))→R.go 0 fr H')
 (hover:∀ op q t n e H',z62 s i c=.tok op q t n e→16384≤(a::r).length→∀ fr:WFr,fr.env 2=.nils→fr.env 3=.lbox (some 4) (.c (fltC 3 [] (plc s i).1 (plc s i).2))→R.ret fr H')
 (hbad:∀ code p nm H',z62 s i c=.bad code p nm→∀ fr:WFr,fr.env 2=.nils→fr.env 3=.lbox (some 4) (.c (fltC code nm (plc s p).1 (plc s p).2))→R.ret fr H')
 (hcl:¬ (upperB c||lowerB c)=true) (hd:¬ z84 c=true) (hq:¬ (c=39∨c=34)) (hs:¬ symB c=true) (hp:¬ spS.contains c=true) :
   WP Vv zh0 (FL (lexK s id (a::r) t6) []) H N B R:=by
  have hH0:H[id]?=some (.var (some 8) (scC (scAt s i))):=hH
  have h0:s[(scAt s i).pos]?=some c:=hc
  have hlt:i<s.length:=(List.getElem?_eq_some_iff.1 hc).1
  have h24:=zd1 c
  have h25:=zh9 c
  have h27:=zf6 c
  unfold zh0 lexP3 lexP4 lexP5 lexK
  generalize hT:lexT=T
  have hup:upperB c=false:=Bool.eq_false_iff.2 (fun h=>hcl (by rw [h];rfl))
  have hlo:lowerB c=false:=Bool.eq_false_iff.2 (fun h=>hcl (by rw [h];exact Bool.or_true _))
  rw [hup] at h24
  rw [hlo] at h25
  rw [Bool.eq_false_iff.2 hd] at h27
  have hxj:scAt (scAt s i).src (scAt s i).pos=scAt s i:=rfl
  have hj1:(scAt s i).pos+1≤(scAt s i).src.length:=by show i+1≤s.length;omega
  have hjp:(scAt s i).pos≤(scAt s i).src.length:=by show i≤s.length;omega
  have hl50:(scAt s i).src.length<2^50:=by show s.length<_;omega
  have hl60:(scAt s i).src.length<2^60:=by show s.length<_;omega
  have hq1:¬ (c.toNat:Int)=39:=fun h=>hq (.inl (Classical.byContradiction fun e=>zy0 e h))
  have hq2:¬ (c.toNat:Int)=34:=fun h=>hq (.inr (Classical.byContradiction fun e=>zy0 e h))
  have h30:=zj0 c
  rw [Bool.eq_false_iff.2 hs] at h30
  have h35:=zx8 spS c
  have hge:¬ 0≤Lib.indexByte spS c:=fun h=>hp (by rw [← q25];exact decide_eq_true h)
  have eu:z62 s i c=.bad 5 i []:=by unfold z62;rw [if_neg hcl,if_neg hd,if_neg hq,if_neg hs,if_neg hp]
  obtain ⟨H',a1,⟨y,hy,hf⟩,hk⟩:=(qg3 hxj hH 5 (by decide)).run
  have hcall:Shr Vv 36 [.ptr id 0,.c (.int .i64 (5:Nat)),.c (.str [])] H (.c (.bool false)) (fun H'=>ScH id y H'∧KpH id H H'):=⟨H',a1,hy,hk⟩
  repeat' first
   | apply z01
   | exact z13
   | exact z19 rfl
   | (apply z17;rfl;rfl)
   | (apply za3;rfl;rfl;omega)
   | (apply zo9;(iterate 3 rfl);assumption)
   | (apply z30;(iterate 3 rfl))
   | (apply z94;rfl;rfl)
   | (apply z18;rfl;(with_reducible rfl);rfl)
   | (apply z16;rfl;(with_reducible rfl);rfl)
   | (apply z60;(iterate 3 rfl);assumption)
   | (apply z66;(iterate 3 rfl))
   | (apply z58;rfl;rfl)
   | (apply z23;rfl;rfl)
   | (apply z07;rfl;rfl)
   | (apply z27;rfl;rfl)
   | (apply z29;(iterate 4 rfl);exact z32 (by first | exact rfl | assumption | exact z25 (by assumption)))
   | (apply z08;rfl;rfl;(assumption);rfl)
   | (apply z05 (hc:=h24);rfl;rfl;rfl)
   | (apply z05 (hc:=h25);rfl;rfl;rfl)
   | (apply z05 (hc:=h27);rfl;rfl;rfl)
   | (apply z05 (hc:=h30);rfl;rfl;rfl)
   | (apply z05 (hc:=h35);rfl;rfl;rfl)
   | (apply z24 (hc:=⟨hcall.run⟩);rfl;rfl;(exact rfl);rfl;(exact z13);rintro H1 ⟨r1,k1⟩)
   | (apply z04;focus (repeat (first | exact z28 | (apply kq_c;rfl) | (apply zc6;rfl;rfl) | (apply z49;rfl) | (apply z43;rfl))))
   | apply z02
   | apply z00
   | apply z03
   | apply z09
   | apply z15
   | apply z22
   | apply z45
   | (apply z39;rfl;(with_reducible rfl))
   | (apply z35;rfl;(with_reducible rfl))
   | (apply z14;rfl)
   | (apply z50;rfl;(with_reducible rfl))
   | (apply z41;rfl;(with_reducible rfl))
   | (apply z40;rfl)
   | (apply z56;(exact rfl))
   | with_reducible exact zf2
   | with_reducible apply zf5
   | with_reducible apply z64
   | with_reducible apply z63
   | (with_reducible apply za2;intro hc)
   | (with_reducible apply z73;intro hc)
   | (with_reducible apply z78;intro hc)
   | (with_reducible apply z57;intro hc)
   | (apply z44;rfl)
   | (apply z47;rfl)
   | (apply ze5;rfl)
   | (apply zf8)
   | (apply dand;rfl)
  try any_goals (exfalso;omega)
  all_goals exact hbad _ _ _ _ eu _ rfl (congrArg (fun u=>WV.lbox (some 4) (.c u)) (qh0 hf))
end Go.Proofs.TryzL
