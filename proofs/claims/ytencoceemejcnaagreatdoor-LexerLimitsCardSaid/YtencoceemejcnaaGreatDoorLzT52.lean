/- Chapter 02: blanks move on. -/
import Derived.Test.YtencoceemejcnaaGreatDoorLzT45
import Derived.Test.YtencoceemejcnaaGreatDoorLzT44
import Derived.Test.YtencoceemejcnaaGreatDoorLzT47
set_option linter.unusedSimpArgs false
set_option linter.unusedVariables false
namespace Go.Proofs.TryzL
open Go.Proofs.Lz
set_option maxHeartbeats 4000000
theorem w15 {H:z07} {s:List UInt8} {id i:Nat} {c:UInt8} {t6:CV} {N:Post} {B:Hs} {R:RP} (hH:ScH id (scAt s i) H) (hc:s[i]?=some c) (hl:s.length<2^30) (hlen:([]:List Tok).length≤16384)
 (hgo:∀ op q t n e H',z71 s i c=.tok op q t n e→([]:List Tok).length+1≤16384→ScH id (scAt s e) H'→∀ fr,KpL [0,3,4,5,6] fr [0,3,4,5,6] (lexK s id (([]:List Tok)++[⟨op,q,t,n,false,(plc s i).1,(plc s i).2⟩]) (tokC ⟨op,q,t,n,false,(plc s i).1,(plc s i).2⟩))→R.go 0 fr H')
 (hover:∀ op q t n e H',z71 s i c=.tok op q t n e→16384≤([]:List Tok).length→∀ fr:WFr,fr.env 2=.nils→fr.env 3=.lbox (some 4) (.c (fltC 3 [] (plc s i).1 (plc s i).2))→R.ret fr H')
 (hbad:∀ code p nm H',z71 s i c=.bad code p nm→∀ fr:WFr,fr.env 2=.nils→fr.env 3=.lbox (some 4) (.c (fltC code nm (plc s p).1 (plc s p).2))→R.ret fr H')
 (hcl:¬ (upperB c||lowerB c)=true) (hd:¬ z94 c=true) (hq:¬ (c=39∨c=34)) (hs:¬ symB c=true) (hp:spS.contains c=true) :
   WP Vv zh0 (FL (lexK s id ([]:List Tok) t6) []) H N B R:=by
  have hH0:H[id]?=some (.var (some 8) (scC (scAt s i))):=hH
  have h0:s[(scAt s i).pos]?=some c:=hc
  have hlt:i<s.length:=(List.getElem?_eq_some_iff.1 hc).1
  have h24:=zc9 c
  have h25:=zh8 c
  have h27:=zf5 c
  unfold zh0 lexP3 lexP4 lexP5 lexK
  generalize hT:lexT=T
  have hup:upperB c=false:=Bool.eq_false_iff.2 (fun h=>hcl (by rw [h];rfl))
  have hlo:lowerB c=false:=Bool.eq_false_iff.2 (fun h=>hcl (by rw [h];exact Bool.or_true _))
  rw [hup] at h24
  rw [hlo] at h25
  rw [Bool.eq_false_iff.2 hd] at h27
  have hxj:scAt (scAt s i).src (scAt s i).pos=scAt s i:=rfl
  have hj1:(scAt s i).pos+1≤(scAt s i).src.length:=by show i+1≤s.length;omega
  have hjp:(scAt s i).pos≤(scAt s i).src.length:=by show i≤s.length;omega
  have hl50:(scAt s i).src.length<2^50:=by show s.length<_;omega
  have hl60:(scAt s i).src.length<2^60:=by show s.length<_;omega
  have hq1:¬ (c.toNat:Int)=39:=fun h=>hq (.inl (Classical.byContradiction fun e=>zx4 e h))
  have hq2:¬ (c.toNat:Int)=34:=fun h=>hq (.inr (Classical.byContradiction fun e=>zx4 e h))
  have h30:=zi5 c
  rw [Bool.eq_false_iff.2 hs] at h30
  have h35:=zw7 spS c
  have hge:0≤Lib.indexByte spS c:=of_decide_eq_true (by rw [q13];exact hp)
  have eu:z71 s i c=.tok 8 [] [c] 0 (i+1):=by unfold z71;rw [if_neg hcl,if_neg hd,if_neg hq,if_neg hs,if_pos hp]
  have hg:=fun H'=>hgo _ _ _ _ _ H' eu
  have ho:=fun H'=>hover _ _ _ _ _ H' eu
  repeat' first
   | apply z01
   | exact z13
   | exact z18 rfl
   | (apply z17;rfl;rfl)
   | (apply z96;rfl;rfl;omega)
   | (apply zw9;(iterate 3 rfl);assumption)
   | (apply z34;(iterate 3 rfl))
   | (apply z93;rfl;rfl)
   | (apply z16;rfl;(with_reducible rfl);rfl)
   | (apply z14;rfl;(with_reducible rfl);rfl)
   | (apply z62;(iterate 3 rfl);assumption)
   | (apply z61;(iterate 3 rfl))
   | (apply z22;rfl;rfl)
   | (apply z06;rfl;rfl)
   | (apply z28;rfl;rfl)
   | (apply z27;(iterate 4 rfl);exact z30 (by first | exact rfl | assumption | exact z23 (by assumption)))
   | (apply z09;rfl;rfl;(assumption);rfl)
   | (apply z05 (hc:=h24);rfl;rfl;rfl)
   | (apply z05 (hc:=h25);rfl;rfl;rfl)
   | (apply z05 (hc:=h27);rfl;rfl;rfl)
   | (apply z05 (hc:=h30);rfl;rfl;rfl)
   | (apply z05 (hc:=h35);rfl;rfl;rfl)
   | (apply z25 (hc:=⟨(adv (n:=1) hxj hH hj1 hl50).run⟩);rfl;rfl;(exact rfl);rfl;(exact z18 rfl);rintro H1 ⟨r1,k1⟩)
   | (apply z03;focus (repeat (first | exact z29 | (apply kq_c;rfl) | (apply za3;rfl) | (apply z49;rfl) | (apply z39;rfl))))
   | apply z02
   | apply z00
   | apply z04
   | apply z08
   | apply z12
   | apply z24
   | apply z48
   | (apply z41;rfl;(with_reducible rfl))
   | (apply z38;rfl;(with_reducible rfl))
   | (apply z15;rfl)
   | (apply z52;rfl;(with_reducible rfl))
   | (apply z42;rfl;(with_reducible rfl))
   | (apply z40;rfl)
   | (apply z57;(exact rfl))
   | with_reducible exact zb1
   | with_reducible apply zb2
   | with_reducible apply z65
   | with_reducible apply z64
   | (with_reducible apply za1;intro hc)
   | (with_reducible apply z69;intro hc)
   | (with_reducible apply z81;intro hc)
   | (with_reducible apply z60;intro hc)
   | (apply z45;rfl)
   | (apply z47;rfl)
   | (apply ze2;rfl)
   | (apply zg5)
   | (apply dand;rfl)
  try any_goals (exfalso;omega)
  all_goals exact hT▸jl5 (t:=⟨8,[],[c],0,false,0,0⟩) hlen (fun h fr hk=>hg _ h r1 fr hk) (fun h fr h1 h2=>ho _ h fr h1 h2)
theorem jx9 {H:z07} {s:List UInt8} {id i:Nat} {c:UInt8} {a:Tok} {r:List Tok} {t6:CV} {N:Post} {B:Hs} {R:RP} (hH:ScH id (scAt s i) H) (hc:s[i]?=some c) (hl:s.length<2^30) (hlen:(a::r).length≤16384)
 (hgo:∀ op q t n e H',z71 s i c=.tok op q t n e→(a::r).length+1≤16384→ScH id (scAt s e) H'→∀ fr,KpL [0,3,4,5,6] fr [0,3,4,5,6] (lexK s id ((a::r)++[⟨op,q,t,n,false,(plc s i).1,(plc s i).2⟩]) (tokC ⟨op,q,t,n,false,(plc s i).1,(plc s i).2⟩))→R.go 0 fr H')
 (hover:∀ op q t n e H',z71 s i c=.tok op q t n e→16384≤(a::r).length→∀ fr:WFr,fr.env 2=.nils→fr.env 3=.lbox (some 4) (.c (fltC 3 [] (plc s i).1 (plc s i).2))→R.ret fr H')
 (hbad:∀ code p nm H',z71 s i c=.bad code p nm→∀ fr:WFr,fr.env 2=.nils→fr.env 3=.lbox (some 4) (.c (fltC code nm (plc s p).1 (plc s p).2))→R.ret fr H')
 (hcl:¬ (upperB c||lowerB c)=true) (hd:¬ z94 c=true) (hq:¬ (c=39∨c=34)) (hs:¬ symB c=true) (hp:spS.contains c=true) :
   WP Vv zh0 (FL (lexK s id (a::r) t6) []) H N B R:=by
  have hH0:H[id]?=some (.var (some 8) (scC (scAt s i))):=hH
  have h0:s[(scAt s i).pos]?=some c:=hc
  have hlt:i<s.length:=(List.getElem?_eq_some_iff.1 hc).1
  have h24:=zc9 c
  have h25:=zh8 c
  have h27:=zf5 c
  unfold zh0 lexP3 lexP4 lexP5 lexK
  generalize hT:lexT=T
  have hup:upperB c=false:=Bool.eq_false_iff.2 (fun h=>hcl (by rw [h];rfl))
  have hlo:lowerB c=false:=Bool.eq_false_iff.2 (fun h=>hcl (by rw [h];exact Bool.or_true _))
  rw [hup] at h24
  rw [hlo] at h25
  rw [Bool.eq_false_iff.2 hd] at h27
  have hxj:scAt (scAt s i).src (scAt s i).pos=scAt s i:=rfl
  have hj1:(scAt s i).pos+1≤(scAt s i).src.length:=by show i+1≤s.length;omega
  have hjp:(scAt s i).pos≤(scAt s i).src.length:=by show i≤s.length;omega
  have hl50:(scAt s i).src.length<2^50:=by show s.length<_;omega
  have hl60:(scAt s i).src.length<2^60:=by show s.length<_;omega
  have hq1:¬ (c.toNat:Int)=39:=fun h=>hq (.inl (Classical.byContradiction fun e=>zx4 e h))
  have hq2:¬ (c.toNat:Int)=34:=fun h=>hq (.inr (Classical.byContradiction fun e=>zx4 e h))
  have h30:=zi5 c
  rw [Bool.eq_false_iff.2 hs] at h30
  have h35:=zw7 spS c
  have hge:0≤Lib.indexByte spS c:=of_decide_eq_true (by rw [q13];exact hp)
  have eu:z71 s i c=.tok 8 [] [c] 0 (i+1):=by unfold z71;rw [if_neg hcl,if_neg hd,if_neg hq,if_neg hs,if_pos hp]
  have hg:=fun H'=>hgo _ _ _ _ _ H' eu
  have ho:=fun H'=>hover _ _ _ _ _ H' eu
  repeat' first
   | apply z01
   | exact z13
   | exact z18 rfl
   | (apply z17;rfl;rfl)
   | (apply z96;rfl;rfl;omega)
   | (apply zw9;(iterate 3 rfl);assumption)
   | (apply z34;(iterate 3 rfl))
   | (apply z93;rfl;rfl)
   | (apply z16;rfl;(with_reducible rfl);rfl)
   | (apply z14;rfl;(with_reducible rfl);rfl)
   | (apply z62;(iterate 3 rfl);assumption)
   | (apply z61;(iterate 3 rfl))
   | (apply z22;rfl;rfl)
   | (apply z06;rfl;rfl)
   | (apply z28;rfl;rfl)
   | (apply z27;(iterate 4 rfl);exact z30 (by first | exact rfl | assumption | exact z23 (by assumption)))
   | (apply z09;rfl;rfl;(assumption);rfl)
   | (apply z05 (hc:=h24);rfl;rfl;rfl)
   | (apply z05 (hc:=h25);rfl;rfl;rfl)
   | (apply z05 (hc:=h27);rfl;rfl;rfl)
   | (apply z05 (hc:=h30);rfl;rfl;rfl)
   | (apply z05 (hc:=h35);rfl;rfl;rfl)
   | (apply z25 (hc:=⟨(adv (n:=1) hxj hH hj1 hl50).run⟩);rfl;rfl;(exact rfl);rfl;(exact z18 rfl);rintro H1 ⟨r1,k1⟩)
   | (apply z03;focus (repeat (first | exact z29 | (apply kq_c;rfl) | (apply zb8;rfl;rfl) | (apply z49;rfl) | (apply z39;rfl))))
   | apply z02
   | apply z00
   | apply z04
   | apply z08
   | apply z12
   | apply z24
   | apply z48
   | (apply z41;rfl;(with_reducible rfl))
   | (apply z38;rfl;(with_reducible rfl))
   | (apply z15;rfl)
   | (apply z52;rfl;(with_reducible rfl))
   | (apply z42;rfl;(with_reducible rfl))
   | (apply z40;rfl)
   | (apply z57;(exact rfl))
   | with_reducible exact zb1
   | with_reducible apply zb2
   | with_reducible apply z65
   | with_reducible apply z64
   | (with_reducible apply za1;intro hc)
   | (with_reducible apply z69;intro hc)
   | (with_reducible apply z81;intro hc)
   | (with_reducible apply z60;intro hc)
   | (apply z45;rfl)
   | (apply z47;rfl)
   | (apply ze2;rfl)
   | (apply zg5)
   | (apply dand;rfl)
  try any_goals (exfalso;omega)
  all_goals exact hT▸jg1 (t:=⟨8,[],[c],0,false,0,0⟩) hlen (fun h fr hk=>hg _ h r1 fr hk) (fun h fr h1 h2=>ho _ h fr h1 h2)
end Go.Proofs.TryzL
namespace Go.Proofs.TryzL
open Go.Proofs.Lz
set_option maxHeartbeats 4000000
theorem w08 {H:z07} {s:List UInt8} {id i:Nat} {c:UInt8} {t6:CV} {N:Post} {B:Hs} {R:RP} (hH:ScH id (scAt s i) H) (hc:s[i]?=some c) (hl:s.length<2^30) (hlen:([]:List Tok).length≤16384)
 (hgo:∀ op q t n e H',z71 s i c=.tok op q t n e→([]:List Tok).length+1≤16384→ScH id (scAt s e) H'→∀ fr,KpL [0,3,4,5,6] fr [0,3,4,5,6] (lexK s id (([]:List Tok)++[⟨op,q,t,n,false,(plc s i).1,(plc s i).2⟩]) (tokC ⟨op,q,t,n,false,(plc s i).1,(plc s i).2⟩))→R.go 0 fr H')
 (hover:∀ op q t n e H',z71 s i c=.tok op q t n e→16384≤([]:List Tok).length→∀ fr:WFr,fr.env 2=.nils→fr.env 3=.lbox (some 4) (.c (fltC 3 [] (plc s i).1 (plc s i).2))→R.ret fr H')
 (hbad:∀ code p nm H',z71 s i c=.bad code p nm→∀ fr:WFr,fr.env 2=.nils→fr.env 3=.lbox (some 4) (.c (fltC code nm (plc s p).1 (plc s p).2))→R.ret fr H')
 (hcl:¬ (upperB c||lowerB c)=true) (hd:¬ z94 c=true) (hq:¬ (c=39∨c=34)) (hs:¬ symB c=true) (hp:¬ spS.contains c=true) :
   WP Vv zh0 (FL (lexK s id ([]:List Tok) t6) []) H N B R:=by
  have hH0:H[id]?=some (.var (some 8) (scC (scAt s i))):=hH
  have h0:s[(scAt s i).pos]?=some c:=hc
  have hlt:i<s.length:=(List.getElem?_eq_some_iff.1 hc).1
  have h24:=zc9 c
  have h25:=zh8 c
  have h27:=zf5 c
  unfold zh0 lexP3 lexP4 lexP5 lexK
  generalize hT:lexT=T
  have hup:upperB c=false:=Bool.eq_false_iff.2 (fun h=>hcl (by rw [h];rfl))
  have hlo:lowerB c=false:=Bool.eq_false_iff.2 (fun h=>hcl (by rw [h];exact Bool.or_true _))
  rw [hup] at h24
  rw [hlo] at h25
  rw [Bool.eq_false_iff.2 hd] at h27
  have hxj:scAt (scAt s i).src (scAt s i).pos=scAt s i:=rfl
  have hj1:(scAt s i).pos+1≤(scAt s i).src.length:=by show i+1≤s.length;omega
  have hjp:(scAt s i).pos≤(scAt s i).src.length:=by show i≤s.length;omega
  have hl50:(scAt s i).src.length<2^50:=by show s.length<_;omega
  have hl60:(scAt s i).src.length<2^60:=by show s.length<_;omega
  have hq1:¬ (c.toNat:Int)=39:=fun h=>hq (.inl (Classical.byContradiction fun e=>zx4 e h))
  have hq2:¬ (c.toNat:Int)=34:=fun h=>hq (.inr (Classical.byContradiction fun e=>zx4 e h))
  have h30:=zi5 c
  rw [Bool.eq_false_iff.2 hs] at h30
  have h35:=zw7 spS c
  have hge:¬ 0≤Lib.indexByte spS c:=fun h=>hp (by rw [← q13];exact decide_eq_true h)
  have eu:z71 s i c=.bad 5 i []:=by unfold z71;rw [if_neg hcl,if_neg hd,if_neg hq,if_neg hs,if_neg hp]
  obtain ⟨H',a1,⟨y,hy,hf⟩,hk⟩:=(qf6 hxj hH 5 (by decide)).run
  have hcall:Shr Vv 36 [.ptr id 0,.c (.int .i64 (5:Nat)),.c (.str [])] H (.c (.bool false)) (fun H'=>ScH id y H'∧KpH id H H'):=⟨H',a1,hy,hk⟩
  repeat' first
   | apply z01
   | exact z13
   | exact z18 rfl
   | (apply z17;rfl;rfl)
   | (apply z96;rfl;rfl;omega)
   | (apply zw9;(iterate 3 rfl);assumption)
   | (apply z34;(iterate 3 rfl))
   | (apply z93;rfl;rfl)
   | (apply z16;rfl;(with_reducible rfl);rfl)
   | (apply z14;rfl;(with_reducible rfl);rfl)
   | (apply z62;(iterate 3 rfl);assumption)
   | (apply z61;(iterate 3 rfl))
   | (apply z56;rfl;rfl)
   | (apply z22;rfl;rfl)
   | (apply z06;rfl;rfl)
   | (apply z28;rfl;rfl)
   | (apply z27;(iterate 4 rfl);exact z30 (by first | exact rfl | assumption | exact z23 (by assumption)))
   | (apply z09;rfl;rfl;(assumption);rfl)
   | (apply z05 (hc:=h24);rfl;rfl;rfl)
   | (apply z05 (hc:=h25);rfl;rfl;rfl)
   | (apply z05 (hc:=h27);rfl;rfl;rfl)
   | (apply z05 (hc:=h30);rfl;rfl;rfl)
   | (apply z05 (hc:=h35);rfl;rfl;rfl)
   | (apply z25 (hc:=⟨hcall.run⟩);rfl;rfl;(exact rfl);rfl;(exact z13);rintro H1 ⟨r1,k1⟩)
   | (apply z03;focus (repeat (first | exact z29 | (apply kq_c;rfl) | (apply za3;rfl) | (apply z49;rfl) | (apply z39;rfl))))
   | apply z02
   | apply z00
   | apply z04
   | apply z08
   | apply z19
   | apply z24
   | apply z48
   | (apply z41;rfl;(with_reducible rfl))
   | (apply z38;rfl;(with_reducible rfl))
   | (apply z15;rfl)
   | (apply z52;rfl;(with_reducible rfl))
   | (apply z42;rfl;(with_reducible rfl))
   | (apply z40;rfl)
   | (apply z57;(exact rfl))
   | with_reducible exact zf3
   | with_reducible apply zf1
   | with_reducible apply z65
   | with_reducible apply z64
   | (with_reducible apply za1;intro hc)
   | (with_reducible apply z69;intro hc)
   | (with_reducible apply z81;intro hc)
   | (with_reducible apply z60;intro hc)
   | (apply z45;rfl)
   | (apply z47;rfl)
   | (apply ze2;rfl)
   | (apply zg5)
   | (apply dand;rfl)
  try any_goals (exfalso;omega)
  all_goals exact hbad _ _ _ _ eu _ rfl (congrArg (fun u=>WV.lbox (some 4) (.c u)) (qf8 hf))
theorem jx5 {H:z07} {s:List UInt8} {id i:Nat} {c:UInt8} {a:Tok} {r:List Tok} {t6:CV} {N:Post} {B:Hs} {R:RP} (hH:ScH id (scAt s i) H) (hc:s[i]?=some c) (hl:s.length<2^30) (hlen:(a::r).length≤16384)
 (hgo:∀ op q t n e H',z71 s i c=.tok op q t n e→(a::r).length+1≤16384→ScH id (scAt s e) H'→∀ fr,KpL [0,3,4,5,6] fr [0,3,4,5,6] (lexK s id ((a::r)++[⟨op,q,t,n,false,(plc s i).1,(plc s i).2⟩]) (tokC ⟨op,q,t,n,false,(plc s i).1,(plc s i).2⟩))→R.go 0 fr H')
 (hover:∀ op q t n e H',z71 s i c=.tok op q t n e→16384≤(a::r).length→∀ fr:WFr,fr.env 2=.nils→fr.env 3=.lbox (some 4) (.c (fltC 3 [] (plc s i).1 (plc s i).2))→R.ret fr H')
 (hbad:∀ code p nm H',z71 s i c=.bad code p nm→∀ fr:WFr,fr.env 2=.nils→fr.env 3=.lbox (some 4) (.c (fltC code nm (plc s p).1 (plc s p).2))→R.ret fr H')
 (hcl:¬ (upperB c||lowerB c)=true) (hd:¬ z94 c=true) (hq:¬ (c=39∨c=34)) (hs:¬ symB c=true) (hp:¬ spS.contains c=true) :
   WP Vv zh0 (FL (lexK s id (a::r) t6) []) H N B R:=by
  have hH0:H[id]?=some (.var (some 8) (scC (scAt s i))):=hH
  have h0:s[(scAt s i).pos]?=some c:=hc
  have hlt:i<s.length:=(List.getElem?_eq_some_iff.1 hc).1
  have h24:=zc9 c
  have h25:=zh8 c
  have h27:=zf5 c
  unfold zh0 lexP3 lexP4 lexP5 lexK
  generalize hT:lexT=T
  have hup:upperB c=false:=Bool.eq_false_iff.2 (fun h=>hcl (by rw [h];rfl))
  have hlo:lowerB c=false:=Bool.eq_false_iff.2 (fun h=>hcl (by rw [h];exact Bool.or_true _))
  rw [hup] at h24
  rw [hlo] at h25
  rw [Bool.eq_false_iff.2 hd] at h27
  have hxj:scAt (scAt s i).src (scAt s i).pos=scAt s i:=rfl
  have hj1:(scAt s i).pos+1≤(scAt s i).src.length:=by show i+1≤s.length;omega
  have hjp:(scAt s i).pos≤(scAt s i).src.length:=by show i≤s.length;omega
  have hl50:(scAt s i).src.length<2^50:=by show s.length<_;omega
  have hl60:(scAt s i).src.length<2^60:=by show s.length<_;omega
  have hq1:¬ (c.toNat:Int)=39:=fun h=>hq (.inl (Classical.byContradiction fun e=>zx4 e h))
  have hq2:¬ (c.toNat:Int)=34:=fun h=>hq (.inr (Classical.byContradiction fun e=>zx4 e h))
  have h30:=zi5 c
  rw [Bool.eq_false_iff.2 hs] at h30
  have h35:=zw7 spS c
  have hge:¬ 0≤Lib.indexByte spS c:=fun h=>hp (by rw [← q13];exact decide_eq_true h)
  have eu:z71 s i c=.bad 5 i []:=by unfold z71;rw [if_neg hcl,if_neg hd,if_neg hq,if_neg hs,if_neg hp]
  obtain ⟨H',a1,⟨y,hy,hf⟩,hk⟩:=(qf6 hxj hH 5 (by decide)).run
  have hcall:Shr Vv 36 [.ptr id 0,.c (.int .i64 (5:Nat)),.c (.str [])] H (.c (.bool false)) (fun H'=>ScH id y H'∧KpH id H H'):=⟨H',a1,hy,hk⟩
  repeat' first
   | apply z01
   | exact z13
   | exact z18 rfl
   | (apply z17;rfl;rfl)
   | (apply z96;rfl;rfl;omega)
   | (apply zw9;(iterate 3 rfl);assumption)
   | (apply z34;(iterate 3 rfl))
   | (apply z93;rfl;rfl)
   | (apply z16;rfl;(with_reducible rfl);rfl)
   | (apply z14;rfl;(with_reducible rfl);rfl)
   | (apply z62;(iterate 3 rfl);assumption)
   | (apply z61;(iterate 3 rfl))
   | (apply z56;rfl;rfl)
   | (apply z22;rfl;rfl)
   | (apply z06;rfl;rfl)
   | (apply z28;rfl;rfl)
   | (apply z27;(iterate 4 rfl);exact z30 (by first | exact rfl | assumption | exact z23 (by assumption)))
   | (apply z09;rfl;rfl;(assumption);rfl)
   | (apply z05 (hc:=h24);rfl;rfl;rfl)
   | (apply z05 (hc:=h25);rfl;rfl;rfl)
   | (apply z05 (hc:=h27);rfl;rfl;rfl)
   | (apply z05 (hc:=h30);rfl;rfl;rfl)
   | (apply z05 (hc:=h35);rfl;rfl;rfl)
   | (apply z25 (hc:=⟨hcall.run⟩);rfl;rfl;(exact rfl);rfl;(exact z13);rintro H1 ⟨r1,k1⟩)
   | (apply z03;focus (repeat (first | exact z29 | (apply kq_c;rfl) | (apply zb8;rfl;rfl) | (apply z49;rfl) | (apply z39;rfl))))
   | apply z02
   | apply z00
   | apply z04
   | apply z08
   | apply z19
   | apply z24
   | apply z48
   | (apply z41;rfl;(with_reducible rfl))
   | (apply z38;rfl;(with_reducible rfl))
   | (apply z15;rfl)
   | (apply z52;rfl;(with_reducible rfl))
   | (apply z42;rfl;(with_reducible rfl))
   | (apply z40;rfl)
   | (apply z57;(exact rfl))
   | with_reducible exact zf3
   | with_reducible apply zf1
   | with_reducible apply z65
   | with_reducible apply z64
   | (with_reducible apply za1;intro hc)
   | (with_reducible apply z69;intro hc)
   | (with_reducible apply z81;intro hc)
   | (with_reducible apply z60;intro hc)
   | (apply z45;rfl)
   | (apply z47;rfl)
   | (apply ze2;rfl)
   | (apply zg5)
   | (apply dand;rfl)
  try any_goals (exfalso;omega)
  all_goals exact hbad _ _ _ _ eu _ rfl (congrArg (fun u=>WV.lbox (some 4) (.c u)) (qf8 hf))
end Go.Proofs.TryzL
namespace Go.Proofs.TryzL
open Go.Proofs.Lz
set_option maxHeartbeats 4000000
def lexQ (T:ICode):ICode:=lexP1.seq (lexP2.seq T)
theorem js0 (s:List UInt8):∀ n j code p,s.length - j≤n→lineS s j=.bad code p→code≠0:=by
 intro n
 induction n with
 | zero=>intro j code p hn h;rw [lineS,dif_pos (by omega)] at h;cases h
 | succ n ih=>
   intro j code p hn h
   rw [lineS] at h
   split at h
   · cases h
   · split at h
     · cases h
     · split at h
       · injection h with h _;omega
       · exact ih _ _ _ (by omega) h
theorem w05 (s:List UInt8) (i:Nat):∀ n d j code p,s.length - j≤n→cmtS s i d j=.bad code p→code≠0:=by
 intro n
 induction n with
 | zero=>intro d j code p hn h;rw [cmtS,dif_pos (by omega)] at h;injection h with h _;omega
 | succ n ih=>
   intro d j code p hn h
   rw [cmtS] at h
   split at h
   · injection h with h _;omega
   · split at h
     · exact ih _ _ _ _ (by omega) h
     · split at h
       · split at h
         · cases h
         · exact ih _ _ _ _ (by omega) h
       · split at h
         · injection h with h _;omega
         · exact ih _ _ _ _ (by omega) h
theorem qq0 {r:KR} (h:∀ code p,r=.bad code p→code≠0) {code p:Nat} {nm:List UInt8} (e:cmtU r=.bad code p nm):code≠0:=by
 cases r with
 | bad c q=>injection e with e _;subst e;exact h _ _ rfl
 | ok e'=>cases e
theorem qh7 {s:List UInt8} {i:Nat} {c:UInt8} {code p:Nat} {nm:List UInt8} (h:zf8 s i c=some (.bad code p nm)):code≠0:=by
 unfold zf8 at h
 split at h
 · cases h
 · split at h
   · injection h with h;exact qq0 (fun _ _ e=>js0 s _ _ _ _ (Nat.le_refl _) e) h
   · split at h
     · injection h with h;exact qq0 (fun _ _ e=>w05 s i _ _ _ _ _ (Nat.le_refl _) e) h
     · cases h
theorem w39 {s nm:List UInt8} {code p:Nat} {y:Sc} (h:zc8 s code p nm y):CV.agg [.int .i64 y.code,.str y.name,.int .i64 y.fl,.int .i64 y.fc]=fltC code nm (plc s p).1 (plc s p).2:=by
 obtain ⟨h1,h2,h3,h4⟩:=h
 unfold fltC
 rw [h1,h2,h3,h4]
theorem wh5 {H:z07} {s:List UInt8} {id i:Nat} {c:UInt8} {t6:CV} {T:ICode} {N:Post} {B:Hs} {R:RP} (hH:ScH id (scAt s i) H) (hc:s[i]?=some c) (hl:s.length<2^30)
 (hskip:∀ e H',zf8 s i c=some (.skip e)→ScH id (scAt s e) H'→∀ fr,KpL [0,3,4,5,6] fr [0,3,4,5,6] (lexK s id ([]:List Tok) t6)→R.go 0 fr H')
 (hbad:∀ code p nm H',zf8 s i c=some (.bad code p nm)→∀ fr:WFr,fr.env 2=.nils→fr.env 3=.lbox (some 4) (.c (fltC code nm (plc s p).1 (plc s p).2))→R.ret fr H')
 (hno:∀ H',zf8 s i c=none→ScH id (scAt s i) H'→WP Vv T (FL (lexK s id ([]:List Tok) t6) []) H' N B R) :
 WP Vv (lexQ T) (FL (lexK s id ([]:List Tok) t6) []) H N B R:=by
 have hcall:=jl6 hH hc hl
 unfold lexQ lexP1 lexP2 lexK
 cases hu:zf8 s i c with
 | none=>
   rw [hu] at hcall
   have hcall:Shr Vv 23 [.ptr id 0] H (.c (.bool false)) (fun H'=>ScH id (scAt s i) H'∧KpH id H H'):=hcall
   repeat' first
    | apply z01
    | exact z13
    | exact z18 rfl
    | (apply z34;(iterate 3 rfl))
    | (apply z56;rfl;rfl)
    | (apply z22;rfl;rfl)
    | (apply z06;rfl;rfl)
    | (apply z28;rfl;rfl)
    | (apply z27;(iterate 4 rfl);exact z30 (by first | exact rfl | assumption | exact z23 (by assumption)))
    | (apply z09;rfl;rfl;(assumption);rfl)
    | (apply z25 (hc:=⟨hcall.run⟩);rfl;rfl;(exact rfl);rfl;(exact z13);rintro H1 ⟨r1,k1⟩)
    | (apply z03;focus (repeat (first | exact z29 | (apply kq_c;rfl) | (apply za3;rfl) | (apply z49;rfl) | (apply z39;rfl))))
    | apply z02
    | apply z00
    | apply z04
    | apply z12
    | apply z19
    | apply z24
    | apply z48
    | (apply z38;rfl;(with_reducible rfl))
    | (apply z15;rfl)
    | (apply z57;(exact rfl))
    | (with_reducible apply zn8;intro hc)
    | (with_reducible apply zi4;intro hc)
    | (apply z45;rfl)
    | (apply z47;rfl)
    | (apply ze2;rfl)
    | (apply dand;rfl)
   try any_goals (exfalso;exact hc rfl)
   all_goals exact hno _ hu r1
 | some u=>
   rw [hu] at hcall
   cases u with
   | tok op q t n e=>obtain ⟨H',_,⟨y,_,h⟩,_⟩:=hcall.run;exact h.elim
   | skip e=>
     obtain ⟨H',a1,⟨y,hy,hf⟩,hk⟩:=hcall.run
     have hf:y=scAt s e:=hf
     subst hf
     have hcall:Shr Vv 23 [.ptr id 0] H (.c (.bool true)) (fun H'=>ScH id (scAt s e) H'∧KpH id H H'):=⟨H',a1,hy,hk⟩
     repeat' first
      | apply z01
      | exact z18 rfl
      | (apply z22;rfl;rfl)
      | (apply z25 (hc:=⟨hcall.run⟩);rfl;rfl;(exact rfl);rfl;(exact z13);rintro H1 ⟨r1,k1⟩)
      | (apply z03;focus (repeat (first | exact z29 | (apply kq_c;rfl) | (apply za3;rfl) | (apply z49;rfl) | (apply z39;rfl))))
      | apply z02
      | apply z00
      | apply z04
      | (apply z41;rfl;(with_reducible rfl))
     refine q07 (hskip e _ hu r1 _ ?_)
     unfold lexK
     repeat' first
      | exact z29
      | refine z66 rfl ?_
   | bad code p nm=>
     obtain ⟨H',a1,⟨y,hy,hf⟩,hk⟩:=hcall.run
     have hf:zc8 s code p nm y:=hf
     have hcall:Shr Vv 23 [.ptr id 0] H (.c (.bool false)) (fun H'=>ScH id y H'∧KpH id H H'):=⟨H',a1,hy,hk⟩
     have hcd:¬ ((y.code:Nat):Int)=0:=by have h1:=qh7 hu;have h2:y.code=code:=hf.1;omega
     repeat' first
      | apply z01
      | exact z13
      | exact z18 rfl
      | (apply z34;(iterate 3 rfl))
      | (apply z56;rfl;rfl)
      | (apply z22;rfl;rfl)
      | (apply z06;rfl;rfl)
      | (apply z28;rfl;rfl)
      | (apply z27;(iterate 4 rfl);exact z30 (by first | exact rfl | assumption | exact z23 (by assumption)))
      | (apply z09;rfl;rfl;(assumption);rfl)
      | (apply z25 (hc:=⟨hcall.run⟩);rfl;rfl;(exact rfl);rfl;(exact z13);rintro H1 ⟨r1,k1⟩)
      | (apply z03;focus (repeat (first | exact z29 | (apply kq_c;rfl) | (apply za3;rfl) | (apply z49;rfl) | (apply z39;rfl))))
      | apply z02
      | apply z00
      | apply z04
      | apply z12
      | apply z19
      | apply z24
      | apply z48
      | (apply z38;rfl;(with_reducible rfl))
      | (apply z15;rfl)
      | (apply z57;(exact rfl))
      | (with_reducible apply zn8;intro hc)
      | (with_reducible apply zi4;intro hc)
      | (apply z45;rfl)
      | (apply z47;rfl)
      | (apply ze2;rfl)
      | (apply dand;rfl)
     try any_goals (exfalso;contradiction)
     all_goals exact hbad _ _ _ _ hu _ rfl (congrArg (fun u=>WV.lbox (some 4) (.c u)) (w39 hf))
theorem wl3 {H:z07} {s:List UInt8} {id i:Nat} {c:UInt8} {a:Tok} {r:List Tok} {t6:CV} {T:ICode} {N:Post} {B:Hs} {R:RP} (hH:ScH id (scAt s i) H) (hc:s[i]?=some c) (hl:s.length<2^30)
 (hskip:∀ e H',zf8 s i c=some (.skip e)→ScH id (scAt s e) H'→∀ fr,KpL [0,3,4,5,6] fr [0,3,4,5,6] (lexK s id (a::r) t6)→R.go 0 fr H')
 (hbad:∀ code p nm H',zf8 s i c=some (.bad code p nm)→∀ fr:WFr,fr.env 2=.nils→fr.env 3=.lbox (some 4) (.c (fltC code nm (plc s p).1 (plc s p).2))→R.ret fr H')
 (hno:∀ H',zf8 s i c=none→ScH id (scAt s i) H'→WP Vv T (FL (lexK s id (a::r) t6) []) H' N B R) :
 WP Vv (lexQ T) (FL (lexK s id (a::r) t6) []) H N B R:=by
 have hcall:=jl6 hH hc hl
 unfold lexQ lexP1 lexP2 lexK
 cases hu:zf8 s i c with
 | none=>
   rw [hu] at hcall
   have hcall:Shr Vv 23 [.ptr id 0] H (.c (.bool false)) (fun H'=>ScH id (scAt s i) H'∧KpH id H H'):=hcall
   repeat' first
    | apply z01
    | exact z13
    | exact z18 rfl
    | (apply z34;(iterate 3 rfl))
    | (apply z56;rfl;rfl)
    | (apply z22;rfl;rfl)
    | (apply z06;rfl;rfl)
    | (apply z28;rfl;rfl)
    | (apply z27;(iterate 4 rfl);exact z30 (by first | exact rfl | assumption | exact z23 (by assumption)))
    | (apply z09;rfl;rfl;(assumption);rfl)
    | (apply z25 (hc:=⟨hcall.run⟩);rfl;rfl;(exact rfl);rfl;(exact z13);rintro H1 ⟨r1,k1⟩)
    | (apply z03;focus (repeat (first | exact z29 | (apply kq_c;rfl) | (apply zb8;rfl;rfl) | (apply z49;rfl) | (apply z39;rfl))))
    | apply z02
    | apply z00
    | apply z04
    | apply z12
    | apply z19
    | apply z24
    | apply z48
    | (apply z38;rfl;(with_reducible rfl))
    | (apply z15;rfl)
    | (apply z57;(exact rfl))
    | (with_reducible apply zn8;intro hc)
    | (with_reducible apply zi4;intro hc)
    | (apply z45;rfl)
    | (apply z47;rfl)
    | (apply ze2;rfl)
    | (apply dand;rfl)
   try any_goals (exfalso;exact hc rfl)
   all_goals exact hno _ hu r1
 | some u=>
   rw [hu] at hcall
   cases u with
   | tok op q t n e=>obtain ⟨H',_,⟨y,_,h⟩,_⟩:=hcall.run;exact h.elim
   | skip e=>
     obtain ⟨H',a1,⟨y,hy,hf⟩,hk⟩:=hcall.run
     have hf:y=scAt s e:=hf
     subst hf
     have hcall:Shr Vv 23 [.ptr id 0] H (.c (.bool true)) (fun H'=>ScH id (scAt s e) H'∧KpH id H H'):=⟨H',a1,hy,hk⟩
     repeat' first
      | apply z01
      | exact z18 rfl
      | (apply z22;rfl;rfl)
      | (apply z25 (hc:=⟨hcall.run⟩);rfl;rfl;(exact rfl);rfl;(exact z13);rintro H1 ⟨r1,k1⟩)
      | (apply z03;focus (repeat (first | exact z29 | (apply kq_c;rfl) | (apply zb8;rfl;rfl) | (apply z49;rfl) | (apply z39;rfl))))
      | apply z02
      | apply z00
      | apply z04
      | (apply z41;rfl;(with_reducible rfl))
     refine q07 (hskip e _ hu r1 _ ?_)
     unfold lexK
     repeat' first
      | exact z29
      | refine z66 rfl ?_
   | bad code p nm=>
     obtain ⟨H',a1,⟨y,hy,hf⟩,hk⟩:=hcall.run
     have hf:zc8 s code p nm y:=hf
     have hcall:Shr Vv 23 [.ptr id 0] H (.c (.bool false)) (fun H'=>ScH id y H'∧KpH id H H'):=⟨H',a1,hy,hk⟩
     have hcd:¬ ((y.code:Nat):Int)=0:=by have h1:=qh7 hu;have h2:y.code=code:=hf.1;omega
     repeat' first
      | apply z01
      | exact z13
      | exact z18 rfl
      | (apply z34;(iterate 3 rfl))
      | (apply z56;rfl;rfl)
      | (apply z22;rfl;rfl)
      | (apply z06;rfl;rfl)
      | (apply z28;rfl;rfl)
      | (apply z27;(iterate 4 rfl);exact z30 (by first | exact rfl | assumption | exact z23 (by assumption)))
      | (apply z09;rfl;rfl;(assumption);rfl)
      | (apply z25 (hc:=⟨hcall.run⟩);rfl;rfl;(exact rfl);rfl;(exact z13);rintro H1 ⟨r1,k1⟩)
      | (apply z03;focus (repeat (first | exact z29 | (apply kq_c;rfl) | (apply zb8;rfl;rfl) | (apply z49;rfl) | (apply z39;rfl))))
      | apply z02
      | apply z00
      | apply z04
      | apply z12
      | apply z19
      | apply z24
      | apply z48
      | (apply z38;rfl;(with_reducible rfl))
      | (apply z15;rfl)
      | (apply z57;(exact rfl))
      | (with_reducible apply zn8;intro hc)
      | (with_reducible apply zi4;intro hc)
      | (apply z45;rfl)
      | (apply z47;rfl)
      | (apply ze2;rfl)
      | (apply dand;rfl)
     try any_goals (exfalso;contradiction)
     all_goals exact hbad _ _ _ _ hu _ rfl (congrArg (fun u=>WV.lbox (some 4) (.c u)) (w39 hf))
end Go.Proofs.TryzL
namespace Go.Proofs.TryzL
open Go.Proofs.Lz
inductive LR where
 | bad (code:Nat) (nm:List UInt8) (line col:Nat)
 | ok (l:List Tok)
def lexU (s:List UInt8) (i:Nat) (acc:List Tok):LR:=
 if hi:i<s.length then
  match zf8 s i s[i] with
  | some (.skip e)=>if h:i<e then lexU s e acc else .ok []
  | some (.bad code p nm)=>.bad code nm (plc s p).1 (plc s p).2
  | some (.tok _ _ _ _ _)=>.ok []
  | none=>match z71 s i s[i] with
    | .bad code p nm=>.bad code nm (plc s p).1 (plc s p).2
    | .skip _=>.ok []
    | .tok op q t n e=>if 16384≤acc.length then .bad 3 [] (plc s i).1 (plc s i).2 else if h:i<e then lexU s e (acc++[⟨op,q,t,n,false,(plc s i).1,(plc s i).2⟩]) else .ok []
 else .ok acc
termination_by s.length - i
end Go.Proofs.TryzL
namespace Go.Proofs.TryzL
open Go.Proofs.Lz
theorem w95 (s:List UInt8):∀ n j e,s.length - j≤n→j≤s.length→lineS s j=.ok e→j≤e∧e≤s.length:=by
 intro n
 induction n with
 | zero=>intro j e hn hj h;rw [lineS,dif_pos (by omega)] at h;injection h with h;omega
 | succ n ih=>
   intro j e hn hj h
   rw [lineS] at h
   split at h
   · injection h with h;omega
   · split at h
     · injection h with h;omega
     · split at h
       · cases h
       · have:=ih _ _ (by omega) (by omega) h;omega
theorem wj8 (s:List UInt8) (i:Nat):∀ n d j e,s.length - j≤n→cmtS s i d j=.ok e→j<e∧e≤s.length:=by
 intro n
 induction n with
 | zero=>intro d j e hn h;rw [cmtS,dif_pos (by omega)] at h;cases h
 | succ n ih=>
   intro d j e hn h
   rw [cmtS] at h
   split at h
   · cases h
   · split at h
     · have:=ih _ _ _ (by omega) h;omega
     · split at h
       · rename_i hp
         have:=qz6 hp
         split at h
         · injection h with h;omega
         · have:=ih _ _ _ (by omega) h;omega
       · split at h
         · cases h
         · have:=ih _ _ _ (by omega) h;omega
theorem q93 {s:List UInt8} {i e:Nat} {c:UInt8} (hc:s[i]?=some c) (h:zf8 s i c=some (.skip e)):i<e∧e≤s.length:=by
 have hlt:i<s.length:=(List.getElem?_eq_some_iff.1 hc).1
 have hg:s.getD i 0=c:=by simp [List.getD,hc]
 unfold zf8 at h
 split at h
 · injection h with h;injection h with h;omega
 · rename_i hb
   split at h
   · rename_i h45
     injection h with h
     cases hr:lineS s i with
     | bad a b=>rw [hr] at h;cases h
     | ok e'=>
       rw [hr] at h
       injection h with h
       subst h
       rw [lineS,dif_neg (by omega),hg,if_neg (by rw [h45.1];decide),if_neg (by rw [h45.1];decide)] at hr
       have:=w95 s _ _ _ (Nat.le_refl _) (by omega) hr
       omega
   · split at h
     · injection h with h
       cases hr:cmtS s i 0 i with
       | bad a b=>rw [hr] at h;cases h
       | ok e'=>
         rw [hr] at h
         injection h with h
         subst h
         exact wj8 s i _ _ _ _ (Nat.le_refl _) hr
     · cases h
end Go.Proofs.TryzL
