/- Chapter 02: a turn of Lex, whole. -/
import Derived.Test.YtencoceemejcnaaGreatDoorLzT45
import Derived.Test.YtencoceemejcnaaGreatDoorLzT48
set_option linter.unusedSimpArgs false
set_option linter.unusedVariables false
namespace Go.Proofs.TryzL
open Go.Proofs.Lz
set_option maxHeartbeats 4000000
theorem w70 {H:z18} {s:List UInt8} {id i:Nat} {c:UInt8} {t6:CV} {N:Post} {B:Hs} {R:RP} (hH:ScH id (scAt s i) H) (hc:s[i]?=some c) (hl:s.length<2^30) (hlen:([]:List Tok).length≤16384)
 (hgo:∀ op q t n e H',z74 s i c=.tok op q t n e→([]:List Tok).length+1≤16384→ScH id (scAt s e) H'→∀ fr,KpL [0,3,4,5,6] fr [0,3,4,5,6] (lexK s id (([]:List Tok)++[⟨op,q,t,n,false,(plc s i).1,(plc s i).2⟩]) (tokC ⟨op,q,t,n,false,(plc s i).1,(plc s i).2⟩))→R.go 0 fr H')
 (hover:∀ op q t n e H',z74 s i c=.tok op q t n e→16384≤([]:List Tok).length→∀ fr:WFr,fr.env 2=.nils→fr.env 3=.lbox (some 4) (.c (fltC 3 [] (plc s i).1 (plc s i).2))→R.ret fr H')
 (hbad:∀ code p nm H',z74 s i c=.bad code p nm→∀ fr:WFr,fr.env 2=.nils→fr.env 3=.lbox (some 4) (.c (fltC code nm (plc s p).1 (plc s p).2))→R.ret fr H')
 (hcl:¬ (upperB c||lowerB c)=true) (hd:¬ z93 c=true) (hq:¬ (c=39∨c=34)) (hs:¬ symB c=true) (hp:¬ spS.contains c=true) :
   WP Vv zi9 (FL (lexK s id ([]:List Tok) t6) []) H N B R:=by
  have hH0:H[id]?=some (.var (some 8) (scC (scAt s i))):=hH
  have h0:s[(scAt s i).pos]?=some c:=hc
  have hlt:i<s.length:=(List.getElem?_eq_some_iff.1 hc).1
  have h24:=zf0 c
  have h25:=zj1 c
  have h27:=zh5 c
  unfold zi9 lexP3 lexP4 lexP5 lexK
  generalize hT:lexT=T
  have hup:upperB c=false:=Bool.eq_false_iff.2 (fun h=>hcl (by rw [h];rfl))
  have hlo:lowerB c=false:=Bool.eq_false_iff.2 (fun h=>hcl (by rw [h];exact Bool.or_true _))
  rw [hup] at h24
  rw [hlo] at h25
  rw [Bool.eq_false_iff.2 hd] at h27
  have hxj:scAt (scAt s i).src (scAt s i).pos=scAt s i:=rfl
  have hj1:(scAt s i).pos+1≤(scAt s i).src.length:=by show i+1≤s.length;omega
  have hjp:(scAt s i).pos≤(scAt s i).src.length:=by show i≤s.length;omega
  have hl50:(scAt s i).src.length<2^50:=by show s.length<_;omega
  have hl60:(scAt s i).src.length<2^60:=by show s.length<_;omega
  have hq1:¬ (c.toNat:Int)=39:=fun h=>hq (.inl (Classical.byContradiction fun e=>zz8 e h))
  have hq2:¬ (c.toNat:Int)=34:=fun h=>hq (.inr (Classical.byContradiction fun e=>zz8 e h))
  have h30:=zl0 c
  rw [Bool.eq_false_iff.2 hs] at h30
  have h35:=zy2 spS c
  have hge:¬ 0≤Lib.indexByte spS c:=fun h=>hp (by rw [← q07];exact decide_eq_true h)
  have eu:z74 s i c=.bad 5 i []:=by unfold z74;rw [if_neg hcl,if_neg hd,if_neg hq,if_neg hs,if_neg hp]
  obtain ⟨H',a1,⟨y,hy,hf⟩,hk⟩:=(qi6 hxj hH 5 (by decide)).run
  have hcall:Shr Vv 36 [.ptr id 0,.c (.int .i64 (5:Nat)),.c (.str [])] H (.c (.bool false)) (fun H'=>ScH id y H'∧KpH id H H'):=⟨H',a1,hy,hk⟩
  repeat' first
   | apply z01
   | exact z13
   | exact z19 rfl
   | (apply z15;rfl;rfl)
   | (apply z99;rfl;rfl;omega)
   | (apply zx6;(iterate 3 rfl);assumption)
   | (apply z30;(iterate 3 rfl))
   | (apply z84;rfl;rfl)
   | (apply z17;rfl;(with_reducible rfl);rfl)
   | (apply z16;rfl;(with_reducible rfl);rfl)
   | (apply z68;(iterate 3 rfl);assumption)
   | (apply z78;(iterate 3 rfl))
   | (apply z66;rfl;rfl)
   | (apply z24;rfl;rfl)
   | (apply z14;rfl;rfl)
   | (apply z29;rfl;rfl)
   | (apply z28;(iterate 4 rfl);exact z34 (by first | exact rfl | assumption | exact z06 (by assumption)))
   | (apply z22;rfl;rfl;(assumption);rfl)
   | (apply z08 (hc:=h24);rfl;rfl;rfl)
   | (apply z08 (hc:=h25);rfl;rfl;rfl)
   | (apply z08 (hc:=h27);rfl;rfl;rfl)
   | (apply z08 (hc:=h30);rfl;rfl;rfl)
   | (apply z08 (hc:=h35);rfl;rfl;rfl)
   | (apply z27 (hc:=⟨hcall.run⟩);rfl;rfl;(exact rfl);rfl;(exact z13);rintro H1 ⟨r1,k1⟩)
   | (apply z04;focus (repeat (first | exact z23 | (apply kq_c;rfl) | (apply zc5;rfl) | (apply z50;rfl) | (apply z38;rfl))))
   | apply z02
   | apply z00
   | apply z03
   | apply z05
   | apply z09
   | apply z25
   | apply z54
   | (apply z35;rfl;(with_reducible rfl))
   | (apply z32;rfl;(with_reducible rfl))
   | (apply z12;rfl)
   | (apply z47;rfl;(with_reducible rfl))
   | (apply z41;rfl;(with_reducible rfl))
   | (apply z39;rfl)
   | (apply z62;(exact rfl))
   | with_reducible exact ze7
   | with_reducible apply ze2
   | with_reducible apply z57
   | with_reducible apply z58
   | (with_reducible apply za1;intro hc)
   | (with_reducible apply z71;intro hc)
   | (with_reducible apply z69;intro hc)
   | (with_reducible apply z52;intro hc)
   | (apply z48;rfl)
   | (apply z55;rfl)
   | (apply zd7;rfl)
   | (apply zi6)
   | (apply dand;rfl)
  try any_goals (exfalso;omega)
  all_goals exact hbad _ _ _ _ eu _ rfl (congrArg (fun u=>WV.lbox (some 4) (.c u)) (qj1 hf))
theorem w77 {H:z18} {s:List UInt8} {id i:Nat} {c:UInt8} {a:Tok} {r:List Tok} {t6:CV} {N:Post} {B:Hs} {R:RP} (hH:ScH id (scAt s i) H) (hc:s[i]?=some c) (hl:s.length<2^30) (hlen:(a::r).length≤16384)
 (hgo:∀ op q t n e H',z74 s i c=.tok op q t n e→(a::r).length+1≤16384→ScH id (scAt s e) H'→∀ fr,KpL [0,3,4,5,6] fr [0,3,4,5,6] (lexK s id ((a::r)++[⟨op,q,t,n,false,(plc s i).1,(plc s i).2⟩]) (tokC ⟨op,q,t,n,false,(plc s i).1,(plc s i).2⟩))→R.go 0 fr H')
 (hover:∀ op q t n e H',z74 s i c=.tok op q t n e→16384≤(a::r).length→∀ fr:WFr,fr.env 2=.nils→fr.env 3=.lbox (some 4) (.c (fltC 3 [] (plc s i).1 (plc s i).2))→R.ret fr H')
 (hbad:∀ code p nm H',z74 s i c=.bad code p nm→∀ fr:WFr,fr.env 2=.nils→fr.env 3=.lbox (some 4) (.c (fltC code nm (plc s p).1 (plc s p).2))→R.ret fr H')
 (hcl:¬ (upperB c||lowerB c)=true) (hd:¬ z93 c=true) (hq:¬ (c=39∨c=34)) (hs:¬ symB c=true) (hp:¬ spS.contains c=true) :
   WP Vv zi9 (FL (lexK s id (a::r) t6) []) H N B R:=by
  have hH0:H[id]?=some (.var (some 8) (scC (scAt s i))):=hH
  have h0:s[(scAt s i).pos]?=some c:=hc
  have hlt:i<s.length:=(List.getElem?_eq_some_iff.1 hc).1
  have h24:=zf0 c
  have h25:=zj1 c
  have h27:=zh5 c
  unfold zi9 lexP3 lexP4 lexP5 lexK
  generalize hT:lexT=T
  have hup:upperB c=false:=Bool.eq_false_iff.2 (fun h=>hcl (by rw [h];rfl))
  have hlo:lowerB c=false:=Bool.eq_false_iff.2 (fun h=>hcl (by rw [h];exact Bool.or_true _))
  rw [hup] at h24
  rw [hlo] at h25
  rw [Bool.eq_false_iff.2 hd] at h27
  have hxj:scAt (scAt s i).src (scAt s i).pos=scAt s i:=rfl
  have hj1:(scAt s i).pos+1≤(scAt s i).src.length:=by show i+1≤s.length;omega
  have hjp:(scAt s i).pos≤(scAt s i).src.length:=by show i≤s.length;omega
  have hl50:(scAt s i).src.length<2^50:=by show s.length<_;omega
  have hl60:(scAt s i).src.length<2^60:=by show s.length<_;omega
  have hq1:¬ (c.toNat:Int)=39:=fun h=>hq (.inl (Classical.byContradiction fun e=>zz8 e h))
  have hq2:¬ (c.toNat:Int)=34:=fun h=>hq (.inr (Classical.byContradiction fun e=>zz8 e h))
  have h30:=zl0 c
  rw [Bool.eq_false_iff.2 hs] at h30
  have h35:=zy2 spS c
  have hge:¬ 0≤Lib.indexByte spS c:=fun h=>hp (by rw [← q07];exact decide_eq_true h)
  have eu:z74 s i c=.bad 5 i []:=by unfold z74;rw [if_neg hcl,if_neg hd,if_neg hq,if_neg hs,if_neg hp]
  obtain ⟨H',a1,⟨y,hy,hf⟩,hk⟩:=(qi6 hxj hH 5 (by decide)).run
  have hcall:Shr Vv 36 [.ptr id 0,.c (.int .i64 (5:Nat)),.c (.str [])] H (.c (.bool false)) (fun H'=>ScH id y H'∧KpH id H H'):=⟨H',a1,hy,hk⟩
  repeat' first
   | apply z01
   | exact z13
   | exact z19 rfl
   | (apply z15;rfl;rfl)
   | (apply z99;rfl;rfl;omega)
   | (apply zx6;(iterate 3 rfl);assumption)
   | (apply z30;(iterate 3 rfl))
   | (apply z84;rfl;rfl)
   | (apply z17;rfl;(with_reducible rfl);rfl)
   | (apply z16;rfl;(with_reducible rfl);rfl)
   | (apply z68;(iterate 3 rfl);assumption)
   | (apply z78;(iterate 3 rfl))
   | (apply z66;rfl;rfl)
   | (apply z24;rfl;rfl)
   | (apply z14;rfl;rfl)
   | (apply z29;rfl;rfl)
   | (apply z28;(iterate 4 rfl);exact z34 (by first | exact rfl | assumption | exact z06 (by assumption)))
   | (apply z22;rfl;rfl;(assumption);rfl)
   | (apply z08 (hc:=h24);rfl;rfl;rfl)
   | (apply z08 (hc:=h25);rfl;rfl;rfl)
   | (apply z08 (hc:=h27);rfl;rfl;rfl)
   | (apply z08 (hc:=h30);rfl;rfl;rfl)
   | (apply z08 (hc:=h35);rfl;rfl;rfl)
   | (apply z27 (hc:=⟨hcall.run⟩);rfl;rfl;(exact rfl);rfl;(exact z13);rintro H1 ⟨r1,k1⟩)
   | (apply z04;focus (repeat (first | exact z23 | (apply kq_c;rfl) | (apply ze1;rfl;rfl) | (apply z50;rfl) | (apply z38;rfl))))
   | apply z02
   | apply z00
   | apply z03
   | apply z05
   | apply z09
   | apply z25
   | apply z54
   | (apply z35;rfl;(with_reducible rfl))
   | (apply z32;rfl;(with_reducible rfl))
   | (apply z12;rfl)
   | (apply z47;rfl;(with_reducible rfl))
   | (apply z41;rfl;(with_reducible rfl))
   | (apply z39;rfl)
   | (apply z62;(exact rfl))
   | with_reducible exact ze7
   | with_reducible apply ze2
   | with_reducible apply z57
   | with_reducible apply z58
   | (with_reducible apply za1;intro hc)
   | (with_reducible apply z71;intro hc)
   | (with_reducible apply z69;intro hc)
   | (with_reducible apply z52;intro hc)
   | (apply z48;rfl)
   | (apply z55;rfl)
   | (apply zd7;rfl)
   | (apply zi6)
   | (apply dand;rfl)
  try any_goals (exfalso;omega)
  all_goals exact hbad _ _ _ _ eu _ rfl (congrArg (fun u=>WV.lbox (some 4) (.c u)) (qj1 hf))
end Go.Proofs.TryzL
namespace Go.Proofs.TryzL
open Go.Proofs.Lz
set_option maxHeartbeats 4000000
def lexQ (T:ICode):ICode:=lexP1.seq (lexP2.seq T)
theorem jy1 (s:List UInt8):∀ n j code p,s.length - j≤n→lineS s j=.bad code p→code≠0:=by
 intro n
 induction n with
 | zero=>intro j code p hn h;rw [lineS,dif_pos (by omega)] at h;cases h
 | succ n ih=>
   intro j code p hn h
   rw [lineS] at h
   split at h
   · cases h
   · split at h
     · cases h
     · split at h
       · injection h with h _;omega
       · exact ih _ _ _ (by omega) h
theorem wb9 (s:List UInt8) (i:Nat):∀ n d j code p,s.length - j≤n→cmtS s i d j=.bad code p→code≠0:=by
 intro n
 induction n with
 | zero=>intro d j code p hn h;rw [cmtS,dif_pos (by omega)] at h;injection h with h _;omega
 | succ n ih=>
   intro d j code p hn h
   rw [cmtS] at h
   split at h
   · injection h with h _;omega
   · split at h
     · exact ih _ _ _ _ (by omega) h
     · split at h
       · split at h
         · cases h
         · exact ih _ _ _ _ (by omega) h
       · split at h
         · injection h with h _;omega
         · exact ih _ _ _ _ (by omega) h
theorem qx6 {r:KR} (h:∀ code p,r=.bad code p→code≠0) {code p:Nat} {nm:List UInt8} (e:cmtU r=.bad code p nm):code≠0:=by
 cases r with
 | bad c q=>injection e with e _;subst e;exact h _ _ rfl
 | ok e'=>cases e
theorem qk0 {s:List UInt8} {i:Nat} {c:UInt8} {code p:Nat} {nm:List UInt8} (h:za9 s i c=some (.bad code p nm)):code≠0:=by
 unfold za9 at h
 split at h
 · cases h
 · split at h
   · injection h with h;exact qx6 (fun _ _ e=>jy1 s _ _ _ _ (Nat.le_refl _) e) h
   · split at h
     · injection h with h;exact qx6 (fun _ _ e=>wb9 s i _ _ _ _ _ (Nat.le_refl _) e) h
     · cases h
theorem we3 {s nm:List UInt8} {code p:Nat} {y:Sc} (h:zf1 s code p nm y):CV.agg [.int .i64 y.code,.str y.name,.int .i64 y.fl,.int .i64 y.fc]=fltC code nm (plc s p).1 (plc s p).2:=by
 obtain ⟨h1,h2,h3,h4⟩:=h
 unfold fltC
 rw [h1,h2,h3,h4]
theorem wx4 {H:z18} {s:List UInt8} {id i:Nat} {c:UInt8} {t6:CV} {T:ICode} {N:Post} {B:Hs} {R:RP} (hH:ScH id (scAt s i) H) (hc:s[i]?=some c) (hl:s.length<2^30)
 (hskip:∀ e H',za9 s i c=some (.skip e)→ScH id (scAt s e) H'→∀ fr,KpL [0,3,4,5,6] fr [0,3,4,5,6] (lexK s id ([]:List Tok) t6)→R.go 0 fr H')
 (hbad:∀ code p nm H',za9 s i c=some (.bad code p nm)→∀ fr:WFr,fr.env 2=.nils→fr.env 3=.lbox (some 4) (.c (fltC code nm (plc s p).1 (plc s p).2))→R.ret fr H')
 (hno:∀ H',za9 s i c=none→ScH id (scAt s i) H'→WP Vv T (FL (lexK s id ([]:List Tok) t6) []) H' N B R) :
 WP Vv (lexQ T) (FL (lexK s id ([]:List Tok) t6) []) H N B R:=by
 have hcall:=ju3 hH hc hl
 unfold lexQ lexP1 lexP2 lexK
 cases hu:za9 s i c with
 | none=>
   rw [hu] at hcall
   have hcall:Shr Vv 23 [.ptr id 0] H (.c (.bool false)) (fun H'=>ScH id (scAt s i) H'∧KpH id H H'):=hcall
   repeat' first
    | apply z01
    | exact z13
    | exact z19 rfl
    | (apply z30;(iterate 3 rfl))
    | (apply z66;rfl;rfl)
    | (apply z24;rfl;rfl)
    | (apply z14;rfl;rfl)
    | (apply z29;rfl;rfl)
    | (apply z28;(iterate 4 rfl);exact z34 (by first | exact rfl | assumption | exact z06 (by assumption)))
    | (apply z22;rfl;rfl;(assumption);rfl)
    | (apply z27 (hc:=⟨hcall.run⟩);rfl;rfl;(exact rfl);rfl;(exact z13);rintro H1 ⟨r1,k1⟩)
    | (apply z04;focus (repeat (first | exact z23 | (apply kq_c;rfl) | (apply zc5;rfl) | (apply z50;rfl) | (apply z38;rfl))))
    | apply z02
    | apply z00
    | apply z03
    | apply z07
    | apply z09
    | apply z25
    | apply z54
    | (apply z32;rfl;(with_reducible rfl))
    | (apply z12;rfl)
    | (apply z62;(exact rfl))
    | (with_reducible apply zd3;intro hc)
    | (with_reducible apply za6;intro hc)
    | (apply z48;rfl)
    | (apply z55;rfl)
    | (apply zd7;rfl)
    | (apply dand;rfl)
   try any_goals (exfalso;exact hc rfl)
   all_goals exact hno _ hu r1
 | some u=>
   rw [hu] at hcall
   cases u with
   | tok op q t n e=>obtain ⟨H',_,⟨y,_,h⟩,_⟩:=hcall.run;exact h.elim
   | skip e=>
     obtain ⟨H',a1,⟨y,hy,hf⟩,hk⟩:=hcall.run
     have hf:y=scAt s e:=hf
     subst hf
     have hcall:Shr Vv 23 [.ptr id 0] H (.c (.bool true)) (fun H'=>ScH id (scAt s e) H'∧KpH id H H'):=⟨H',a1,hy,hk⟩
     repeat' first
      | apply z01
      | exact z19 rfl
      | (apply z24;rfl;rfl)
      | (apply z27 (hc:=⟨hcall.run⟩);rfl;rfl;(exact rfl);rfl;(exact z13);rintro H1 ⟨r1,k1⟩)
      | (apply z04;focus (repeat (first | exact z23 | (apply kq_c;rfl) | (apply zc5;rfl) | (apply z50;rfl) | (apply z38;rfl))))
      | apply z02
      | apply z00
      | apply z03
      | (apply z35;rfl;(with_reducible rfl))
     refine q32 (hskip e _ hu r1 _ ?_)
     unfold lexK
     repeat' first
      | exact z23
      | refine z64 rfl ?_
   | bad code p nm=>
     obtain ⟨H',a1,⟨y,hy,hf⟩,hk⟩:=hcall.run
     have hf:zf1 s code p nm y:=hf
     have hcall:Shr Vv 23 [.ptr id 0] H (.c (.bool false)) (fun H'=>ScH id y H'∧KpH id H H'):=⟨H',a1,hy,hk⟩
     have hcd:¬ ((y.code:Nat):Int)=0:=by have h1:=qk0 hu;have h2:y.code=code:=hf.1;omega
     repeat' first
      | apply z01
      | exact z13
      | exact z19 rfl
      | (apply z30;(iterate 3 rfl))
      | (apply z66;rfl;rfl)
      | (apply z24;rfl;rfl)
      | (apply z14;rfl;rfl)
      | (apply z29;rfl;rfl)
      | (apply z28;(iterate 4 rfl);exact z34 (by first | exact rfl | assumption | exact z06 (by assumption)))
      | (apply z22;rfl;rfl;(assumption);rfl)
      | (apply z27 (hc:=⟨hcall.run⟩);rfl;rfl;(exact rfl);rfl;(exact z13);rintro H1 ⟨r1,k1⟩)
      | (apply z04;focus (repeat (first | exact z23 | (apply kq_c;rfl) | (apply zc5;rfl) | (apply z50;rfl) | (apply z38;rfl))))
      | apply z02
      | apply z00
      | apply z03
      | apply z07
      | apply z09
      | apply z25
      | apply z54
      | (apply z32;rfl;(with_reducible rfl))
      | (apply z12;rfl)
      | (apply z62;(exact rfl))
      | (with_reducible apply zd3;intro hc)
      | (with_reducible apply za6;intro hc)
      | (apply z48;rfl)
      | (apply z55;rfl)
      | (apply zd7;rfl)
      | (apply dand;rfl)
     try any_goals (exfalso;contradiction)
     all_goals exact hbad _ _ _ _ hu _ rfl (congrArg (fun u=>WV.lbox (some 4) (.c u)) (we3 hf))
theorem v05 {H:z18} {s:List UInt8} {id i:Nat} {c:UInt8} {a:Tok} {r:List Tok} {t6:CV} {T:ICode} {N:Post} {B:Hs} {R:RP} (hH:ScH id (scAt s i) H) (hc:s[i]?=some c) (hl:s.length<2^30)
 (hskip:∀ e H',za9 s i c=some (.skip e)→ScH id (scAt s e) H'→∀ fr,KpL [0,3,4,5,6] fr [0,3,4,5,6] (lexK s id (a::r) t6)→R.go 0 fr H')
 (hbad:∀ code p nm H',za9 s i c=some (.bad code p nm)→∀ fr:WFr,fr.env 2=.nils→fr.env 3=.lbox (some 4) (.c (fltC code nm (plc s p).1 (plc s p).2))→R.ret fr H')
 (hno:∀ H',za9 s i c=none→ScH id (scAt s i) H'→WP Vv T (FL (lexK s id (a::r) t6) []) H' N B R) :
 WP Vv (lexQ T) (FL (lexK s id (a::r) t6) []) H N B R:=by
 have hcall:=ju3 hH hc hl
 unfold lexQ lexP1 lexP2 lexK
 cases hu:za9 s i c with
 | none=>
   rw [hu] at hcall
   have hcall:Shr Vv 23 [.ptr id 0] H (.c (.bool false)) (fun H'=>ScH id (scAt s i) H'∧KpH id H H'):=hcall
   repeat' first
    | apply z01
    | exact z13
    | exact z19 rfl
    | (apply z30;(iterate 3 rfl))
    | (apply z66;rfl;rfl)
    | (apply z24;rfl;rfl)
    | (apply z14;rfl;rfl)
    | (apply z29;rfl;rfl)
    | (apply z28;(iterate 4 rfl);exact z34 (by first | exact rfl | assumption | exact z06 (by assumption)))
    | (apply z22;rfl;rfl;(assumption);rfl)
    | (apply z27 (hc:=⟨hcall.run⟩);rfl;rfl;(exact rfl);rfl;(exact z13);rintro H1 ⟨r1,k1⟩)
    | (apply z04;focus (repeat (first | exact z23 | (apply kq_c;rfl) | (apply ze1;rfl;rfl) | (apply z50;rfl) | (apply z38;rfl))))
    | apply z02
    | apply z00
    | apply z03
    | apply z07
    | apply z09
    | apply z25
    | apply z54
    | (apply z32;rfl;(with_reducible rfl))
    | (apply z12;rfl)
    | (apply z62;(exact rfl))
    | (with_reducible apply zd3;intro hc)
    | (with_reducible apply za6;intro hc)
    | (apply z48;rfl)
    | (apply z55;rfl)
    | (apply zd7;rfl)
    | (apply dand;rfl)
   try any_goals (exfalso;exact hc rfl)
   all_goals exact hno _ hu r1
 | some u=>
   rw [hu] at hcall
   cases u with
   | tok op q t n e=>obtain ⟨H',_,⟨y,_,h⟩,_⟩:=hcall.run;exact h.elim
   | skip e=>
     obtain ⟨H',a1,⟨y,hy,hf⟩,hk⟩:=hcall.run
     have hf:y=scAt s e:=hf
     subst hf
     have hcall:Shr Vv 23 [.ptr id 0] H (.c (.bool true)) (fun H'=>ScH id (scAt s e) H'∧KpH id H H'):=⟨H',a1,hy,hk⟩
     repeat' first
      | apply z01
      | exact z19 rfl
      | (apply z24;rfl;rfl)
      | (apply z27 (hc:=⟨hcall.run⟩);rfl;rfl;(exact rfl);rfl;(exact z13);rintro H1 ⟨r1,k1⟩)
      | (apply z04;focus (repeat (first | exact z23 | (apply kq_c;rfl) | (apply ze1;rfl;rfl) | (apply z50;rfl) | (apply z38;rfl))))
      | apply z02
      | apply z00
      | apply z03
      | (apply z35;rfl;(with_reducible rfl))
     refine q32 (hskip e _ hu r1 _ ?_)
     unfold lexK
     repeat' first
      | exact z23
      | refine z64 rfl ?_
   | bad code p nm=>
     obtain ⟨H',a1,⟨y,hy,hf⟩,hk⟩:=hcall.run
     have hf:zf1 s code p nm y:=hf
     have hcall:Shr Vv 23 [.ptr id 0] H (.c (.bool false)) (fun H'=>ScH id y H'∧KpH id H H'):=⟨H',a1,hy,hk⟩
     have hcd:¬ ((y.code:Nat):Int)=0:=by have h1:=qk0 hu;have h2:y.code=code:=hf.1;omega
     repeat' first
      | apply z01
      | exact z13
      | exact z19 rfl
      | (apply z30;(iterate 3 rfl))
      | (apply z66;rfl;rfl)
      | (apply z24;rfl;rfl)
      | (apply z14;rfl;rfl)
      | (apply z29;rfl;rfl)
      | (apply z28;(iterate 4 rfl);exact z34 (by first | exact rfl | assumption | exact z06 (by assumption)))
      | (apply z22;rfl;rfl;(assumption);rfl)
      | (apply z27 (hc:=⟨hcall.run⟩);rfl;rfl;(exact rfl);rfl;(exact z13);rintro H1 ⟨r1,k1⟩)
      | (apply z04;focus (repeat (first | exact z23 | (apply kq_c;rfl) | (apply ze1;rfl;rfl) | (apply z50;rfl) | (apply z38;rfl))))
      | apply z02
      | apply z00
      | apply z03
      | apply z07
      | apply z09
      | apply z25
      | apply z54
      | (apply z32;rfl;(with_reducible rfl))
      | (apply z12;rfl)
      | (apply z62;(exact rfl))
      | (with_reducible apply zd3;intro hc)
      | (with_reducible apply za6;intro hc)
      | (apply z48;rfl)
      | (apply z55;rfl)
      | (apply zd7;rfl)
      | (apply dand;rfl)
     try any_goals (exfalso;contradiction)
     all_goals exact hbad _ _ _ _ hu _ rfl (congrArg (fun u=>WV.lbox (some 4) (.c u)) (we3 hf))
end Go.Proofs.TryzL
namespace Go.Proofs.TryzL
open Go.Proofs.Lz
inductive LR where
 | bad (code:Nat) (nm:List UInt8) (line col:Nat)
 | ok (l:List Tok)
def lexU (s:List UInt8) (i:Nat) (acc:List Tok):LR:=
 if hi:i<s.length then
  match za9 s i s[i] with
  | some (.skip e)=>if h:i<e then lexU s e acc else .ok []
  | some (.bad code p nm)=>.bad code nm (plc s p).1 (plc s p).2
  | some (.tok _ _ _ _ _)=>.ok []
  | none=>match z74 s i s[i] with
    | .bad code p nm=>.bad code nm (plc s p).1 (plc s p).2
    | .skip _=>.ok []
    | .tok op q t n e=>if 16384≤acc.length then .bad 3 [] (plc s i).1 (plc s i).2 else if h:i<e then lexU s e (acc++[⟨op,q,t,n,false,(plc s i).1,(plc s i).2⟩]) else .ok []
 else .ok acc
termination_by s.length - i
end Go.Proofs.TryzL
namespace Go.Proofs.TryzL
open Go.Proofs.Lz
theorem wk6 (s:List UInt8):∀ n j e,s.length - j≤n→j≤s.length→lineS s j=.ok e→j≤e∧e≤s.length:=by
 intro n
 induction n with
 | zero=>intro j e hn hj h;rw [lineS,dif_pos (by omega)] at h;injection h with h;omega
 | succ n ih=>
   intro j e hn hj h
   rw [lineS] at h
   split at h
   · injection h with h;omega
   · split at h
     · injection h with h;omega
     · split at h
       · cases h
       · have:=ih _ _ (by omega) (by omega) h;omega
theorem wu2 (s:List UInt8) (i:Nat):∀ n d j e,s.length - j≤n→cmtS s i d j=.ok e→j<e∧e≤s.length:=by
 intro n
 induction n with
 | zero=>intro d j e hn h;rw [cmtS,dif_pos (by omega)] at h;cases h
 | succ n ih=>
   intro d j e hn h
   rw [cmtS] at h
   split at h
   · cases h
   · split at h
     · have:=ih _ _ _ (by omega) h;omega
     · split at h
       · rename_i hp
         have:=j48 hp
         split at h
         · injection h with h;omega
         · have:=ih _ _ _ (by omega) h;omega
       · split at h
         · cases h
         · have:=ih _ _ _ (by omega) h;omega
theorem qe0 {s:List UInt8} {i e:Nat} {c:UInt8} (hc:s[i]?=some c) (h:za9 s i c=some (.skip e)):i<e∧e≤s.length:=by
 have hlt:i<s.length:=(List.getElem?_eq_some_iff.1 hc).1
 have hg:s.getD i 0=c:=by simp [List.getD,hc]
 unfold za9 at h
 split at h
 · injection h with h;injection h with h;omega
 · rename_i hb
   split at h
   · rename_i h45
     injection h with h
     cases hr:lineS s i with
     | bad a b=>rw [hr] at h;cases h
     | ok e'=>
       rw [hr] at h
       injection h with h
       subst h
       rw [lineS,dif_neg (by omega),hg,if_neg (by rw [h45.1];decide),if_neg (by rw [h45.1];decide)] at hr
       have:=wk6 s _ _ _ (Nat.le_refl _) (by omega) hr
       omega
   · split at h
     · injection h with h
       cases hr:cmtS s i 0 i with
       | bad a b=>rw [hr] at h;cases h
       | ok e'=>
         rw [hr] at h
         injection h with h
         subst h
         exact wu2 s i _ _ _ _ (Nat.le_refl _) hr
     · cases h
end Go.Proofs.TryzL
namespace Go.Proofs.TryzL
open Go.Proofs.Lz
theorem qr9 {p:UInt8→Bool} {s:List UInt8} {i:Nat} {c:UInt8} (h:s[i]?=some c) (hp:p c=true):1≤(z87 p s i).length:=by
 rw [qs9 h hp]
 simp
theorem w00 {i:Nat} {q t q' t':List UInt8} {e e':Nat} {op n:Int} (h:zm1 i q t e=.tok op q' t' n e'):e'=e:=by
 unfold zm1 at h
 split at h
 · cases h
 · split at h
   · cases h
   · injection h with _ _ _ _ h;exact h.symm
theorem wz9 {s:List UInt8} {i:Nat} {m:UInt8}:∀ n text j t e,s.length - j≤n→litS s i m text j=.ok t e→j<e∧e≤s.length:=by
 intro n
 induction n with
 | zero=>
   intro text j t e hn h
   have hs:zi7 s i j=some (7,i):=by unfold zi7;rw [List.getElem?_eq_none (by omega)]
   rw [qp8 hs] at h;cases h
 | succ n ih=>
   intro text j t e hn h
   cases hs:zi7 s i j with
   | some cp=>obtain ⟨a,b⟩:=cp;rw [qp8 hs] at h;cases h
   | none=>
     have hlt:=zu4 hs
     rw [jp8 hs] at h
     split at h
     · injection h with _ h;omega
     · split at h
       · cases h
       · split at h
         · cases h
         · rename_i hch
           have h1:=qn1 hch
           split at h
           · cases h
           · have:=ih _ _ _ _ (by omega) h;omega
theorem j05 {s q t:List UInt8} {i e:Nat} {c:UInt8} {op n:Int} (hc:s[i]?=some c) (h:z74 s i c=.tok op q t n e):i<e∧e≤s.length:=by
 have hlt:i<s.length:=(List.getElem?_eq_some_iff.1 hc).1
 unfold z74 at h
 split at h
 · rename_i hcl
   have h1:=qr9 (p:=zb1) hc (by unfold zb1;rw [hcl];rfl)
   have h2:=zi4 (p:=zb1) (s:=s) (i:=i) (by omega)
   unfold zu2 at h
   dsimp only at h
   split at h
   · rename_i hq
     have h3:=w00 h
     have h4:i+(z87 zb1 s i).length<s.length:=(List.getElem?_eq_some_iff.1 hq.2.1).1
     have h5:=jb0 (s:=s) (j:=i+(z87 zb1 s i).length+1) (by omega)
     omega
   · have h3:=w00 h
     omega
 · split at h
   · rename_i hd
     have h1:=qr9 (p:=z93) hc hd
     have h2:=zi4 (p:=z93) (s:=s) (i:=i) (by omega)
     unfold numU at h
     split at h
     · cases h
     · injection h with _ _ _ _ h;omega
   · split at h
     · unfold litU at h
       cases hr:litS s i c [] (i+1) with
       | bad a b=>rw [hr] at h;cases h
       | ok t' e'=>
         rw [hr] at h
         have h1:=wz9 _ _ _ _ _ (Nat.le_refl _) hr
         unfold quoU at h
         dsimp only at h
         split at h
         · split at h
           · cases h
           · injection h with _ _ _ _ h;omega
         · injection h with _ _ _ _ h;omega
     · split at h
       · rename_i hs
         have h1:=qr9 (p:=symB) hc hs
         have h2:=zi4 (p:=symB) (s:=s) (i:=i) (by omega)
         have h3:=w00 h
         omega
       · split at h
         · injection h with _ _ _ _ h;omega
         · cases h
end Go.Proofs.TryzL
namespace Go.Proofs.TryzL
open Go.Proofs.Lz
set_option maxHeartbeats 4000000
theorem qv9 {s:List UInt8} {i e:Nat} {c:UInt8} {acc:List Tok} (hc:s[i]?=some c) (h:za9 s i c=some (.skip e)):lexU s i acc=lexU s e acc:=by
 obtain ⟨hi,rfl⟩:=List.getElem?_eq_some_iff.1 hc
 rw [lexU,dif_pos hi,h]
 dsimp only
 rw [dif_pos (qe0 hc h).1]
theorem jc5 {s nm:List UInt8} {i code p:Nat} {c:UInt8} {acc:List Tok} (hc:s[i]?=some c) (h:za9 s i c=some (.bad code p nm)):lexU s i acc=.bad code nm (plc s p).1 (plc s p).2:=by
 obtain ⟨hi,rfl⟩:=List.getElem?_eq_some_iff.1 hc
 rw [lexU,dif_pos hi,h]
theorem qk7 {s nm:List UInt8} {i code p:Nat} {c:UInt8} {acc:List Tok} (hc:s[i]?=some c) (h:za9 s i c=none) (hu:z74 s i c=.bad code p nm):lexU s i acc=.bad code nm (plc s p).1 (plc s p).2:=by
 obtain ⟨hi,rfl⟩:=List.getElem?_eq_some_iff.1 hc
 rw [lexU,dif_pos hi,h]
 dsimp only
 rw [hu]
theorem j00 {s q t:List UInt8} {i e:Nat} {op n:Int} {c:UInt8} {acc:List Tok} (hc:s[i]?=some c) (h:za9 s i c=none) (hu:z74 s i c=.tok op q t n e) (ha:16384≤acc.length):lexU s i acc=.bad 3 [] (plc s i).1 (plc s i).2:=by
 obtain ⟨hi,rfl⟩:=List.getElem?_eq_some_iff.1 hc
 rw [lexU,dif_pos hi,h]
 dsimp only
 rw [hu]
 dsimp only
 rw [if_pos ha]
theorem j93 {s q t:List UInt8} {i e:Nat} {op n:Int} {c:UInt8} {acc:List Tok} (hc:s[i]?=some c) (h:za9 s i c=none) (hu:z74 s i c=.tok op q t n e) (ha:¬ 16384≤acc.length):lexU s i acc=lexU s e (acc++[⟨op,q,t,n,false,(plc s i).1,(plc s i).2⟩]):=by
 obtain ⟨hi,rfl⟩:=List.getElem?_eq_some_iff.1 hc
 rw [lexU,dif_pos hi,h]
 dsimp only
 rw [hu]
 dsimp only
 rw [if_neg ha,dif_pos (j05 hc hu).1]
theorem jv7 {H:z18} {s:List UInt8} {id i:Nat} {t6:CV} {N:Post} {B:Hs} {R:RP} (hH:ScH id (scAt s i) H) (hi:i<s.length) (hl:s.length<2^30) (hlen:([]:List Tok).length≤16384)
 (hgo:∀ (acc':List Tok) (e:Nat) (t':CV) H',lexU s i ([]:List Tok)=lexU s e acc'→i<e→e≤s.length→acc'.length≤16384→ScH id (scAt s e) H'→∀ fr,KpL [0,3,4,5,6] fr [0,3,4,5,6] (lexK s id acc' t')→R.go 0 fr H')
 (hbad:∀ code nm l c' H',lexU s i ([]:List Tok)=.bad code nm l c'→∀ fr:WFr,fr.env 2=.nils→fr.env 3=.lbox (some 4) (.c (fltC code nm l c'))→R.ret fr H') :
 WP Vv (lexQ zi9) (FL (lexK s id ([]:List Tok) t6) []) H N B R:=by
 have hc:s[i]?=some s[i]:=List.getElem?_eq_getElem hi
 generalize s[i]=c at hc
 refine wx4 hH hc hl ?_ ?_ ?_
 · intro e H' h1 h2 fr hk
   exact hgo _ e _ H' (qv9 hc h1) (qe0 hc h1).1 (qe0 hc h1).2 hlen h2 fr hk
 · intro code p nm H' h1 fr h2 h3
   exact hbad _ _ _ _ H' (jc5 hc h1) fr h2 h3
 · intro H' hn hH'
   have g:∀ op q t n e H',z74 s i c=.tok op q t n e→([]:List Tok).length+1≤16384→ScH id (scAt s e) H'→∀ fr,KpL [0,3,4,5,6] fr [0,3,4,5,6] (lexK s id (([]:List Tok)++[⟨op,q,t,n,false,(plc s i).1,(plc s i).2⟩]) (tokC ⟨op,q,t,n,false,(plc s i).1,(plc s i).2⟩))→R.go 0 fr H':=
    fun op q t n e H' h1 h2 h3 fr hk=>hgo _ e _ H' (j93 hc hn h1 (by omega)) (j05 hc h1).1 (j05 hc h1).2 (by simp only [List.length_append,List.length_singleton];exact h2) h3 fr hk
   have ov:∀ op q t n e H',z74 s i c=.tok op q t n e→16384≤([]:List Tok).length→∀ fr:WFr,fr.env 2=.nils→fr.env 3=.lbox (some 4) (.c (fltC 3 [] (plc s i).1 (plc s i).2))→R.ret fr H':=
    fun op q t n e H' h1 h2 fr h3 h4=>hbad _ _ _ _ H' (j00 hc hn h1 h2) fr h3 h4
   have bd:∀ code p nm H',z74 s i c=.bad code p nm→∀ fr:WFr,fr.env 2=.nils→fr.env 3=.lbox (some 4) (.c (fltC code nm (plc s p).1 (plc s p).2))→R.ret fr H':=
    fun code p nm H' h1 fr h2 h3=>hbad _ _ _ _ H' (qk7 hc hn h1) fr h2 h3
   by_cases hcl:(upperB c||lowerB c)=true
   · exact jg8 hH' hc hl hlen g ov bd hcl
   by_cases hd:z93 c=true
   · exact jr4 hH' hc hl hlen g ov bd hcl hd
   by_cases hq:c=39∨c=34
   · exact jr7 hH' hc hl hlen g ov bd hcl hd hq
   by_cases hs:symB c=true
   · exact jz8 hH' hc hl hlen g ov bd hcl hd hq hs
   by_cases hp:spS.contains c=true
   · exact w32 hH' hc hl hlen g ov bd hcl hd hq hs hp
   · exact w70 hH' hc hl hlen g ov bd hcl hd hq hs hp
theorem wp1 {H:z18} {s:List UInt8} {id i:Nat} {a:Tok} {r:List Tok} {t6:CV} {N:Post} {B:Hs} {R:RP} (hH:ScH id (scAt s i) H) (hi:i<s.length) (hl:s.length<2^30) (hlen:(a::r).length≤16384)
 (hgo:∀ (acc':List Tok) (e:Nat) (t':CV) H',lexU s i (a::r)=lexU s e acc'→i<e→e≤s.length→acc'.length≤16384→ScH id (scAt s e) H'→∀ fr,KpL [0,3,4,5,6] fr [0,3,4,5,6] (lexK s id acc' t')→R.go 0 fr H')
 (hbad:∀ code nm l c' H',lexU s i (a::r)=.bad code nm l c'→∀ fr:WFr,fr.env 2=.nils→fr.env 3=.lbox (some 4) (.c (fltC code nm l c'))→R.ret fr H') :
 WP Vv (lexQ zi9) (FL (lexK s id (a::r) t6) []) H N B R:=by
 have hc:s[i]?=some s[i]:=List.getElem?_eq_getElem hi
 generalize s[i]=c at hc
 refine v05 hH hc hl ?_ ?_ ?_
 · intro e H' h1 h2 fr hk
   exact hgo _ e _ H' (qv9 hc h1) (qe0 hc h1).1 (qe0 hc h1).2 hlen h2 fr hk
 · intro code p nm H' h1 fr h2 h3
   exact hbad _ _ _ _ H' (jc5 hc h1) fr h2 h3
 · intro H' hn hH'
   have g:∀ op q t n e H',z74 s i c=.tok op q t n e→(a::r).length+1≤16384→ScH id (scAt s e) H'→∀ fr,KpL [0,3,4,5,6] fr [0,3,4,5,6] (lexK s id ((a::r)++[⟨op,q,t,n,false,(plc s i).1,(plc s i).2⟩]) (tokC ⟨op,q,t,n,false,(plc s i).1,(plc s i).2⟩))→R.go 0 fr H':=
    fun op q t n e H' h1 h2 h3 fr hk=>hgo _ e _ H' (j93 hc hn h1 (by omega)) (j05 hc h1).1 (j05 hc h1).2 (by simp only [List.length_append,List.length_singleton];exact h2) h3 fr hk
   have ov:∀ op q t n e H',z74 s i c=.tok op q t n e→16384≤(a::r).length→∀ fr:WFr,fr.env 2=.nils→fr.env 3=.lbox (some 4) (.c (fltC 3 [] (plc s i).1 (plc s i).2))→R.ret fr H':=
    fun op q t n e H' h1 h2 fr h3 h4=>hbad _ _ _ _ H' (j00 hc hn h1 h2) fr h3 h4
   have bd:∀ code p nm H',z74 s i c=.bad code p nm→∀ fr:WFr,fr.env 2=.nils→fr.env 3=.lbox (some 4) (.c (fltC code nm (plc s p).1 (plc s p).2))→R.ret fr H':=
    fun code p nm H' h1 fr h2 h3=>hbad _ _ _ _ H' (qk7 hc hn h1) fr h2 h3
   by_cases hcl:(upperB c||lowerB c)=true
   · exact jj7 hH' hc hl hlen g ov bd hcl
   by_cases hd:z93 c=true
   · exact jo8 hH' hc hl hlen g ov bd hcl hd
   by_cases hq:c=39∨c=34
   · exact jm9 hH' hc hl hlen g ov bd hcl hd hq
   by_cases hs:symB c=true
   · exact w06 hH' hc hl hlen g ov bd hcl hd hq hs
   by_cases hp:spS.contains c=true
   · exact w35 hH' hc hl hlen g ov bd hcl hd hq hs hp
   · exact w77 hH' hc hl hlen g ov bd hcl hd hq hs hp
end Go.Proofs.TryzL
