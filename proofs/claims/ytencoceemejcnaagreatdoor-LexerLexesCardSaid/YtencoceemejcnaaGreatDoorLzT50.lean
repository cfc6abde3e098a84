/- Chapter 02: a turn of Lex: blanks first. -/
import Derived.Test.YtencoceemejcnaaGreatDoorLzT46
set_option linter.unusedSimpArgs false
set_option linter.unusedVariables false
namespace Go.Proofs.TryzL
open Go.Proofs.Lz
set_option maxHeartbeats 4000000
theorem q70 {H:q9} {s:List UInt8} {id i:Nat} {c:UInt8} {t6:CV} {N:f4} {B:Hs} {R:RP} (hH:ScH id (j5 s i) H) (hc:s[i]?=some c) (hl:s.length<2^30) (hlen:([]:List Tok).length<=16384)
 (hgo:∀ op q t n e H',b8 s i c=.tok op q t n e->([]:List Tok).length+1<=16384->ScH id (j5 s e) H'->∀ fr,KpL [0,3,4,5,6] fr [0,3,4,5,6] (l7 s id (([]:List Tok)++[⟨op,q,t,n,false,(plc s i).1,(plc s i).2⟩]) (E6 ⟨op,q,t,n,false,(plc s i).1,(plc s i).2⟩))->R.go 0 fr H')
 (hover:∀ op q t n e H',b8 s i c=.tok op q t n e->16384<=([]:List Tok).length->∀ fr:WFr,fr.env 2=.nils->fr.env 3=.lbox (some 4) (.c (i7 3 [] (plc s i).1 (plc s i).2))->R.ret fr H')
 (hbad:∀ code p nm H',b8 s i c=.bad code p nm->∀ fr:WFr,fr.env 2=.nils->fr.env 3=.lbox (some 4) (.c (i7 code nm (plc s p).1 (plc s p).2))->R.ret fr H')
 (hcl:¬ (upperB c||lowerB c)=true) (hd:¬ t7 c=true) (hq:¬ (c=39\/c=34)) (hs:u6 c=true) :
   WP Vv E9 (FL (l7 s id ([]:List Tok) t6) []) H N B R:=by
  have hH0:H[id]?=some (.var (some 8) (scC (j5 s i))):=hH;have h0:s[(j5 s i).pos]?=some c:=hc;have hlt:i<s.length:=(gEs hc).1;have h24:=O0 c;have h25:=V9 c;have h27:=Q9 c;unfold E9 lexP3 lexP4 lexP5 l7;generalize hT:P6=T;have hup:upperB c=false:=Bool.eq_false_iff.2 (fun h=>hcl (by rw [h];rfl));have hlo:lowerB c=false:=Bool.eq_false_iff.2 (fun h=>hcl (by rw [h];exact Bool.or_true _));rw [hup] at h24;rw [hlo] at h25;rw [Bool.eq_false_iff.2 hd] at h27;have hxj:j5 (j5 s i).src (j5 s i).pos=j5 s i:=rfl;have hj1:(j5 s i).pos+1<=(j5 s i).src.length:=by show i+1<=s.length;omega
  have hjp:(j5 s i).pos<=(j5 s i).src.length:=by show i<=s.length;omega
  have hl50:(j5 s i).src.length<2^50:=by show s.length<_;omega
  have hl60:(j5 s i).src.length<2^60:=by show s.length<_;omega
  have hq1:¬ (c.toNat:Int)=39:=fun h=>hq (.inl (Classical.byContradiction fun e=>R9 e h));have hq2:¬ (c.toNat:Int)=34:=fun h=>hq (.inr (Classical.byContradiction fun e=>R9 e h));have h30:=vD c;rw [hs] at h30;have htl:=Y2 (p:=u6) (s:=s) (i:=i) (by omega);have hst:(x9 u6 s i).length<2^60:=by omega
  have hrun:=uB hH hjp hl60;have h33:=gQ (x9 u6 s i) (by omega);have hjt:(j5 s i).pos+(x9 u6 s i).length<=(j5 s i).src.length:=htl;have eu:b8 s i c=l9 i [] (x9 u6 s i) (i+(x9 u6 s i).length):=by unfold b8;rw [if_neg hcl,if_neg hd,if_neg hq,if_pos hs]
  unfold l9 at eu;rw [if_neg (by simp)] at eu;by_cases h64:(x9 u6 s i).length<=64
  . rw [if_neg (by omega)] at eu;have hg:=fun H'=>hgo _ _ _ _ _ H' eu;have ho:=fun H'=>hover _ _ _ _ _ H' eu;repeat' first|apply j2|exact q7|exact j8 rfl|(apply j7;rfl;rfl)|(apply j9;rfl;rfl;rfl)|(apply u5;rfl)|(apply s6;rfl;rfl)|(apply y9;rfl;(with_reducible rfl);rfl)|(apply y0;rfl;(with_reducible rfl);rfl)|(apply x7;rfl;rfl;rfl;assumption)|(apply m6;rfl;rfl)|(apply s9;rfl;rfl)|(apply l5;rfl;rfl)|(apply u1;rfl;rfl;rfl;rfl;exact u4 (by first | exact rfl | assumption | exact j0 (by assumption)))|(apply t8;rfl;rfl;(assumption);rfl)|(apply q6 (hc:=h24);rfl;rfl;rfl)|(apply q6 (hc:=h25);rfl;rfl;rfl)|(apply q6 (hc:=h27);rfl;rfl;rfl)|(apply q6 (hc:=h30);rfl;rfl;rfl)|(apply b7 (hc:=⟨hrun.run⟩);rfl;rfl;(exact rfl);rfl;(exact q7);rintro H1 ⟨r1,k1⟩)|(apply b7 (hc:=⟨(xC r1 h64).run⟩);rfl;rfl;(exact rfl);rfl;(exact q7);rintro H1 ⟨r1,k1⟩)|(apply q6 (hc:=h33);rfl;rfl;rfl)|(apply b7 (hc:=⟨(adv (n:=(x9 u6 s i).length) hxj r1 hjt hl50).run⟩);rfl;rfl;(exact rfl);rfl;(exact j8 rfl);rintro H1 ⟨r1,k1⟩)|(apply w8;focus (repeat (first | exact q8 | (apply v6;rfl) | (apply F7;rfl) | (apply d6;rfl) | (apply y6;rfl))))|apply j1|apply j3|apply j4|apply x3|apply v8|apply o0|apply o7|(apply m5;rfl;(with_reducible rfl))|(apply g9;rfl;(with_reducible rfl))|(apply v7;rfl)|(apply x8;rfl;(with_reducible rfl))|(apply l4;rfl;(with_reducible rfl))|(apply y7;rfl)|(apply o6;(exact rfl))|(with_reducible first|exact C2|apply C3|apply s4|apply s5)|(with_reducible (first|apply u7|apply g8);intro hc)|(apply f8;rfl)|(apply o8;rfl)|(apply f9;rfl)
    try any_goals (exfalso;omega)
    all_goals exact hT▸gZ (t:=⟨Z6 (x9 u6 s i),[],x9 u6 s i,0,false,0,0⟩) hlen (fun h fr hk=>hg _ h r1 fr hk) (fun h fr h1 h2=>ho _ h fr h1 h2)
  . rw [if_pos (by omega)] at eu;repeat' first|apply j2|exact q7|exact j8 rfl|(apply j7;rfl;rfl)|(apply j9;rfl;rfl;rfl)|(apply s6;rfl;rfl)|(apply y9;rfl;(with_reducible rfl);rfl)|(apply y0;rfl;(with_reducible rfl);rfl)|(apply x7;rfl;rfl;rfl;assumption)|(apply C7;rfl;rfl)|(apply m6;rfl;rfl)|(apply s9;rfl;rfl)|(apply l5;rfl;rfl)|(apply u1;rfl;rfl;rfl;rfl;exact u4 (by first | exact rfl | assumption | exact j0 (by assumption)))|(apply t8;rfl;rfl;(assumption);rfl)|(apply q6 (hc:=h24);rfl;rfl;rfl)|(apply q6 (hc:=h25);rfl;rfl;rfl)|(apply q6 (hc:=h27);rfl;rfl;rfl)|(apply q6 (hc:=h30);rfl;rfl;rfl)|(apply b7 (hc:=⟨hrun.run⟩);rfl;rfl;(exact rfl);rfl;(exact q7);rintro H1 ⟨r1,k1⟩)|(apply b7 (hc:=⟨(bH r1 h64 hst).run⟩);rfl;rfl;(exact rfl);rfl;(exact q7);rintro H1 ⟨r1,k1⟩)|(apply w8;focus (repeat (first | exact q8 | (apply v6;rfl) | (apply F7;rfl) | (apply d6;rfl) | (apply y6;rfl))))|apply j1|apply j3|apply j4|apply x3|apply v8|apply w9|apply o0|apply o7|(apply m5;rfl;(with_reducible rfl))|(apply g9;rfl;(with_reducible rfl))|(apply v7;rfl)|(apply x8;rfl;(with_reducible rfl))|(apply l4;rfl;(with_reducible rfl))|(apply y7;rfl)|(apply o6;(exact rfl))|(with_reducible first|exact G1|apply F9|apply s4|apply s5)|(with_reducible (first|apply u7|apply g8);intro hc)|(apply f8;rfl)|(apply o8;rfl)|(apply P7;rfl)|(apply f9;rfl)
    try any_goals (exfalso;omega)
    all_goals exact hbad _ _ _ _ eu _ rfl (congrArg (fun u=>WV.lbox (some 4) (.c u)) (qZ (rF s i 3 _ (by decide))))
theorem qg9 {H:q9} {s:List UInt8} {id i:Nat} {c:UInt8} {a:Tok} {r:List Tok} {t6:CV} {N:f4} {B:Hs} {R:RP} (hH:ScH id (j5 s i) H) (hc:s[i]?=some c) (hl:s.length<2^30) (hlen:(a::r).length<=16384)
 (hgo:∀ op q t n e H',b8 s i c=.tok op q t n e->(a::r).length+1<=16384->ScH id (j5 s e) H'->∀ fr,KpL [0,3,4,5,6] fr [0,3,4,5,6] (l7 s id ((a::r)++[⟨op,q,t,n,false,(plc s i).1,(plc s i).2⟩]) (E6 ⟨op,q,t,n,false,(plc s i).1,(plc s i).2⟩))->R.go 0 fr H')
 (hover:∀ op q t n e H',b8 s i c=.tok op q t n e->16384<=(a::r).length->∀ fr:WFr,fr.env 2=.nils->fr.env 3=.lbox (some 4) (.c (i7 3 [] (plc s i).1 (plc s i).2))->R.ret fr H')
 (hbad:∀ code p nm H',b8 s i c=.bad code p nm->∀ fr:WFr,fr.env 2=.nils->fr.env 3=.lbox (some 4) (.c (i7 code nm (plc s p).1 (plc s p).2))->R.ret fr H')
 (hcl:¬ (upperB c||lowerB c)=true) (hd:¬ t7 c=true) (hq:¬ (c=39\/c=34)) (hs:u6 c=true) :
   WP Vv E9 (FL (l7 s id (a::r) t6) []) H N B R:=by
  have hH0:H[id]?=some (.var (some 8) (scC (j5 s i))):=hH;have h0:s[(j5 s i).pos]?=some c:=hc;have hlt:i<s.length:=(gEs hc).1;have h24:=O0 c;have h25:=V9 c;have h27:=Q9 c;unfold E9 lexP3 lexP4 lexP5 l7;generalize hT:P6=T;have hup:upperB c=false:=Bool.eq_false_iff.2 (fun h=>hcl (by rw [h];rfl));have hlo:lowerB c=false:=Bool.eq_false_iff.2 (fun h=>hcl (by rw [h];exact Bool.or_true _));rw [hup] at h24;rw [hlo] at h25;rw [Bool.eq_false_iff.2 hd] at h27;have hxj:j5 (j5 s i).src (j5 s i).pos=j5 s i:=rfl;have hj1:(j5 s i).pos+1<=(j5 s i).src.length:=by show i+1<=s.length;omega
  have hjp:(j5 s i).pos<=(j5 s i).src.length:=by show i<=s.length;omega
  have hl50:(j5 s i).src.length<2^50:=by show s.length<_;omega
  have hl60:(j5 s i).src.length<2^60:=by show s.length<_;omega
  have hq1:¬ (c.toNat:Int)=39:=fun h=>hq (.inl (Classical.byContradiction fun e=>R9 e h));have hq2:¬ (c.toNat:Int)=34:=fun h=>hq (.inr (Classical.byContradiction fun e=>R9 e h));have h30:=vD c;rw [hs] at h30;have htl:=Y2 (p:=u6) (s:=s) (i:=i) (by omega);have hst:(x9 u6 s i).length<2^60:=by omega
  have hrun:=uB hH hjp hl60;have h33:=gQ (x9 u6 s i) (by omega);have hjt:(j5 s i).pos+(x9 u6 s i).length<=(j5 s i).src.length:=htl;have eu:b8 s i c=l9 i [] (x9 u6 s i) (i+(x9 u6 s i).length):=by unfold b8;rw [if_neg hcl,if_neg hd,if_neg hq,if_pos hs]
  unfold l9 at eu;rw [if_neg (by simp)] at eu;by_cases h64:(x9 u6 s i).length<=64
  . rw [if_neg (by omega)] at eu;have hg:=fun H'=>hgo _ _ _ _ _ H' eu;have ho:=fun H'=>hover _ _ _ _ _ H' eu;repeat' first|apply j2|exact q7|exact j8 rfl|(apply j7;rfl;rfl)|(apply j9;rfl;rfl;rfl)|(apply u5;rfl)|(apply s6;rfl;rfl)|(apply y9;rfl;(with_reducible rfl);rfl)|(apply y0;rfl;(with_reducible rfl);rfl)|(apply x7;rfl;rfl;rfl;assumption)|(apply m6;rfl;rfl)|(apply s9;rfl;rfl)|(apply l5;rfl;rfl)|(apply u1;rfl;rfl;rfl;rfl;exact u4 (by first | exact rfl | assumption | exact j0 (by assumption)))|(apply t8;rfl;rfl;(assumption);rfl)|(apply q6 (hc:=h24);rfl;rfl;rfl)|(apply q6 (hc:=h25);rfl;rfl;rfl)|(apply q6 (hc:=h27);rfl;rfl;rfl)|(apply q6 (hc:=h30);rfl;rfl;rfl)|(apply b7 (hc:=⟨hrun.run⟩);rfl;rfl;(exact rfl);rfl;(exact q7);rintro H1 ⟨r1,k1⟩)|(apply b7 (hc:=⟨(xC r1 h64).run⟩);rfl;rfl;(exact rfl);rfl;(exact q7);rintro H1 ⟨r1,k1⟩)|(apply q6 (hc:=h33);rfl;rfl;rfl)|(apply b7 (hc:=⟨(adv (n:=(x9 u6 s i).length) hxj r1 hjt hl50).run⟩);rfl;rfl;(exact rfl);rfl;(exact j8 rfl);rintro H1 ⟨r1,k1⟩)|(apply w8;focus (repeat (first | exact q8 | (apply v6;rfl) | (apply D6;rfl;rfl) | (apply d6;rfl) | (apply y6;rfl))))|apply j1|apply j3|apply j4|apply x3|apply v8|apply o0|apply o7|(apply m5;rfl;(with_reducible rfl))|(apply g9;rfl;(with_reducible rfl))|(apply v7;rfl)|(apply x8;rfl;(with_reducible rfl))|(apply l4;rfl;(with_reducible rfl))|(apply y7;rfl)|(apply o6;(exact rfl))|(with_reducible first|exact C2|apply C3|apply s4|apply s5)|(with_reducible (first|apply u7|apply g8);intro hc)|(apply f8;rfl)|(apply o8;rfl)|(apply f9;rfl)
    try any_goals (exfalso;omega)
    all_goals exact hT▸kR (t:=⟨Z6 (x9 u6 s i),[],x9 u6 s i,0,false,0,0⟩) hlen (fun h fr hk=>hg _ h r1 fr hk) (fun h fr h1 h2=>ho _ h fr h1 h2)
  . rw [if_pos (by omega)] at eu;repeat' first|apply j2|exact q7|exact j8 rfl|(apply j7;rfl;rfl)|(apply j9;rfl;rfl;rfl)|(apply s6;rfl;rfl)|(apply y9;rfl;(with_reducible rfl);rfl)|(apply y0;rfl;(with_reducible rfl);rfl)|(apply x7;rfl;rfl;rfl;assumption)|(apply C7;rfl;rfl)|(apply m6;rfl;rfl)|(apply s9;rfl;rfl)|(apply l5;rfl;rfl)|(apply u1;rfl;rfl;rfl;rfl;exact u4 (by first | exact rfl | assumption | exact j0 (by assumption)))|(apply t8;rfl;rfl;(assumption);rfl)|(apply q6 (hc:=h24);rfl;rfl;rfl)|(apply q6 (hc:=h25);rfl;rfl;rfl)|(apply q6 (hc:=h27);rfl;rfl;rfl)|(apply q6 (hc:=h30);rfl;rfl;rfl)|(apply b7 (hc:=⟨hrun.run⟩);rfl;rfl;(exact rfl);rfl;(exact q7);rintro H1 ⟨r1,k1⟩)|(apply b7 (hc:=⟨(bH r1 h64 hst).run⟩);rfl;rfl;(exact rfl);rfl;(exact q7);rintro H1 ⟨r1,k1⟩)|(apply w8;focus (repeat (first | exact q8 | (apply v6;rfl) | (apply D6;rfl;rfl) | (apply d6;rfl) | (apply y6;rfl))))|apply j1|apply j3|apply j4|apply x3|apply v8|apply w9|apply o0|apply o7|(apply m5;rfl;(with_reducible rfl))|(apply g9;rfl;(with_reducible rfl))|(apply v7;rfl)|(apply x8;rfl;(with_reducible rfl))|(apply l4;rfl;(with_reducible rfl))|(apply y7;rfl)|(apply o6;(exact rfl))|(with_reducible first|exact G1|apply F9|apply s4|apply s5)|(with_reducible (first|apply u7|apply g8);intro hc)|(apply f8;rfl)|(apply o8;rfl)|(apply P7;rfl)|(apply f9;rfl)
    try any_goals (exfalso;omega)
    all_goals exact hbad _ _ _ _ eu _ rfl (congrArg (fun u=>WV.lbox (some 4) (.c u)) (qZ (rF s i 3 _ (by decide))))
end Go.Proofs.TryzL
namespace Go.Proofs.TryzL
open Go.Proofs.Lz
set_option maxHeartbeats 4000000
theorem j71 {H:q9} {s:List UInt8} {id i:Nat} {c:UInt8} {t6:CV} {N:f4} {B:Hs} {R:RP} (hH:ScH id (j5 s i) H) (hc:s[i]?=some c) (hl:s.length<2^30) (hlen:([]:List Tok).length<=16384)
 (hgo:∀ op q t n e H',b8 s i c=.tok op q t n e->([]:List Tok).length+1<=16384->ScH id (j5 s e) H'->∀ fr,KpL [0,3,4,5,6] fr [0,3,4,5,6] (l7 s id (([]:List Tok)++[⟨op,q,t,n,false,(plc s i).1,(plc s i).2⟩]) (E6 ⟨op,q,t,n,false,(plc s i).1,(plc s i).2⟩))->R.go 0 fr H')
 (hover:∀ op q t n e H',b8 s i c=.tok op q t n e->16384<=([]:List Tok).length->∀ fr:WFr,fr.env 2=.nils->fr.env 3=.lbox (some 4) (.c (i7 3 [] (plc s i).1 (plc s i).2))->R.ret fr H')
 (hbad:∀ code p nm H',b8 s i c=.bad code p nm->∀ fr:WFr,fr.env 2=.nils->fr.env 3=.lbox (some 4) (.c (i7 code nm (plc s p).1 (plc s p).2))->R.ret fr H')
 (hcl:¬ (upperB c||lowerB c)=true) (hd:¬ t7 c=true) (hq:¬ (c=39\/c=34)) (hs:¬ u6 c=true) (hp:spS.contains c=true) :
   WP Vv E9 (FL (l7 s id ([]:List Tok) t6) []) H N B R:=by
  have hH0:H[id]?=some (.var (some 8) (scC (j5 s i))):=hH;have h0:s[(j5 s i).pos]?=some c:=hc;have hlt:i<s.length:=(gEs hc).1;have h24:=O0 c;have h25:=V9 c;have h27:=Q9 c;unfold E9 lexP3 lexP4 lexP5 l7;generalize hT:P6=T;have hup:upperB c=false:=Bool.eq_false_iff.2 (fun h=>hcl (by rw [h];rfl));have hlo:lowerB c=false:=Bool.eq_false_iff.2 (fun h=>hcl (by rw [h];exact Bool.or_true _));rw [hup] at h24;rw [hlo] at h25;rw [Bool.eq_false_iff.2 hd] at h27;have hxj:j5 (j5 s i).src (j5 s i).pos=j5 s i:=rfl;have hj1:(j5 s i).pos+1<=(j5 s i).src.length:=by show i+1<=s.length;omega
  have hjp:(j5 s i).pos<=(j5 s i).src.length:=by show i<=s.length;omega
  have hl50:(j5 s i).src.length<2^50:=by show s.length<_;omega
  have hl60:(j5 s i).src.length<2^60:=by show s.length<_;omega
  have hq1:¬ (c.toNat:Int)=39:=fun h=>hq (.inl (Classical.byContradiction fun e=>R9 e h));have hq2:¬ (c.toNat:Int)=34:=fun h=>hq (.inr (Classical.byContradiction fun e=>R9 e h));have h30:=vD c;rw [Bool.eq_false_iff.2 hs] at h30;have h35:=uI spS c;have hge:0<=Lib.indexByte spS c:=of_decide_eq_true (by rw [yK];exact hp);have eu:b8 s i c=.tok 8 [] [c] 0 (i+1):=by unfold b8;rw [if_neg hcl,if_neg hd,if_neg hq,if_neg hs,if_pos hp]
  have hg:=fun H'=>hgo _ _ _ _ _ H' eu;have ho:=fun H'=>hover _ _ _ _ _ H' eu;repeat' first|apply j2|exact q7|exact j8 rfl|(apply j7;rfl;rfl)|(apply b6;rfl;rfl;omega)|(apply yR;rfl;rfl;rfl;assumption)|(apply j9;rfl;rfl;rfl)|(apply s6;rfl;rfl)|(apply y9;rfl;(with_reducible rfl);rfl)|(apply y0;rfl;(with_reducible rfl);rfl)|(apply x7;rfl;rfl;rfl;assumption)|(apply l6;rfl;rfl;rfl)|(apply m6;rfl;rfl)|(apply s9;rfl;rfl)|(apply l5;rfl;rfl)|(apply u1;rfl;rfl;rfl;rfl;exact u4 (by first | exact rfl | assumption | exact j0 (by assumption)))|(apply t8;rfl;rfl;(assumption);rfl)|(apply q6 (hc:=h24);rfl;rfl;rfl)|(apply q6 (hc:=h25);rfl;rfl;rfl)|(apply q6 (hc:=h27);rfl;rfl;rfl)|(apply q6 (hc:=h30);rfl;rfl;rfl)|(apply q6 (hc:=h35);rfl;rfl;rfl)|(apply b7 (hc:=⟨(adv (n:=1) hxj hH hj1 hl50).run⟩);rfl;rfl;(exact rfl);rfl;(exact j8 rfl);rintro H1 ⟨r1,k1⟩)|(apply w8;focus (repeat (first | exact q8 | (apply v6;rfl) | (apply F7;rfl) | (apply d6;rfl) | (apply y6;rfl))))|apply j1|apply j3|apply j4|apply x3|apply v8|apply o0|apply o7|(apply m5;rfl;(with_reducible rfl))|(apply g9;rfl;(with_reducible rfl))|(apply v7;rfl)|(apply x8;rfl;(with_reducible rfl))|(apply l4;rfl;(with_reducible rfl))|(apply y7;rfl)|(apply o6;(exact rfl))|(with_reducible first|exact C2|apply C3|apply s4|apply s5)|(with_reducible (first|apply u7|apply g8|apply x6|apply x5);intro hc)|(apply f8;rfl)|(apply o8;rfl)|(apply P7;rfl)|(apply Q7)|(apply f9;rfl)
  try any_goals (exfalso;omega)
  all_goals exact hT▸gZ (t:=⟨8,[],[c],0,false,0,0⟩) hlen (fun h fr hk=>hg _ h r1 fr hk) (fun h fr h1 h2=>ho _ h fr h1 h2)
theorem qe1 {H:q9} {s:List UInt8} {id i:Nat} {c:UInt8} {a:Tok} {r:List Tok} {t6:CV} {N:f4} {B:Hs} {R:RP} (hH:ScH id (j5 s i) H) (hc:s[i]?=some c) (hl:s.length<2^30) (hlen:(a::r).length<=16384)
 (hgo:∀ op q t n e H',b8 s i c=.tok op q t n e->(a::r).length+1<=16384->ScH id (j5 s e) H'->∀ fr,KpL [0,3,4,5,6] fr [0,3,4,5,6] (l7 s id ((a::r)++[⟨op,q,t,n,false,(plc s i).1,(plc s i).2⟩]) (E6 ⟨op,q,t,n,false,(plc s i).1,(plc s i).2⟩))->R.go 0 fr H')
 (hover:∀ op q t n e H',b8 s i c=.tok op q t n e->16384<=(a::r).length->∀ fr:WFr,fr.env 2=.nils->fr.env 3=.lbox (some 4) (.c (i7 3 [] (plc s i).1 (plc s i).2))->R.ret fr H')
 (hbad:∀ code p nm H',b8 s i c=.bad code p nm->∀ fr:WFr,fr.env 2=.nils->fr.env 3=.lbox (some 4) (.c (i7 code nm (plc s p).1 (plc s p).2))->R.ret fr H')
 (hcl:¬ (upperB c||lowerB c)=true) (hd:¬ t7 c=true) (hq:¬ (c=39\/c=34)) (hs:¬ u6 c=true) (hp:spS.contains c=true) :
   WP Vv E9 (FL (l7 s id (a::r) t6) []) H N B R:=by
  have hH0:H[id]?=some (.var (some 8) (scC (j5 s i))):=hH;have h0:s[(j5 s i).pos]?=some c:=hc;have hlt:i<s.length:=(gEs hc).1;have h24:=O0 c;have h25:=V9 c;have h27:=Q9 c;unfold E9 lexP3 lexP4 lexP5 l7;generalize hT:P6=T;have hup:upperB c=false:=Bool.eq_false_iff.2 (fun h=>hcl (by rw [h];rfl));have hlo:lowerB c=false:=Bool.eq_false_iff.2 (fun h=>hcl (by rw [h];exact Bool.or_true _));rw [hup] at h24;rw [hlo] at h25;rw [Bool.eq_false_iff.2 hd] at h27;have hxj:j5 (j5 s i).src (j5 s i).pos=j5 s i:=rfl;have hj1:(j5 s i).pos+1<=(j5 s i).src.length:=by show i+1<=s.length;omega
  have hjp:(j5 s i).pos<=(j5 s i).src.length:=by show i<=s.length;omega
  have hl50:(j5 s i).src.length<2^50:=by show s.length<_;omega
  have hl60:(j5 s i).src.length<2^60:=by show s.length<_;omega
  have hq1:¬ (c.toNat:Int)=39:=fun h=>hq (.inl (Classical.byContradiction fun e=>R9 e h));have hq2:¬ (c.toNat:Int)=34:=fun h=>hq (.inr (Classical.byContradiction fun e=>R9 e h));have h30:=vD c;rw [Bool.eq_false_iff.2 hs] at h30;have h35:=uI spS c;have hge:0<=Lib.indexByte spS c:=of_decide_eq_true (by rw [yK];exact hp);have eu:b8 s i c=.tok 8 [] [c] 0 (i+1):=by unfold b8;rw [if_neg hcl,if_neg hd,if_neg hq,if_neg hs,if_pos hp]
  have hg:=fun H'=>hgo _ _ _ _ _ H' eu;have ho:=fun H'=>hover _ _ _ _ _ H' eu;repeat' first|apply j2|exact q7|exact j8 rfl|(apply j7;rfl;rfl)|(apply b6;rfl;rfl;omega)|(apply yR;rfl;rfl;rfl;assumption)|(apply j9;rfl;rfl;rfl)|(apply s6;rfl;rfl)|(apply y9;rfl;(with_reducible rfl);rfl)|(apply y0;rfl;(with_reducible rfl);rfl)|(apply x7;rfl;rfl;rfl;assumption)|(apply l6;rfl;rfl;rfl)|(apply m6;rfl;rfl)|(apply s9;rfl;rfl)|(apply l5;rfl;rfl)|(apply u1;rfl;rfl;rfl;rfl;exact u4 (by first | exact rfl | assumption | exact j0 (by assumption)))|(apply t8;rfl;rfl;(assumption);rfl)|(apply q6 (hc:=h24);rfl;rfl;rfl)|(apply q6 (hc:=h25);rfl;rfl;rfl)|(apply q6 (hc:=h27);rfl;rfl;rfl)|(apply q6 (hc:=h30);rfl;rfl;rfl)|(apply q6 (hc:=h35);rfl;rfl;rfl)|(apply b7 (hc:=⟨(adv (n:=1) hxj hH hj1 hl50).run⟩);rfl;rfl;(exact rfl);rfl;(exact j8 rfl);rintro H1 ⟨r1,k1⟩)|(apply w8;focus (repeat (first | exact q8 | (apply v6;rfl) | (apply D6;rfl;rfl) | (apply d6;rfl) | (apply y6;rfl))))|apply j1|apply j3|apply j4|apply x3|apply v8|apply o0|apply o7|(apply m5;rfl;(with_reducible rfl))|(apply g9;rfl;(with_reducible rfl))|(apply v7;rfl)|(apply x8;rfl;(with_reducible rfl))|(apply l4;rfl;(with_reducible rfl))|(apply y7;rfl)|(apply o6;(exact rfl))|(with_reducible first|exact C2|apply C3|apply s4|apply s5)|(with_reducible (first|apply u7|apply g8|apply x6|apply x5);intro hc)|(apply f8;rfl)|(apply o8;rfl)|(apply P7;rfl)|(apply Q7)|(apply f9;rfl)
  try any_goals (exfalso;omega)
  all_goals exact hT▸kR (t:=⟨8,[],[c],0,false,0,0⟩) hlen (fun h fr hk=>hg _ h r1 fr hk) (fun h fr h1 h2=>ho _ h fr h1 h2)
end Go.Proofs.TryzL
namespace Go.Proofs.TryzL
open Go.Proofs.Lz
set_option maxHeartbeats 4000000
theorem ql2 {H:q9} {s:List UInt8} {id i:Nat} {c:UInt8} {t6:CV} {N:f4} {B:Hs} {R:RP} (hH:ScH id (j5 s i) H) (hc:s[i]?=some c) (hl:s.length<2^30) (hlen:([]:List Tok).length<=16384)
 (hgo:∀ op q t n e H',b8 s i c=.tok op q t n e->([]:List Tok).length+1<=16384->ScH id (j5 s e) H'->∀ fr,KpL [0,3,4,5,6] fr [0,3,4,5,6] (l7 s id (([]:List Tok)++[⟨op,q,t,n,false,(plc s i).1,(plc s i).2⟩]) (E6 ⟨op,q,t,n,false,(plc s i).1,(plc s i).2⟩))->R.go 0 fr H')
 (hover:∀ op q t n e H',b8 s i c=.tok op q t n e->16384<=([]:List Tok).length->∀ fr:WFr,fr.env 2=.nils->fr.env 3=.lbox (some 4) (.c (i7 3 [] (plc s i).1 (plc s i).2))->R.ret fr H')
 (hbad:∀ code p nm H',b8 s i c=.bad code p nm->∀ fr:WFr,fr.env 2=.nils->fr.env 3=.lbox (some 4) (.c (i7 code nm (plc s p).1 (plc s p).2))->R.ret fr H')
 (hcl:¬ (upperB c||lowerB c)=true) (hd:¬ t7 c=true) (hq:¬ (c=39\/c=34)) (hs:¬ u6 c=true) (hp:¬ spS.contains c=true) :
   WP Vv E9 (FL (l7 s id ([]:List Tok) t6) []) H N B R:=by
  have hH0:H[id]?=some (.var (some 8) (scC (j5 s i))):=hH;have h0:s[(j5 s i).pos]?=some c:=hc;have hlt:i<s.length:=(gEs hc).1;have h24:=O0 c;have h25:=V9 c;have h27:=Q9 c;unfold E9 lexP3 lexP4 lexP5 l7;generalize hT:P6=T;have hup:upperB c=false:=Bool.eq_false_iff.2 (fun h=>hcl (by rw [h];rfl));have hlo:lowerB c=false:=Bool.eq_false_iff.2 (fun h=>hcl (by rw [h];exact Bool.or_true _));rw [hup] at h24;rw [hlo] at h25;rw [Bool.eq_false_iff.2 hd] at h27;have hxj:j5 (j5 s i).src (j5 s i).pos=j5 s i:=rfl;have hj1:(j5 s i).pos+1<=(j5 s i).src.length:=by show i+1<=s.length;omega
  have hjp:(j5 s i).pos<=(j5 s i).src.length:=by show i<=s.length;omega
  have hl50:(j5 s i).src.length<2^50:=by show s.length<_;omega
  have hl60:(j5 s i).src.length<2^60:=by show s.length<_;omega
  have hq1:¬ (c.toNat:Int)=39:=fun h=>hq (.inl (Classical.byContradiction fun e=>R9 e h));have hq2:¬ (c.toNat:Int)=34:=fun h=>hq (.inr (Classical.byContradiction fun e=>R9 e h));have h30:=vD c;rw [Bool.eq_false_iff.2 hs] at h30;have h35:=uI spS c;have hge:¬ 0<=Lib.indexByte spS c:=fun h=>hp (by rw [<-yK];exact decide_eq_true h);have eu:b8 s i c=.bad 5 i []:=by unfold b8;rw [if_neg hcl,if_neg hd,if_neg hq,if_neg hs,if_neg hp]
  obtain ⟨H',a1,⟨y,hy,hf⟩,hk⟩:=(qH hxj hH 5 (by decide)).run;have hcall:Shr Vv 36 [.ptr id 0,.c (.int .i64 (5:Nat)),.c (.str [])] H (.c (.bool false)) (fun H'=>ScH id y H'/\KpH id H H'):=⟨H',a1,hy,hk⟩;repeat' first|apply j2|exact q7|exact j8 rfl|(apply j7;rfl;rfl)|(apply b6;rfl;rfl;omega)|(apply yR;rfl;rfl;rfl;assumption)|(apply j9;rfl;rfl;rfl)|(apply s6;rfl;rfl)|(apply y9;rfl;(with_reducible rfl);rfl)|(apply y0;rfl;(with_reducible rfl);rfl)|(apply x7;rfl;rfl;rfl;assumption)|(apply l6;rfl;rfl;rfl)|(apply C7;rfl;rfl)|(apply m6;rfl;rfl)|(apply s9;rfl;rfl)|(apply l5;rfl;rfl)|(apply u1;rfl;rfl;rfl;rfl;exact u4 (by first | exact rfl | assumption | exact j0 (by assumption)))|(apply t8;rfl;rfl;(assumption);rfl)|(apply q6 (hc:=h24);rfl;rfl;rfl)|(apply q6 (hc:=h25);rfl;rfl;rfl)|(apply q6 (hc:=h27);rfl;rfl;rfl)|(apply q6 (hc:=h30);rfl;rfl;rfl)|(apply q6 (hc:=h35);rfl;rfl;rfl)|(apply b7 (hc:=⟨hcall.run⟩);rfl;rfl;(exact rfl);rfl;(exact q7);rintro H1 ⟨r1,k1⟩)|(apply w8;focus (repeat (first | exact q8 | (apply v6;rfl) | (apply F7;rfl) | (apply d6;rfl) | (apply y6;rfl))))|apply j1|apply j3|apply j4|apply x3|apply w9|apply o0|apply o7|(apply m5;rfl;(with_reducible rfl))|(apply g9;rfl;(with_reducible rfl))|(apply v7;rfl)|(apply x8;rfl;(with_reducible rfl))|(apply l4;rfl;(with_reducible rfl))|(apply y7;rfl)|(apply o6;(exact rfl))|(with_reducible first|exact G1|apply F9|apply s4|apply s5)|(with_reducible (first|apply u7|apply g8|apply x6|apply x5);intro hc)|(apply f8;rfl)|(apply o8;rfl)|(apply P7;rfl)|(apply Q7)|(apply f9;rfl)
  try any_goals (exfalso;omega)
  all_goals exact hbad _ _ _ _ eu _ rfl (congrArg (fun u=>WV.lbox (some 4) (.c u)) (qZ hf))
theorem q20 {H:q9} {s:List UInt8} {id i:Nat} {c:UInt8} {a:Tok} {r:List Tok} {t6:CV} {N:f4} {B:Hs} {R:RP} (hH:ScH id (j5 s i) H) (hc:s[i]?=some c) (hl:s.length<2^30) (hlen:(a::r).length<=16384)
 (hgo:∀ op q t n e H',b8 s i c=.tok op q t n e->(a::r).length+1<=16384->ScH id (j5 s e) H'->∀ fr,KpL [0,3,4,5,6] fr [0,3,4,5,6] (l7 s id ((a::r)++[⟨op,q,t,n,false,(plc s i).1,(plc s i).2⟩]) (E6 ⟨op,q,t,n,false,(plc s i).1,(plc s i).2⟩))->R.go 0 fr H')
 (hover:∀ op q t n e H',b8 s i c=.tok op q t n e->16384<=(a::r).length->∀ fr:WFr,fr.env 2=.nils->fr.env 3=.lbox (some 4) (.c (i7 3 [] (plc s i).1 (plc s i).2))->R.ret fr H')
 (hbad:∀ code p nm H',b8 s i c=.bad code p nm->∀ fr:WFr,fr.env 2=.nils->fr.env 3=.lbox (some 4) (.c (i7 code nm (plc s p).1 (plc s p).2))->R.ret fr H')
 (hcl:¬ (upperB c||lowerB c)=true) (hd:¬ t7 c=true) (hq:¬ (c=39\/c=34)) (hs:¬ u6 c=true) (hp:¬ spS.contains c=true) :
   WP Vv E9 (FL (l7 s id (a::r) t6) []) H N B R:=by
  have hH0:H[id]?=some (.var (some 8) (scC (j5 s i))):=hH;have h0:s[(j5 s i).pos]?=some c:=hc;have hlt:i<s.length:=(gEs hc).1;have h24:=O0 c;have h25:=V9 c;have h27:=Q9 c;unfold E9 lexP3 lexP4 lexP5 l7;generalize hT:P6=T;have hup:upperB c=false:=Bool.eq_false_iff.2 (fun h=>hcl (by rw [h];rfl));have hlo:lowerB c=false:=Bool.eq_false_iff.2 (fun h=>hcl (by rw [h];exact Bool.or_true _));rw [hup] at h24;rw [hlo] at h25;rw [Bool.eq_false_iff.2 hd] at h27;have hxj:j5 (j5 s i).src (j5 s i).pos=j5 s i:=rfl;have hj1:(j5 s i).pos+1<=(j5 s i).src.length:=by show i+1<=s.length;omega
  have hjp:(j5 s i).pos<=(j5 s i).src.length:=by show i<=s.length;omega
  have hl50:(j5 s i).src.length<2^50:=by show s.length<_;omega
  have hl60:(j5 s i).src.length<2^60:=by show s.length<_;omega
  have hq1:¬ (c.toNat:Int)=39:=fun h=>hq (.inl (Classical.byContradiction fun e=>R9 e h));have hq2:¬ (c.toNat:Int)=34:=fun h=>hq (.inr (Classical.byContradiction fun e=>R9 e h));have h30:=vD c;rw [Bool.eq_false_iff.2 hs] at h30;have h35:=uI spS c;have hge:¬ 0<=Lib.indexByte spS c:=fun h=>hp (by rw [<-yK];exact decide_eq_true h);have eu:b8 s i c=.bad 5 i []:=by unfold b8;rw [if_neg hcl,if_neg hd,if_neg hq,if_neg hs,if_neg hp]
  obtain ⟨H',a1,⟨y,hy,hf⟩,hk⟩:=(qH hxj hH 5 (by decide)).run;have hcall:Shr Vv 36 [.ptr id 0,.c (.int .i64 (5:Nat)),.c (.str [])] H (.c (.bool false)) (fun H'=>ScH id y H'/\KpH id H H'):=⟨H',a1,hy,hk⟩;repeat' first|apply j2|exact q7|exact j8 rfl|(apply j7;rfl;rfl)|(apply b6;rfl;rfl;omega)|(apply yR;rfl;rfl;rfl;assumption)|(apply j9;rfl;rfl;rfl)|(apply s6;rfl;rfl)|(apply y9;rfl;(with_reducible rfl);rfl)|(apply y0;rfl;(with_reducible rfl);rfl)|(apply x7;rfl;rfl;rfl;assumption)|(apply l6;rfl;rfl;rfl)|(apply C7;rfl;rfl)|(apply m6;rfl;rfl)|(apply s9;rfl;rfl)|(apply l5;rfl;rfl)|(apply u1;rfl;rfl;rfl;rfl;exact u4 (by first | exact rfl | assumption | exact j0 (by assumption)))|(apply t8;rfl;rfl;(assumption);rfl)|(apply q6 (hc:=h24);rfl;rfl;rfl)|(apply q6 (hc:=h25);rfl;rfl;rfl)|(apply q6 (hc:=h27);rfl;rfl;rfl)|(apply q6 (hc:=h30);rfl;rfl;rfl)|(apply q6 (hc:=h35);rfl;rfl;rfl)|(apply b7 (hc:=⟨hcall.run⟩);rfl;rfl;(exact rfl);rfl;(exact q7);rintro H1 ⟨r1,k1⟩)|(apply w8;focus (repeat (first | exact q8 | (apply v6;rfl) | (apply D6;rfl;rfl) | (apply d6;rfl) | (apply y6;rfl))))|apply j1|apply j3|apply j4|apply x3|apply w9|apply o0|apply o7|(apply m5;rfl;(with_reducible rfl))|(apply g9;rfl;(with_reducible rfl))|(apply v7;rfl)|(apply x8;rfl;(with_reducible rfl))|(apply l4;rfl;(with_reducible rfl))|(apply y7;rfl)|(apply o6;(exact rfl))|(with_reducible first|exact G1|apply F9|apply s4|apply s5)|(with_reducible (first|apply u7|apply g8|apply x6|apply x5);intro hc)|(apply f8;rfl)|(apply o8;rfl)|(apply P7;rfl)|(apply Q7)|(apply f9;rfl)
  try any_goals (exfalso;omega)
  all_goals exact hbad _ _ _ _ eu _ rfl (congrArg (fun u=>WV.lbox (some 4) (.c u)) (qZ hf))
end Go.Proofs.TryzL
namespace Go.Proofs.TryzL
open Go.Proofs.Lz
set_option maxHeartbeats 4000000
theorem j13 (s:List UInt8):∀ n j code p,s.length - j<=n->lineS s j=.bad code p->code≠0:=by
 intro n;induction n with
 | zero=>intro j code p hn h;rw [lineS,dif_pos (by omega)] at h;cases h
 | succ n ih=>
   intro j code p hn h;rw [lineS] at h;split at h
   . cases h
   . split at h
     . cases h
     . split at h
       . injection h with h _;omega
       . exact ih _ _ _ (by omega) h
theorem zv6 (s:List UInt8) (i:Nat):∀ n d j code p,s.length - j<=n->cmtS s i d j=.bad code p->code≠0:=by
 intro n;induction n with
 | zero=>intro d j code p hn h;rw [cmtS,dif_pos (by omega)] at h;injection h with h _;omega
 | succ n ih=>
   intro d j code p hn h;rw [cmtS] at h;split at h
   . injection h with h _;omega
   . split at h
     . exact ih _ _ _ _ (by omega) h
     . split at h
       . split at h
         . cases h
         . exact ih _ _ _ _ (by omega) h
       . split at h
         . injection h with h _;omega
         . exact ih _ _ _ _ (by omega) h
theorem z60 {r:KR} (h:∀ code p,r=.bad code p->code≠0) {code p:Nat} {nm:List UInt8} (e:qC r=.bad code p nm):code≠0:=by
 cases r with
 | bad c q=>injection e with e _;subst e;exact h _ _ rfl
 | ok e'=>cases e
theorem nD {s:List UInt8} {i:Nat} {c:UInt8} {code p:Nat} {nm:List UInt8} (h:E3 s i c=some (.bad code p nm)):code≠0:=by
 unfold E3 at h;split at h
 . cases h
 . split at h
   . injection h with h;exact z60 (fun _ _ e=>j13 s _ _ _ _ (Nat.le_refl _) e) h
   . split at h
     . injection h with h;exact z60 (fun _ _ e=>zv6 s i _ _ _ _ _ (Nat.le_refl _) e) h
     . cases h
theorem z92 {s nm:List UInt8} {code p:Nat} {y:Sc} (h:O6 s code p nm y):CV.agg [.int .i64 y.code,.str y.name,.int .i64 y.fl,.int .i64 y.fc]=i7 code nm (plc s p).1 (plc s p).2:=by
 obtain ⟨h1,h2,h3,h4⟩:=h;unfold i7;rw [h1,h2,h3,h4]
theorem qb9 {H:q9} {s:List UInt8} {id i:Nat} {c:UInt8} {t6:CV} {T:ICode} {N:f4} {B:Hs} {R:RP} (hH:ScH id (j5 s i) H) (hc:s[i]?=some c) (hl:s.length<2^30)
 (hskip:∀ e H',E3 s i c=some (.skip e)->ScH id (j5 s e) H'->∀ fr,KpL [0,3,4,5,6] fr [0,3,4,5,6] (l7 s id ([]:List Tok) t6)->R.go 0 fr H')
 (hbad:∀ code p nm H',E3 s i c=some (.bad code p nm)->∀ fr:WFr,fr.env 2=.nils->fr.env 3=.lbox (some 4) (.c (i7 code nm (plc s p).1 (plc s p).2))->R.ret fr H')
 (hno:∀ H',E3 s i c=none->ScH id (j5 s i) H'->WP Vv T (FL (l7 s id ([]:List Tok) t6) []) H' N B R) :
 WP Vv (qK T) (FL (l7 s id ([]:List Tok) t6) []) H N B R:=by
 have hcall:=zm8 hH hc hl;unfold qK lexP1 lexP2 l7;cases hu:E3 s i c with
 | none=>
   rw [hu] at hcall;have hcall:Shr Vv 23 [.ptr id 0] H (.c (.bool false)) (fun H'=>ScH id (j5 s i) H'/\KpH id H H'):=hcall;repeat' first|apply j2|exact q7|exact j8 rfl|(apply j9;rfl;rfl;rfl)|(apply C7;rfl;rfl)|(apply m6;rfl;rfl)|(apply s9;rfl;rfl)|(apply l5;rfl;rfl)|(apply u1;rfl;rfl;rfl;rfl;exact u4 (by first | exact rfl | assumption | exact j0 (by assumption)))|(apply t8;rfl;rfl;(assumption);rfl)|(apply b7 (hc:=⟨hcall.run⟩);rfl;rfl;(exact rfl);rfl;(exact q7);rintro H1 ⟨r1,k1⟩)|(apply w8;focus (repeat (first | exact q8 | (apply v6;rfl) | (apply F7;rfl) | (apply d6;rfl) | (apply y6;rfl))))|apply j1|apply j3|apply j4|apply v8|apply w9|apply o0|apply o7|(apply g9;rfl;(with_reducible rfl))|(apply v7;rfl)|(apply o6;(exact rfl))|(with_reducible (first|apply f5|apply f6);intro hc)|(apply f8;rfl)|(apply o8;rfl)|(apply P7;rfl)|(apply f9;rfl)
   try any_goals (exfalso;exact hc rfl)
   all_goals exact hno _ hu r1
 | some u=>
   rw [hu] at hcall;cases u with
   | tok op q t n e=>obtain ⟨H',_,⟨y,_,h⟩,_⟩:=hcall.run;exact h.elim
   | skip e=>
     obtain ⟨H',a1,⟨y,hy,hf⟩,hk⟩:=hcall.run;have hf:y=j5 s e:=hf;subst hf;have hcall:Shr Vv 23 [.ptr id 0] H (.c (.bool true)) (fun H'=>ScH id (j5 s e) H'/\KpH id H H'):=⟨H',a1,hy,hk⟩;repeat' first|apply j2|exact j8 rfl|(apply m6;rfl;rfl)|(apply b7 (hc:=⟨hcall.run⟩);rfl;rfl;(exact rfl);rfl;(exact q7);rintro H1 ⟨r1,k1⟩)|(apply w8;focus (repeat (first | exact q8 | (apply v6;rfl) | (apply F7;rfl) | (apply d6;rfl) | (apply y6;rfl))))|apply j1|apply j3|apply j4|(apply m5;rfl;(with_reducible rfl))
     refine dV (hskip e _ hu r1 _ ?_);unfold l7;repeat' first|exact q8|refine d5 rfl ?_
   | bad code p nm=>
     obtain ⟨H',a1,⟨y,hy,hf⟩,hk⟩:=hcall.run;have hf:O6 s code p nm y:=hf;have hcall:Shr Vv 23 [.ptr id 0] H (.c (.bool false)) (fun H'=>ScH id y H'/\KpH id H H'):=⟨H',a1,hy,hk⟩;have hcd:¬ ((y.code:Nat):Int)=0:=by have h1:=nD hu;have h2:y.code=code:=hf.1;omega
     repeat' first|apply j2|exact q7|exact j8 rfl|(apply j9;rfl;rfl;rfl)|(apply C7;rfl;rfl)|(apply m6;rfl;rfl)|(apply s9;rfl;rfl)|(apply l5;rfl;rfl)|(apply u1;rfl;rfl;rfl;rfl;exact u4 (by first | exact rfl | assumption | exact j0 (by assumption)))|(apply t8;rfl;rfl;(assumption);rfl)|(apply b7 (hc:=⟨hcall.run⟩);rfl;rfl;(exact rfl);rfl;(exact q7);rintro H1 ⟨r1,k1⟩)|(apply w8;focus (repeat (first | exact q8 | (apply v6;rfl) | (apply F7;rfl) | (apply d6;rfl) | (apply y6;rfl))))|apply j1|apply j3|apply j4|apply v8|apply w9|apply o0|apply o7|(apply g9;rfl;(with_reducible rfl))|(apply v7;rfl)|(apply o6;(exact rfl))|(with_reducible (first|apply f5|apply f6);intro hc)|(apply f8;rfl)|(apply o8;rfl)|(apply P7;rfl)|(apply f9;rfl)
     try any_goals (exfalso;contradiction)
     all_goals exact hbad _ _ _ _ hu _ rfl (congrArg (fun u=>WV.lbox (some 4) (.c u)) (z92 hf))
theorem j27 {H:q9} {s:List UInt8} {id i:Nat} {c:UInt8} {a:Tok} {r:List Tok} {t6:CV} {T:ICode} {N:f4} {B:Hs} {R:RP} (hH:ScH id (j5 s i) H) (hc:s[i]?=some c) (hl:s.length<2^30)
 (hskip:∀ e H',E3 s i c=some (.skip e)->ScH id (j5 s e) H'->∀ fr,KpL [0,3,4,5,6] fr [0,3,4,5,6] (l7 s id (a::r) t6)->R.go 0 fr H')
 (hbad:∀ code p nm H',E3 s i c=some (.bad code p nm)->∀ fr:WFr,fr.env 2=.nils->fr.env 3=.lbox (some 4) (.c (i7 code nm (plc s p).1 (plc s p).2))->R.ret fr H')
 (hno:∀ H',E3 s i c=none->ScH id (j5 s i) H'->WP Vv T (FL (l7 s id (a::r) t6) []) H' N B R) :
 WP Vv (qK T) (FL (l7 s id (a::r) t6) []) H N B R:=by
 have hcall:=zm8 hH hc hl;unfold qK lexP1 lexP2 l7;cases hu:E3 s i c with
 | none=>
   rw [hu] at hcall;have hcall:Shr Vv 23 [.ptr id 0] H (.c (.bool false)) (fun H'=>ScH id (j5 s i) H'/\KpH id H H'):=hcall;repeat' first|apply j2|exact q7|exact j8 rfl|(apply j9;rfl;rfl;rfl)|(apply C7;rfl;rfl)|(apply m6;rfl;rfl)|(apply s9;rfl;rfl)|(apply l5;rfl;rfl)|(apply u1;rfl;rfl;rfl;rfl;exact u4 (by first | exact rfl | assumption | exact j0 (by assumption)))|(apply t8;rfl;rfl;(assumption);rfl)|(apply b7 (hc:=⟨hcall.run⟩);rfl;rfl;(exact rfl);rfl;(exact q7);rintro H1 ⟨r1,k1⟩)|(apply w8;focus (repeat (first | exact q8 | (apply v6;rfl) | (apply D6;rfl;rfl) | (apply d6;rfl) | (apply y6;rfl))))|apply j1|apply j3|apply j4|apply v8|apply w9|apply o0|apply o7|(apply g9;rfl;(with_reducible rfl))|(apply v7;rfl)|(apply o6;(exact rfl))|(with_reducible (first|apply f5|apply f6);intro hc)|(apply f8;rfl)|(apply o8;rfl)|(apply P7;rfl)|(apply f9;rfl)
   try any_goals (exfalso;exact hc rfl)
   all_goals exact hno _ hu r1
 | some u=>
   rw [hu] at hcall;cases u with
   | tok op q t n e=>obtain ⟨H',_,⟨y,_,h⟩,_⟩:=hcall.run;exact h.elim
   | skip e=>
     obtain ⟨H',a1,⟨y,hy,hf⟩,hk⟩:=hcall.run;have hf:y=j5 s e:=hf;subst hf;have hcall:Shr Vv 23 [.ptr id 0] H (.c (.bool true)) (fun H'=>ScH id (j5 s e) H'/\KpH id H H'):=⟨H',a1,hy,hk⟩;repeat' first|apply j2|exact j8 rfl|(apply m6;rfl;rfl)|(apply b7 (hc:=⟨hcall.run⟩);rfl;rfl;(exact rfl);rfl;(exact q7);rintro H1 ⟨r1,k1⟩)|(apply w8;focus (repeat (first | exact q8 | (apply v6;rfl) | (apply D6;rfl;rfl) | (apply d6;rfl) | (apply y6;rfl))))|apply j1|apply j3|apply j4|(apply m5;rfl;(with_reducible rfl))
     refine dV (hskip e _ hu r1 _ ?_);unfold l7;repeat' first|exact q8|refine d5 rfl ?_
   | bad code p nm=>
     obtain ⟨H',a1,⟨y,hy,hf⟩,hk⟩:=hcall.run;have hf:O6 s code p nm y:=hf;have hcall:Shr Vv 23 [.ptr id 0] H (.c (.bool false)) (fun H'=>ScH id y H'/\KpH id H H'):=⟨H',a1,hy,hk⟩;have hcd:¬ ((y.code:Nat):Int)=0:=by have h1:=nD hu;have h2:y.code=code:=hf.1;omega
     repeat' first|apply j2|exact q7|exact j8 rfl|(apply j9;rfl;rfl;rfl)|(apply C7;rfl;rfl)|(apply m6;rfl;rfl)|(apply s9;rfl;rfl)|(apply l5;rfl;rfl)|(apply u1;rfl;rfl;rfl;rfl;exact u4 (by first | exact rfl | assumption | exact j0 (by assumption)))|(apply t8;rfl;rfl;(assumption);rfl)|(apply b7 (hc:=⟨hcall.run⟩);rfl;rfl;(exact rfl);rfl;(exact q7);rintro H1 ⟨r1,k1⟩)|(apply w8;focus (repeat (first | exact q8 | (apply v6;rfl) | (apply D6;rfl;rfl) | (apply d6;rfl) | (apply y6;rfl))))|apply j1|apply j3|apply j4|apply v8|apply w9|apply o0|apply o7|(apply g9;rfl;(with_reducible rfl))|(apply v7;rfl)|(apply o6;(exact rfl))|(with_reducible (first|apply f5|apply f6);intro hc)|(apply f8;rfl)|(apply o8;rfl)|(apply P7;rfl)|(apply f9;rfl)
     try any_goals (exfalso;contradiction)
     all_goals exact hbad _ _ _ _ hu _ rfl (congrArg (fun u=>WV.lbox (some 4) (.c u)) (z92 hf))
end Go.Proofs.TryzL
