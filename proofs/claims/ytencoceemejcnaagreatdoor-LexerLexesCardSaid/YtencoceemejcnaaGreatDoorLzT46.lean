/- Chapter 02: a turn of Lex that gives a token. -/
import Derived.Test.YtencoceemejcnaaGreatDoorLzT43
set_option linter.unusedSimpArgs false
set_option linter.unusedVariables false
namespace Go.Proofs.TryzL
open Go.Proofs.Lz
set_option maxHeartbeats 4000000
def zF:CV:=.agg [.int .i64 0,.str [],.int .i64 0,.int .i64 0]
def i7 (code:Int) (nm:List UInt8) (line col:Int):CV:=.agg [.int .i64 code,.str nm,.int .i64 line,.int .i64 col]
def O4:List Tok->WV
 | []=>.nils
 | t::r=>.own true 38 (some 7) ((t::r).map E6)
def l7 (s:List UInt8) (id:Nat) (acc:List Tok) (t:CV):List (Nat×WV):=[(0,.c (.str s)),(3,.lbox (some 4) (.c zF)),(4,.ptr id 0),(5,O4 acc),(6,.lbox (some 7) (.c t))]
theorem z87 (a t:Tok) (r:List Tok):O4 (a::r++[t])=.own true 38 (some 7) ((a::r).map E6++[E6 t]):=by simp [O4]
theorem gZ {H:q9} {s:List UInt8} {id:Nat} {t:Tok} {line col:Int} {N:f4} {B:Hs} {R:RP} (hlen:([]:List Tok).length<=16384)
 (hgo:([]:List Tok).length+1<=16384->∀ fr,KpL [0,3,4,5,6] fr [0,3,4,5,6] (l7 s id (([]:List Tok)++[⟨t.op,t.qual,t.text,t.n,t.auto,line,col⟩]) (E6 ⟨t.op,t.qual,t.text,t.n,t.auto,line,col⟩))->R.go 0 fr H)
 (hbad:16384<=([]:List Tok).length->∀ fr:WFr,fr.env 2=.nils->fr.env 3=.lbox (some 4) (.c (i7 3 [] line col))->R.ret fr H) :
 WP Vv P6 (FL [(0,.c (.str s)),(3,.lbox (some 4) (.c zF)),(4,.ptr id 0),(5,O4 ([]:List Tok)),(6,.lbox (some 7) (.c (E6 t))),(8,.c (.int .i64 line)),(9,.c (.int .i64 col))] []) H N B R:=by
 unfold P6 lexP6 lexP7 lexP8;repeat' first|apply j2|exact q7|exact j8 rfl|exact dX rfl rfl|(apply j7;rfl;rfl)|(apply C5;rfl;rfl;rfl)|(apply j9;rfl;rfl;rfl)|(apply jI;rfl)|(apply l6;rfl;rfl;rfl)|(apply zO;(iterate 6 rfl))|(apply C7;rfl;rfl)|(apply zC;rfl;rfl;rfl)|(apply D9;rfl;exact E2 rfl)|(apply u1;rfl;rfl;rfl;rfl;exact u4 (by first | exact rfl | assumption | exact j0 (by assumption)))|(apply kW;(iterate 8 rfl);exact pC (by first | exact rfl | assumption | exact j0 (by assumption)))|(apply kB;rfl;rfl;(omega))|(apply w8;focus (repeat (first | exact q8 | (apply v6;rfl) | (apply F7;rfl) | (apply d6;rfl) | (apply y6;rfl))))|apply j1|apply j3|apply j4|apply v8|apply w9|(apply v7;rfl)|(with_reducible (first|apply x6|apply x5);intro hc)
 try any_goals (exfalso;omega)
 . refine dV (hgo (by simp) _ ?_);unfold l7;repeat' first|exact q8|refine d5 rfl ?_
theorem kR {H:q9} {s:List UInt8} {id:Nat} {a:Tok} {r:List Tok} {t:Tok} {line col:Int} {N:f4} {B:Hs} {R:RP} (hlen:(a::r).length<=16384)
 (hgo:(a::r).length+1<=16384->∀ fr,KpL [0,3,4,5,6] fr [0,3,4,5,6] (l7 s id ((a::r)++[⟨t.op,t.qual,t.text,t.n,t.auto,line,col⟩]) (E6 ⟨t.op,t.qual,t.text,t.n,t.auto,line,col⟩))->R.go 0 fr H)
 (hbad:16384<=(a::r).length->∀ fr:WFr,fr.env 2=.nils->fr.env 3=.lbox (some 4) (.c (i7 3 [] line col))->R.ret fr H) :
 WP Vv P6 (FL [(0,.c (.str s)),(3,.lbox (some 4) (.c zF)),(4,.ptr id 0),(5,O4 (a::r)),(6,.lbox (some 7) (.c (E6 t))),(8,.c (.int .i64 line)),(9,.c (.int .i64 col))] []) H N B R:=by
 unfold P6 lexP6 lexP7 lexP8;have ht2:r.length+1<=16384:=hlen;repeat' first|apply j2|exact q7|exact j8 rfl|exact dX rfl rfl|(apply j7;rfl;rfl)|(apply C5;rfl;rfl;rfl)|(apply j9;rfl;rfl;rfl)|(apply Z3;rfl)|(apply l6;rfl;rfl;rfl)|(apply zO;(iterate 6 rfl))|(apply C7;rfl;rfl)|(apply zC;rfl;rfl;rfl)|(apply P0;rfl;rfl;rfl)|(apply D9;rfl;exact E2 rfl)|(apply u1;rfl;rfl;rfl;rfl;exact u4 (by first | exact rfl | assumption | exact j0 (by assumption)))|(apply kW;(iterate 8 rfl);exact pC (by first | exact rfl | assumption | exact j0 (by assumption)))|(apply uO;rfl;rfl;(simp only [List.length_map,List.length_cons,List.length_nil,List.length_append,List.length_replicate];omega))|(apply w8;focus (repeat (first | exact q8 | (apply v6;rfl) | (apply D6;rfl;rfl) | (apply d6;rfl) | (apply y6;rfl))))|apply j1|apply j3|apply j4|apply v8|apply w9|(apply v7;rfl)|(with_reducible (first|apply x6|apply x5);intro hc)
 try any_goals (exfalso;omega)
 . exact hbad (by omega) _ rfl rfl
 . refine dV (hgo (by omega) _ ?_);unfold l7;rw [z87];repeat' first|exact q8|refine d5 rfl ?_
end Go.Proofs.TryzL
namespace Go.Proofs.TryzL
open Go.Proofs.Lz
set_option maxHeartbeats 4000000
def b8 (s:List UInt8) (i:Nat) (c:UInt8):U:=
 if (upperB c||lowerB c)=true then J7 s i
 else if t7 c=true then J6 s i
 else if c=39\/c=34 then I7 s i c
 else if u6 c=true then l9 i [] (x9 u6 s i) (i+(x9 u6 s i).length)
 else if spS.contains c=true then .tok 8 [] [c] 0 (i+1)
 else .bad 5 i []
theorem yB {H:q9} {id f e:Nat} {s q t:List UInt8} {op n:Int} (h:Shr Vv f [.ptr id 0] H (vV (.tok op q t n e)) (wY id H s (.tok op q t n e))):Shr Vv f [.ptr id 0] H (.tup [.c (E6 ⟨op,q,t,n,false,0,0⟩),.c (.bool true)]) (fun H'=>ScH id (j5 s e) H'/\KpH id H H'):=by
 obtain ⟨H',a,⟨y,hy,hf⟩,hk⟩:=h.run;have hf:y=j5 s e:=hf;subst hf;exact ⟨H',a,hy,hk⟩
theorem yD {H:q9} {id f code p:Nat} {s nm:List UInt8} (h:Shr Vv f [.ptr id 0] H (vV (.bad code p nm)) (wY id H s (.bad code p nm))):∃ y,O6 s code p nm y/\Shr Vv f [.ptr id 0] H (.tup [.c T8,.c (.bool false)]) (fun H'=>ScH id y H'/\KpH id H H'):=by
 obtain ⟨H',a,⟨y,hy,hf⟩,hk⟩:=h.run;exact ⟨y,hf,H',a,hy,hk⟩
theorem yW {H:q9} {id f e:Nat} {s:List UInt8} (h:Shr Vv f [.ptr id 0] H (vV (.skip e)) (wY id H s (.skip e))):False:=by
 obtain ⟨H',a,⟨y,hy,hf⟩,hk⟩:=h.run;exact hf
theorem qZ {s nm:List UInt8} {code p:Nat} {y:Sc} (h:O6 s code p nm y):CV.agg [.int .i64 y.code,.str y.name,.int .i64 y.fl,.int .i64 y.fc]=i7 code nm (plc s p).1 (plc s p).2:=by
 obtain ⟨h1,h2,h3,h4⟩:=h;unfold i7;rw [h1,h2,h3,h4]
theorem q84 {H:q9} {s:List UInt8} {id i:Nat} {c:UInt8} {t6:CV} {N:f4} {B:Hs} {R:RP} (hH:ScH id (j5 s i) H) (hc:s[i]?=some c) (hl:s.length<2^30) (hlen:([]:List Tok).length<=16384)
 (hgo:∀ op q t n e H',b8 s i c=.tok op q t n e->([]:List Tok).length+1<=16384->ScH id (j5 s e) H'->∀ fr,KpL [0,3,4,5,6] fr [0,3,4,5,6] (l7 s id (([]:List Tok)++[⟨op,q,t,n,false,(plc s i).1,(plc s i).2⟩]) (E6 ⟨op,q,t,n,false,(plc s i).1,(plc s i).2⟩))->R.go 0 fr H')
 (hover:∀ op q t n e H',b8 s i c=.tok op q t n e->16384<=([]:List Tok).length->∀ fr:WFr,fr.env 2=.nils->fr.env 3=.lbox (some 4) (.c (i7 3 [] (plc s i).1 (plc s i).2))->R.ret fr H')
 (hbad:∀ code p nm H',b8 s i c=.bad code p nm->∀ fr:WFr,fr.env 2=.nils->fr.env 3=.lbox (some 4) (.c (i7 code nm (plc s p).1 (plc s p).2))->R.ret fr H')
 (hcl:(upperB c||lowerB c)=true) :
 WP Vv E9 (FL (l7 s id ([]:List Tok) t6) []) H N B R:=by
 have hH0:H[id]?=some (.var (some 8) (scC (j5 s i))):=hH;have h0:s[(j5 s i).pos]?=some c:=hc;have hlt:i<s.length:=(gEs hc).1;have h24:=O0 c;have h25:=V9 c;have h27:=Q9 c;unfold E9 lexP3 lexP4 lexP5 l7;generalize hT:P6=T;have eu:b8 s i c=J7 s i:=by unfold b8;rw [if_pos hcl]
 have hcall:=name26 (x:=j5 s i) rfl hH hc hcl hl;cases hu:J7 s i with
 | skip e=>have h:=hcall;rw [show J7 (j5 s i).src (j5 s i).pos=.skip e from hu] at h;exact (yW h).elim
 | bad code p nm=>
   rw [show J7 (j5 s i).src (j5 s i).pos=.bad code p nm from hu] at hcall;obtain ⟨y,hy,hcall⟩:=yD hcall;have hb:=hbad code p nm;rw [eu,hu] at hb;repeat' first|apply j2|exact q7|exact j8 rfl|(apply j7;rfl;rfl)|(apply s6;rfl;rfl)|(apply y9;rfl;(with_reducible rfl);rfl)|(apply y0;rfl;(with_reducible rfl);rfl)|(apply x7;rfl;rfl;rfl;assumption)|(apply C7;rfl;rfl)|(apply A9;rfl;rfl;rfl)|(apply m6;rfl;rfl)|(apply s9;rfl;rfl)|(apply l5;rfl;rfl)|(apply u1;rfl;rfl;rfl;rfl;exact u4 (by first | exact rfl | assumption | exact j0 (by assumption)))|(apply A7;rfl;rfl)|(apply t8;rfl;rfl;(assumption);rfl)|(apply q6 (hc:=h24);rfl;rfl;rfl)|(apply q6 (hc:=h25);rfl;rfl;rfl)|(apply b7 (hc:=⟨hcall.run⟩);rfl;rfl;(exact rfl);rfl;(exact j8 rfl);rintro H1 ⟨r1,k1⟩)|(apply w8;focus (repeat (first | exact q8 | (apply v6;rfl) | (apply F7;rfl) | (apply d6;rfl) | (apply y6;rfl))))|apply j1|apply j3|apply j4|apply x3|apply w9|apply o0|apply o7|(apply m5;rfl;(with_reducible rfl))|(apply v7;rfl)|(apply x8;rfl;(with_reducible rfl))|(apply l4;rfl;(with_reducible rfl))|(apply y7;rfl)|(apply o6;(exact rfl))|(with_reducible first|exact G1|apply F9|apply s4|apply s5)|(with_reducible apply C0;intro hc)|(apply f8;rfl)|(apply o8;rfl)|(apply P7;rfl)|(apply f9;rfl)
   try any_goals (exfalso;simp_all;done)
   all_goals exact hb _ rfl _ rfl (congrArg (fun u=>WV.lbox (some 4) (.c u)) (qZ hy))
 | tok op q t n e=>
   rw [show J7 (j5 s i).src (j5 s i).pos=.tok op q t n e from hu] at hcall;have hcall:=yB hcall;have hg:=hgo op q t n e;have ho:=hover op q t n e;rw [eu,hu] at hg ho;repeat' first|apply j2|exact q7|exact j8 rfl|(apply j7;rfl;rfl)|(apply s6;rfl;rfl)|(apply y9;rfl;(with_reducible rfl);rfl)|(apply y0;rfl;(with_reducible rfl);rfl)|(apply x7;rfl;rfl;rfl;assumption)|(apply A9;rfl;rfl;rfl)|(apply m6;rfl;rfl)|(apply s9;rfl;rfl)|(apply l5;rfl;rfl)|(apply u1;rfl;rfl;rfl;rfl;exact u4 (by first | exact rfl | assumption | exact j0 (by assumption)))|(apply A7;rfl;rfl)|(apply t8;rfl;rfl;(assumption);rfl)|(apply q6 (hc:=h24);rfl;rfl;rfl)|(apply q6 (hc:=h25);rfl;rfl;rfl)|(apply b7 (hc:=⟨hcall.run⟩);rfl;rfl;(exact rfl);rfl;(exact j8 rfl);rintro H1 ⟨r1,k1⟩)|(apply w8;focus (repeat (first | exact q8 | (apply v6;rfl) | (apply F7;rfl) | (apply d6;rfl) | (apply y6;rfl))))|apply j1|apply j3|apply j4|apply x3|apply v8|apply o0|apply o7|(apply m5;rfl;(with_reducible rfl))|(apply v7;rfl)|(apply x8;rfl;(with_reducible rfl))|(apply l4;rfl;(with_reducible rfl))|(apply y7;rfl)|(apply o6;(exact rfl))|(with_reducible first|exact C2|apply C3|apply s4|apply s5)|(with_reducible apply C0;intro hc)|(apply f8;rfl)|(apply o8;rfl)|(apply f9;rfl)
   try any_goals (exfalso;simp_all;done)
   all_goals exact hT▸gZ (t:=⟨op,q,t,n,false,0,0⟩) hlen (fun h fr hk=>hg _ rfl h r1 fr hk) (fun h fr h1 h2=>ho _ rfl h fr h1 h2)
theorem qj3 {H:q9} {s:List UInt8} {id i:Nat} {c:UInt8} {t6:CV} {N:f4} {B:Hs} {R:RP} (hH:ScH id (j5 s i) H) (hc:s[i]?=some c) (hl:s.length<2^30) (hlen:([]:List Tok).length<=16384)
 (hgo:∀ op q t n e H',b8 s i c=.tok op q t n e->([]:List Tok).length+1<=16384->ScH id (j5 s e) H'->∀ fr,KpL [0,3,4,5,6] fr [0,3,4,5,6] (l7 s id (([]:List Tok)++[⟨op,q,t,n,false,(plc s i).1,(plc s i).2⟩]) (E6 ⟨op,q,t,n,false,(plc s i).1,(plc s i).2⟩))->R.go 0 fr H')
 (hover:∀ op q t n e H',b8 s i c=.tok op q t n e->16384<=([]:List Tok).length->∀ fr:WFr,fr.env 2=.nils->fr.env 3=.lbox (some 4) (.c (i7 3 [] (plc s i).1 (plc s i).2))->R.ret fr H')
 (hbad:∀ code p nm H',b8 s i c=.bad code p nm->∀ fr:WFr,fr.env 2=.nils->fr.env 3=.lbox (some 4) (.c (i7 code nm (plc s p).1 (plc s p).2))->R.ret fr H')
 (hcl:¬ (upperB c||lowerB c)=true) (hd:t7 c=true) :
 WP Vv E9 (FL (l7 s id ([]:List Tok) t6) []) H N B R:=by
 have hH0:H[id]?=some (.var (some 8) (scC (j5 s i))):=hH;have h0:s[(j5 s i).pos]?=some c:=hc;have hlt:i<s.length:=(gEs hc).1;have h24:=O0 c;have h25:=V9 c;have h27:=Q9 c;unfold E9 lexP3 lexP4 lexP5 l7;generalize hT:P6=T;have eu:b8 s i c=J6 s i:=by unfold b8;rw [if_neg hcl,if_pos hd]
 have hcall:=z35 (x:=j5 s i) rfl hH (by show i<=s.length;omega) hl;have hup:upperB c=false:=Bool.eq_false_iff.2 (fun h=>hcl (by rw [h];rfl));have hlo:lowerB c=false:=Bool.eq_false_iff.2 (fun h=>hcl (by rw [h];exact Bool.or_true _));rw [hup] at h24;rw [hlo] at h25;rw [hd] at h27;cases hu:J6 s i with
 | skip e=>have h:=hcall;rw [show J6 (j5 s i).src (j5 s i).pos=.skip e from hu] at h;exact (yW h).elim
 | bad code p nm=>
   rw [show J6 (j5 s i).src (j5 s i).pos=.bad code p nm from hu] at hcall;obtain ⟨y,hy,hcall⟩:=yD hcall;have hb:=hbad code p nm;rw [eu,hu] at hb;repeat' first|apply j2|exact q7|exact j8 rfl|(apply j7;rfl;rfl)|(apply s6;rfl;rfl)|(apply y0;rfl;(with_reducible rfl);rfl)|(apply x7;rfl;rfl;rfl;assumption)|(apply C7;rfl;rfl)|(apply A9;rfl;rfl;rfl)|(apply m6;rfl;rfl)|(apply s9;rfl;rfl)|(apply l5;rfl;rfl)|(apply u1;rfl;rfl;rfl;rfl;exact u4 (by first | exact rfl | assumption | exact j0 (by assumption)))|(apply A7;rfl;rfl)|(apply t8;rfl;rfl;(assumption);rfl)|(apply q6 (hc:=h24);rfl;rfl;rfl)|(apply q6 (hc:=h25);rfl;rfl;rfl)|(apply q6 (hc:=h27);rfl;rfl;rfl)|(apply b7 (hc:=⟨hcall.run⟩);rfl;rfl;(exact rfl);rfl;(exact j8 rfl);rintro H1 ⟨r1,k1⟩)|(apply w8;focus (repeat (first | exact q8 | (apply v6;rfl) | (apply F7;rfl) | (apply d6;rfl) | (apply y6;rfl))))|apply j1|apply j3|apply j4|apply x3|apply w9|apply o0|apply o7|(apply m5;rfl;(with_reducible rfl))|(apply g9;rfl;(with_reducible rfl))|(apply v7;rfl)|(apply x8;rfl;(with_reducible rfl))|(apply o6;(exact rfl))|(with_reducible first|exact G1|apply F9|apply s4|apply s5)|(apply f8;rfl)|(apply o8;rfl)|(apply P7;rfl)|(apply f9;rfl)
   try any_goals (exfalso;simp_all;done)
   all_goals exact hb _ rfl _ rfl (congrArg (fun u=>WV.lbox (some 4) (.c u)) (qZ hy))
 | tok op q t n e=>
   rw [show J6 (j5 s i).src (j5 s i).pos=.tok op q t n e from hu] at hcall;have hcall:=yB hcall;have hg:=hgo op q t n e;have ho:=hover op q t n e;rw [eu,hu] at hg ho;repeat' first|apply j2|exact q7|exact j8 rfl|(apply j7;rfl;rfl)|(apply s6;rfl;rfl)|(apply y0;rfl;(with_reducible rfl);rfl)|(apply x7;rfl;rfl;rfl;assumption)|(apply A9;rfl;rfl;rfl)|(apply m6;rfl;rfl)|(apply s9;rfl;rfl)|(apply l5;rfl;rfl)|(apply u1;rfl;rfl;rfl;rfl;exact u4 (by first | exact rfl | assumption | exact j0 (by assumption)))|(apply A7;rfl;rfl)|(apply t8;rfl;rfl;(assumption);rfl)|(apply q6 (hc:=h24);rfl;rfl;rfl)|(apply q6 (hc:=h25);rfl;rfl;rfl)|(apply q6 (hc:=h27);rfl;rfl;rfl)|(apply b7 (hc:=⟨hcall.run⟩);rfl;rfl;(exact rfl);rfl;(exact j8 rfl);rintro H1 ⟨r1,k1⟩)|(apply w8;focus (repeat (first | exact q8 | (apply v6;rfl) | (apply F7;rfl) | (apply d6;rfl) | (apply y6;rfl))))|apply j1|apply j3|apply j4|apply x3|apply v8|apply o0|apply o7|(apply m5;rfl;(with_reducible rfl))|(apply g9;rfl;(with_reducible rfl))|(apply v7;rfl)|(apply x8;rfl;(with_reducible rfl))|(apply o6;(exact rfl))|(with_reducible first|exact C2|apply C3|apply s4|apply s5)|(apply f8;rfl)|(apply o8;rfl)|(apply f9;rfl)
   try any_goals (exfalso;simp_all;done)
   all_goals exact hT▸gZ (t:=⟨op,q,t,n,false,0,0⟩) hlen (fun h fr hk=>hg _ rfl h r1 fr hk) (fun h fr h1 h2=>ho _ rfl h fr h1 h2)
theorem zr5 {H:q9} {s:List UInt8} {id i:Nat} {c:UInt8} {a:Tok} {r:List Tok} {t6:CV} {N:f4} {B:Hs} {R:RP} (hH:ScH id (j5 s i) H) (hc:s[i]?=some c) (hl:s.length<2^30) (hlen:(a::r).length<=16384)
 (hgo:∀ op q t n e H',b8 s i c=.tok op q t n e->(a::r).length+1<=16384->ScH id (j5 s e) H'->∀ fr,KpL [0,3,4,5,6] fr [0,3,4,5,6] (l7 s id ((a::r)++[⟨op,q,t,n,false,(plc s i).1,(plc s i).2⟩]) (E6 ⟨op,q,t,n,false,(plc s i).1,(plc s i).2⟩))->R.go 0 fr H')
 (hover:∀ op q t n e H',b8 s i c=.tok op q t n e->16384<=(a::r).length->∀ fr:WFr,fr.env 2=.nils->fr.env 3=.lbox (some 4) (.c (i7 3 [] (plc s i).1 (plc s i).2))->R.ret fr H')
 (hbad:∀ code p nm H',b8 s i c=.bad code p nm->∀ fr:WFr,fr.env 2=.nils->fr.env 3=.lbox (some 4) (.c (i7 code nm (plc s p).1 (plc s p).2))->R.ret fr H')
 (hcl:(upperB c||lowerB c)=true) :
 WP Vv E9 (FL (l7 s id (a::r) t6) []) H N B R:=by
 have hH0:H[id]?=some (.var (some 8) (scC (j5 s i))):=hH;have h0:s[(j5 s i).pos]?=some c:=hc;have hlt:i<s.length:=(gEs hc).1;have h24:=O0 c;have h25:=V9 c;have h27:=Q9 c;unfold E9 lexP3 lexP4 lexP5 l7;generalize hT:P6=T;have eu:b8 s i c=J7 s i:=by unfold b8;rw [if_pos hcl]
 have hcall:=name26 (x:=j5 s i) rfl hH hc hcl hl;cases hu:J7 s i with
 | skip e=>have h:=hcall;rw [show J7 (j5 s i).src (j5 s i).pos=.skip e from hu] at h;exact (yW h).elim
 | bad code p nm=>
   rw [show J7 (j5 s i).src (j5 s i).pos=.bad code p nm from hu] at hcall;obtain ⟨y,hy,hcall⟩:=yD hcall;have hb:=hbad code p nm;rw [eu,hu] at hb;repeat' first|apply j2|exact q7|exact j8 rfl|(apply j7;rfl;rfl)|(apply s6;rfl;rfl)|(apply y9;rfl;(with_reducible rfl);rfl)|(apply y0;rfl;(with_reducible rfl);rfl)|(apply x7;rfl;rfl;rfl;assumption)|(apply C7;rfl;rfl)|(apply A9;rfl;rfl;rfl)|(apply m6;rfl;rfl)|(apply s9;rfl;rfl)|(apply l5;rfl;rfl)|(apply u1;rfl;rfl;rfl;rfl;exact u4 (by first | exact rfl | assumption | exact j0 (by assumption)))|(apply A7;rfl;rfl)|(apply t8;rfl;rfl;(assumption);rfl)|(apply q6 (hc:=h24);rfl;rfl;rfl)|(apply q6 (hc:=h25);rfl;rfl;rfl)|(apply b7 (hc:=⟨hcall.run⟩);rfl;rfl;(exact rfl);rfl;(exact j8 rfl);rintro H1 ⟨r1,k1⟩)|(apply w8;focus (repeat (first | exact q8 | (apply v6;rfl) | (apply D6;rfl;rfl) | (apply d6;rfl) | (apply y6;rfl))))|apply j1|apply j3|apply j4|apply x3|apply w9|apply o0|apply o7|(apply m5;rfl;(with_reducible rfl))|(apply v7;rfl)|(apply x8;rfl;(with_reducible rfl))|(apply l4;rfl;(with_reducible rfl))|(apply y7;rfl)|(apply o6;(exact rfl))|(with_reducible first|exact G1|apply F9|apply s4|apply s5)|(with_reducible apply C0;intro hc)|(apply f8;rfl)|(apply o8;rfl)|(apply P7;rfl)|(apply f9;rfl)
   try any_goals (exfalso;simp_all;done)
   all_goals exact hb _ rfl _ rfl (congrArg (fun u=>WV.lbox (some 4) (.c u)) (qZ hy))
 | tok op q t n e=>
   rw [show J7 (j5 s i).src (j5 s i).pos=.tok op q t n e from hu] at hcall;have hcall:=yB hcall;have hg:=hgo op q t n e;have ho:=hover op q t n e;rw [eu,hu] at hg ho;repeat' first|apply j2|exact q7|exact j8 rfl|(apply j7;rfl;rfl)|(apply s6;rfl;rfl)|(apply y9;rfl;(with_reducible rfl);rfl)|(apply y0;rfl;(with_reducible rfl);rfl)|(apply x7;rfl;rfl;rfl;assumption)|(apply A9;rfl;rfl;rfl)|(apply m6;rfl;rfl)|(apply s9;rfl;rfl)|(apply l5;rfl;rfl)|(apply u1;rfl;rfl;rfl;rfl;exact u4 (by first | exact rfl | assumption | exact j0 (by assumption)))|(apply A7;rfl;rfl)|(apply t8;rfl;rfl;(assumption);rfl)|(apply q6 (hc:=h24);rfl;rfl;rfl)|(apply q6 (hc:=h25);rfl;rfl;rfl)|(apply b7 (hc:=⟨hcall.run⟩);rfl;rfl;(exact rfl);rfl;(exact j8 rfl);rintro H1 ⟨r1,k1⟩)|(apply w8;focus (repeat (first | exact q8 | (apply v6;rfl) | (apply D6;rfl;rfl) | (apply d6;rfl) | (apply y6;rfl))))|apply j1|apply j3|apply j4|apply x3|apply v8|apply o0|apply o7|(apply m5;rfl;(with_reducible rfl))|(apply v7;rfl)|(apply x8;rfl;(with_reducible rfl))|(apply l4;rfl;(with_reducible rfl))|(apply y7;rfl)|(apply o6;(exact rfl))|(with_reducible first|exact C2|apply C3|apply s4|apply s5)|(with_reducible apply C0;intro hc)|(apply f8;rfl)|(apply o8;rfl)|(apply f9;rfl)
   try any_goals (exfalso;simp_all;done)
   all_goals exact hT▸kR (t:=⟨op,q,t,n,false,0,0⟩) hlen (fun h fr hk=>hg _ rfl h r1 fr hk) (fun h fr h1 h2=>ho _ rfl h fr h1 h2)
theorem jf0 {H:q9} {s:List UInt8} {id i:Nat} {c:UInt8} {a:Tok} {r:List Tok} {t6:CV} {N:f4} {B:Hs} {R:RP} (hH:ScH id (j5 s i) H) (hc:s[i]?=some c) (hl:s.length<2^30) (hlen:(a::r).length<=16384)
 (hgo:∀ op q t n e H',b8 s i c=.tok op q t n e->(a::r).length+1<=16384->ScH id (j5 s e) H'->∀ fr,KpL [0,3,4,5,6] fr [0,3,4,5,6] (l7 s id ((a::r)++[⟨op,q,t,n,false,(plc s i).1,(plc s i).2⟩]) (E6 ⟨op,q,t,n,false,(plc s i).1,(plc s i).2⟩))->R.go 0 fr H')
 (hover:∀ op q t n e H',b8 s i c=.tok op q t n e->16384<=(a::r).length->∀ fr:WFr,fr.env 2=.nils->fr.env 3=.lbox (some 4) (.c (i7 3 [] (plc s i).1 (plc s i).2))->R.ret fr H')
 (hbad:∀ code p nm H',b8 s i c=.bad code p nm->∀ fr:WFr,fr.env 2=.nils->fr.env 3=.lbox (some 4) (.c (i7 code nm (plc s p).1 (plc s p).2))->R.ret fr H')
 (hcl:¬ (upperB c||lowerB c)=true) (hd:t7 c=true) :
 WP Vv E9 (FL (l7 s id (a::r) t6) []) H N B R:=by
 have hH0:H[id]?=some (.var (some 8) (scC (j5 s i))):=hH;have h0:s[(j5 s i).pos]?=some c:=hc;have hlt:i<s.length:=(gEs hc).1;have h24:=O0 c;have h25:=V9 c;have h27:=Q9 c;unfold E9 lexP3 lexP4 lexP5 l7;generalize hT:P6=T;have eu:b8 s i c=J6 s i:=by unfold b8;rw [if_neg hcl,if_pos hd]
 have hcall:=z35 (x:=j5 s i) rfl hH (by show i<=s.length;omega) hl;have hup:upperB c=false:=Bool.eq_false_iff.2 (fun h=>hcl (by rw [h];rfl));have hlo:lowerB c=false:=Bool.eq_false_iff.2 (fun h=>hcl (by rw [h];exact Bool.or_true _));rw [hup] at h24;rw [hlo] at h25;rw [hd] at h27;cases hu:J6 s i with
 | skip e=>have h:=hcall;rw [show J6 (j5 s i).src (j5 s i).pos=.skip e from hu] at h;exact (yW h).elim
 | bad code p nm=>
   rw [show J6 (j5 s i).src (j5 s i).pos=.bad code p nm from hu] at hcall;obtain ⟨y,hy,hcall⟩:=yD hcall;have hb:=hbad code p nm;rw [eu,hu] at hb;repeat' first|apply j2|exact q7|exact j8 rfl|(apply j7;rfl;rfl)|(apply s6;rfl;rfl)|(apply y0;rfl;(with_reducible rfl);rfl)|(apply x7;rfl;rfl;rfl;assumption)|(apply C7;rfl;rfl)|(apply A9;rfl;rfl;rfl)|(apply m6;rfl;rfl)|(apply s9;rfl;rfl)|(apply l5;rfl;rfl)|(apply u1;rfl;rfl;rfl;rfl;exact u4 (by first | exact rfl | assumption | exact j0 (by assumption)))|(apply A7;rfl;rfl)|(apply t8;rfl;rfl;(assumption);rfl)|(apply q6 (hc:=h24);rfl;rfl;rfl)|(apply q6 (hc:=h25);rfl;rfl;rfl)|(apply q6 (hc:=h27);rfl;rfl;rfl)|(apply b7 (hc:=⟨hcall.run⟩);rfl;rfl;(exact rfl);rfl;(exact j8 rfl);rintro H1 ⟨r1,k1⟩)|(apply w8;focus (repeat (first | exact q8 | (apply v6;rfl) | (apply D6;rfl;rfl) | (apply d6;rfl) | (apply y6;rfl))))|apply j1|apply j3|apply j4|apply x3|apply w9|apply o0|apply o7|(apply m5;rfl;(with_reducible rfl))|(apply g9;rfl;(with_reducible rfl))|(apply v7;rfl)|(apply x8;rfl;(with_reducible rfl))|(apply o6;(exact rfl))|(with_reducible first|exact G1|apply F9|apply s4|apply s5)|(apply f8;rfl)|(apply o8;rfl)|(apply P7;rfl)|(apply f9;rfl)
   try any_goals (exfalso;simp_all;done)
   all_goals exact hb _ rfl _ rfl (congrArg (fun u=>WV.lbox (some 4) (.c u)) (qZ hy))
 | tok op q t n e=>
   rw [show J6 (j5 s i).src (j5 s i).pos=.tok op q t n e from hu] at hcall;have hcall:=yB hcall;have hg:=hgo op q t n e;have ho:=hover op q t n e;rw [eu,hu] at hg ho;repeat' first|apply j2|exact q7|exact j8 rfl|(apply j7;rfl;rfl)|(apply s6;rfl;rfl)|(apply y0;rfl;(with_reducible rfl);rfl)|(apply x7;rfl;rfl;rfl;assumption)|(apply A9;rfl;rfl;rfl)|(apply m6;rfl;rfl)|(apply s9;rfl;rfl)|(apply l5;rfl;rfl)|(apply u1;rfl;rfl;rfl;rfl;exact u4 (by first | exact rfl | assumption | exact j0 (by assumption)))|(apply A7;rfl;rfl)|(apply t8;rfl;rfl;(assumption);rfl)|(apply q6 (hc:=h24);rfl;rfl;rfl)|(apply q6 (hc:=h25);rfl;rfl;rfl)|(apply q6 (hc:=h27);rfl;rfl;rfl)|(apply b7 (hc:=⟨hcall.run⟩);rfl;rfl;(exact rfl);rfl;(exact j8 rfl);rintro H1 ⟨r1,k1⟩)|(apply w8;focus (repeat (first | exact q8 | (apply v6;rfl) | (apply D6;rfl;rfl) | (apply d6;rfl) | (apply y6;rfl))))|apply j1|apply j3|apply j4|apply x3|apply v8|apply o0|apply o7|(apply m5;rfl;(with_reducible rfl))|(apply g9;rfl;(with_reducible rfl))|(apply v7;rfl)|(apply x8;rfl;(with_reducible rfl))|(apply o6;(exact rfl))|(with_reducible first|exact C2|apply C3|apply s4|apply s5)|(apply f8;rfl)|(apply o8;rfl)|(apply f9;rfl)
   try any_goals (exfalso;simp_all;done)
   all_goals exact hT▸kR (t:=⟨op,q,t,n,false,0,0⟩) hlen (fun h fr hk=>hg _ rfl h r1 fr hk) (fun h fr h1 h2=>ho _ rfl h fr h1 h2)
end Go.Proofs.TryzL
namespace Go.Proofs.TryzL
open Go.Proofs.Lz
set_option maxHeartbeats 4000000
theorem ql5 {H:q9} {s:List UInt8} {id i:Nat} {c:UInt8} {t6:CV} {N:f4} {B:Hs} {R:RP} (hH:ScH id (j5 s i) H) (hc:s[i]?=some c) (hl:s.length<2^30) (hlen:([]:List Tok).length<=16384)
 (hgo:∀ op q t n e H',b8 s i c=.tok op q t n e->([]:List Tok).length+1<=16384->ScH id (j5 s e) H'->∀ fr,KpL [0,3,4,5,6] fr [0,3,4,5,6] (l7 s id (([]:List Tok)++[⟨op,q,t,n,false,(plc s i).1,(plc s i).2⟩]) (E6 ⟨op,q,t,n,false,(plc s i).1,(plc s i).2⟩))->R.go 0 fr H')
 (hover:∀ op q t n e H',b8 s i c=.tok op q t n e->16384<=([]:List Tok).length->∀ fr:WFr,fr.env 2=.nils->fr.env 3=.lbox (some 4) (.c (i7 3 [] (plc s i).1 (plc s i).2))->R.ret fr H')
 (hbad:∀ code p nm H',b8 s i c=.bad code p nm->∀ fr:WFr,fr.env 2=.nils->fr.env 3=.lbox (some 4) (.c (i7 code nm (plc s p).1 (plc s p).2))->R.ret fr H')
 (hcl:¬ (upperB c||lowerB c)=true) (hd:¬ t7 c=true) (hq:c=39\/c=34) :
   WP Vv E9 (FL (l7 s id ([]:List Tok) t6) []) H N B R:=by
  have hH0:H[id]?=some (.var (some 8) (scC (j5 s i))):=hH;have h0:s[(j5 s i).pos]?=some c:=hc;have hlt:i<s.length:=(gEs hc).1;have h24:=O0 c;have h25:=V9 c;have h27:=Q9 c;unfold E9 lexP3 lexP4 lexP5 l7;generalize hT:P6=T;have hup:upperB c=false:=Bool.eq_false_iff.2 (fun h=>hcl (by rw [h];rfl));have hlo:lowerB c=false:=Bool.eq_false_iff.2 (fun h=>hcl (by rw [h];exact Bool.or_true _));rw [hup] at h24;rw [hlo] at h25;rw [Bool.eq_false_iff.2 hd] at h27;have hxj:j5 (j5 s i).src (j5 s i).pos=j5 s i:=rfl;have hj1:(j5 s i).pos+1<=(j5 s i).src.length:=by show i+1<=s.length;omega
  have hjp:(j5 s i).pos<=(j5 s i).src.length:=by show i<=s.length;omega
  have hl50:(j5 s i).src.length<2^50:=by show s.length<_;omega
  have hl60:(j5 s i).src.length<2^60:=by show s.length<_;omega
  have hq':(c.toNat:Int)=39\/(c.toNat:Int)=34:=hq.imp qO qO;have eu:b8 s i c=I7 s i c:=by unfold b8;rw [if_neg hcl,if_neg hd,if_pos hq]
  have hcall:=z57 (x:=j5 s i) rfl hH hc hq hl;cases hu:I7 s i c with
  | skip e=>have h:=hcall;rw [show I7 (j5 s i).src (j5 s i).pos c=.skip e from hu] at h;exact (yW h).elim
  | bad code p nm=>
    rw [show I7 (j5 s i).src (j5 s i).pos c=.bad code p nm from hu] at hcall;obtain ⟨y,hy,hcall⟩:=yD hcall;have hb:=hbad code p nm;rw [eu,hu] at hb;repeat' first|apply j2|exact q7|exact j8 rfl|(apply j7;rfl;rfl)|(apply j9;rfl;rfl;rfl)|(apply s6;rfl;rfl)|(apply y9;rfl;(with_reducible rfl);rfl)|(apply y0;rfl;(with_reducible rfl);rfl)|(apply x7;rfl;rfl;rfl;assumption)|(apply C7;rfl;rfl)|(apply A9;rfl;rfl;rfl)|(apply m6;rfl;rfl)|(apply s9;rfl;rfl)|(apply l5;rfl;rfl)|(apply u1;rfl;rfl;rfl;rfl;exact u4 (by first | exact rfl | assumption | exact j0 (by assumption)))|(apply A7;rfl;rfl)|(apply t8;rfl;rfl;(assumption);rfl)|(apply q6 (hc:=h24);rfl;rfl;rfl)|(apply q6 (hc:=h25);rfl;rfl;rfl)|(apply q6 (hc:=h27);rfl;rfl;rfl)|(apply b7 (hc:=⟨hcall.run⟩);rfl;rfl;(exact rfl);rfl;(exact j8 rfl);rintro H1 ⟨r1,k1⟩)|(apply w8;focus (repeat (first | exact q8 | (apply v6;rfl) | (apply F7;rfl) | (apply d6;rfl) | (apply y6;rfl))))|apply j1|apply j3|apply j4|apply x3|apply w9|apply o0|apply o7|(apply m5;rfl;(with_reducible rfl))|(apply g9;rfl;(with_reducible rfl))|(apply v7;rfl)|(apply x8;rfl;(with_reducible rfl))|(apply l4;rfl;(with_reducible rfl))|(apply y7;rfl)|(apply o6;(exact rfl))|(with_reducible first|exact G1|apply F9|apply s4|apply s5)|(with_reducible (first|apply u7|apply g8);intro hc)|(apply f8;rfl)|(apply o8;rfl)|(apply P7;rfl)|(apply f9;rfl)
    try any_goals (exfalso;omega)
    all_goals exact hb _ rfl _ rfl (congrArg (fun u=>WV.lbox (some 4) (.c u)) (qZ hy))
  | tok op q t n e=>
    rw [show I7 (j5 s i).src (j5 s i).pos c=.tok op q t n e from hu] at hcall;have hcall:=yB hcall;have hg:=hgo op q t n e;have ho:=hover op q t n e;rw [eu,hu] at hg ho;repeat' first|apply j2|exact q7|exact j8 rfl|(apply j7;rfl;rfl)|(apply j9;rfl;rfl;rfl)|(apply s6;rfl;rfl)|(apply y9;rfl;(with_reducible rfl);rfl)|(apply y0;rfl;(with_reducible rfl);rfl)|(apply x7;rfl;rfl;rfl;assumption)|(apply A9;rfl;rfl;rfl)|(apply m6;rfl;rfl)|(apply s9;rfl;rfl)|(apply l5;rfl;rfl)|(apply u1;rfl;rfl;rfl;rfl;exact u4 (by first | exact rfl | assumption | exact j0 (by assumption)))|(apply A7;rfl;rfl)|(apply t8;rfl;rfl;(assumption);rfl)|(apply q6 (hc:=h24);rfl;rfl;rfl)|(apply q6 (hc:=h25);rfl;rfl;rfl)|(apply q6 (hc:=h27);rfl;rfl;rfl)|(apply b7 (hc:=⟨hcall.run⟩);rfl;rfl;(exact rfl);rfl;(exact j8 rfl);rintro H1 ⟨r1,k1⟩)|(apply w8;focus (repeat (first | exact q8 | (apply v6;rfl) | (apply F7;rfl) | (apply d6;rfl) | (apply y6;rfl))))|apply j1|apply j3|apply j4|apply x3|apply v8|apply o0|apply o7|(apply m5;rfl;(with_reducible rfl))|(apply g9;rfl;(with_reducible rfl))|(apply v7;rfl)|(apply x8;rfl;(with_reducible rfl))|(apply l4;rfl;(with_reducible rfl))|(apply y7;rfl)|(apply o6;(exact rfl))|(with_reducible first|exact C2|apply C3|apply s4|apply s5)|(with_reducible (first|apply u7|apply g8);intro hc)|(apply f8;rfl)|(apply o8;rfl)|(apply f9;rfl)
    try any_goals (exfalso;omega)
    all_goals exact hT▸gZ (t:=⟨op,q,t,n,false,0,0⟩) hlen (fun h fr hk=>hg _ rfl h r1 fr hk) (fun h fr h1 h2=>ho _ rfl h fr h1 h2)
theorem qz3 {H:q9} {s:List UInt8} {id i:Nat} {c:UInt8} {a:Tok} {r:List Tok} {t6:CV} {N:f4} {B:Hs} {R:RP} (hH:ScH id (j5 s i) H) (hc:s[i]?=some c) (hl:s.length<2^30) (hlen:(a::r).length<=16384)
 (hgo:∀ op q t n e H',b8 s i c=.tok op q t n e->(a::r).length+1<=16384->ScH id (j5 s e) H'->∀ fr,KpL [0,3,4,5,6] fr [0,3,4,5,6] (l7 s id ((a::r)++[⟨op,q,t,n,false,(plc s i).1,(plc s i).2⟩]) (E6 ⟨op,q,t,n,false,(plc s i).1,(plc s i).2⟩))->R.go 0 fr H')
 (hover:∀ op q t n e H',b8 s i c=.tok op q t n e->16384<=(a::r).length->∀ fr:WFr,fr.env 2=.nils->fr.env 3=.lbox (some 4) (.c (i7 3 [] (plc s i).1 (plc s i).2))->R.ret fr H')
 (hbad:∀ code p nm H',b8 s i c=.bad code p nm->∀ fr:WFr,fr.env 2=.nils->fr.env 3=.lbox (some 4) (.c (i7 code nm (plc s p).1 (plc s p).2))->R.ret fr H')
 (hcl:¬ (upperB c||lowerB c)=true) (hd:¬ t7 c=true) (hq:c=39\/c=34) :
   WP Vv E9 (FL (l7 s id (a::r) t6) []) H N B R:=by
  have hH0:H[id]?=some (.var (some 8) (scC (j5 s i))):=hH;have h0:s[(j5 s i).pos]?=some c:=hc;have hlt:i<s.length:=(gEs hc).1;have h24:=O0 c;have h25:=V9 c;have h27:=Q9 c;unfold E9 lexP3 lexP4 lexP5 l7;generalize hT:P6=T;have hup:upperB c=false:=Bool.eq_false_iff.2 (fun h=>hcl (by rw [h];rfl));have hlo:lowerB c=false:=Bool.eq_false_iff.2 (fun h=>hcl (by rw [h];exact Bool.or_true _));rw [hup] at h24;rw [hlo] at h25;rw [Bool.eq_false_iff.2 hd] at h27;have hxj:j5 (j5 s i).src (j5 s i).pos=j5 s i:=rfl;have hj1:(j5 s i).pos+1<=(j5 s i).src.length:=by show i+1<=s.length;omega
  have hjp:(j5 s i).pos<=(j5 s i).src.length:=by show i<=s.length;omega
  have hl50:(j5 s i).src.length<2^50:=by show s.length<_;omega
  have hl60:(j5 s i).src.length<2^60:=by show s.length<_;omega
  have hq':(c.toNat:Int)=39\/(c.toNat:Int)=34:=hq.imp qO qO;have eu:b8 s i c=I7 s i c:=by unfold b8;rw [if_neg hcl,if_neg hd,if_pos hq]
  have hcall:=z57 (x:=j5 s i) rfl hH hc hq hl;cases hu:I7 s i c with
  | skip e=>have h:=hcall;rw [show I7 (j5 s i).src (j5 s i).pos c=.skip e from hu] at h;exact (yW h).elim
  | bad code p nm=>
    rw [show I7 (j5 s i).src (j5 s i).pos c=.bad code p nm from hu] at hcall;obtain ⟨y,hy,hcall⟩:=yD hcall;have hb:=hbad code p nm;rw [eu,hu] at hb;repeat' first|apply j2|exact q7|exact j8 rfl|(apply j7;rfl;rfl)|(apply j9;rfl;rfl;rfl)|(apply s6;rfl;rfl)|(apply y9;rfl;(with_reducible rfl);rfl)|(apply y0;rfl;(with_reducible rfl);rfl)|(apply x7;rfl;rfl;rfl;assumption)|(apply C7;rfl;rfl)|(apply A9;rfl;rfl;rfl)|(apply m6;rfl;rfl)|(apply s9;rfl;rfl)|(apply l5;rfl;rfl)|(apply u1;rfl;rfl;rfl;rfl;exact u4 (by first | exact rfl | assumption | exact j0 (by assumption)))|(apply A7;rfl;rfl)|(apply t8;rfl;rfl;(assumption);rfl)|(apply q6 (hc:=h24);rfl;rfl;rfl)|(apply q6 (hc:=h25);rfl;rfl;rfl)|(apply q6 (hc:=h27);rfl;rfl;rfl)|(apply b7 (hc:=⟨hcall.run⟩);rfl;rfl;(exact rfl);rfl;(exact j8 rfl);rintro H1 ⟨r1,k1⟩)|(apply w8;focus (repeat (first | exact q8 | (apply v6;rfl) | (apply D6;rfl;rfl) | (apply d6;rfl) | (apply y6;rfl))))|apply j1|apply j3|apply j4|apply x3|apply w9|apply o0|apply o7|(apply m5;rfl;(with_reducible rfl))|(apply g9;rfl;(with_reducible rfl))|(apply v7;rfl)|(apply x8;rfl;(with_reducible rfl))|(apply l4;rfl;(with_reducible rfl))|(apply y7;rfl)|(apply o6;(exact rfl))|(with_reducible first|exact G1|apply F9|apply s4|apply s5)|(with_reducible (first|apply u7|apply g8);intro hc)|(apply f8;rfl)|(apply o8;rfl)|(apply P7;rfl)|(apply f9;rfl)
    try any_goals (exfalso;omega)
    all_goals exact hb _ rfl _ rfl (congrArg (fun u=>WV.lbox (some 4) (.c u)) (qZ hy))
  | tok op q t n e=>
    rw [show I7 (j5 s i).src (j5 s i).pos c=.tok op q t n e from hu] at hcall;have hcall:=yB hcall;have hg:=hgo op q t n e;have ho:=hover op q t n e;rw [eu,hu] at hg ho;repeat' first|apply j2|exact q7|exact j8 rfl|(apply j7;rfl;rfl)|(apply j9;rfl;rfl;rfl)|(apply s6;rfl;rfl)|(apply y9;rfl;(with_reducible rfl);rfl)|(apply y0;rfl;(with_reducible rfl);rfl)|(apply x7;rfl;rfl;rfl;assumption)|(apply A9;rfl;rfl;rfl)|(apply m6;rfl;rfl)|(apply s9;rfl;rfl)|(apply l5;rfl;rfl)|(apply u1;rfl;rfl;rfl;rfl;exact u4 (by first | exact rfl | assumption | exact j0 (by assumption)))|(apply A7;rfl;rfl)|(apply t8;rfl;rfl;(assumption);rfl)|(apply q6 (hc:=h24);rfl;rfl;rfl)|(apply q6 (hc:=h25);rfl;rfl;rfl)|(apply q6 (hc:=h27);rfl;rfl;rfl)|(apply b7 (hc:=⟨hcall.run⟩);rfl;rfl;(exact rfl);rfl;(exact j8 rfl);rintro H1 ⟨r1,k1⟩)|(apply w8;focus (repeat (first | exact q8 | (apply v6;rfl) | (apply D6;rfl;rfl) | (apply d6;rfl) | (apply y6;rfl))))|apply j1|apply j3|apply j4|apply x3|apply v8|apply o0|apply o7|(apply m5;rfl;(with_reducible rfl))|(apply g9;rfl;(with_reducible rfl))|(apply v7;rfl)|(apply x8;rfl;(with_reducible rfl))|(apply l4;rfl;(with_reducible rfl))|(apply y7;rfl)|(apply o6;(exact rfl))|(with_reducible first|exact C2|apply C3|apply s4|apply s5)|(with_reducible (first|apply u7|apply g8);intro hc)|(apply f8;rfl)|(apply o8;rfl)|(apply f9;rfl)
    try any_goals (exfalso;omega)
    all_goals exact hT▸kR (t:=⟨op,q,t,n,false,0,0⟩) hlen (fun h fr hk=>hg _ rfl h r1 fr hk) (fun h fr h1 h2=>ho _ rfl h fr h1 h2)
end Go.Proofs.TryzL
