/- Chapter 02: the lexer's numbers. -/
import Derived.Test.YtencoceemejcnaaGreatDoorLzT33
set_option linter.unusedSimpArgs false
set_option linter.unusedVariables false
namespace Go.Proofs.TryzL
open Go.Proofs.Lz
set_option maxHeartbeats 4000000
theorem adv {H:q9} {id n:Nat} {x:Sc} (hx:j5 x.src x.pos=x) (hH:ScH id x H) (hn:x.pos+n<=x.src.length) (hl:x.src.length<2^50) :
 Shr Vv 34 [.ptr id 0,.c (.int .i64 n)] H (.tup []) (fun H'=>ScH id (j5 x.src (x.pos+n)) H'/\KpH id H H'):=by
 obtain ⟨H',h,h1,h2⟩:=(ji2 (n:=n) hH (by rw [<-hx];exact zt0 _ _) hn hl).run;refine ⟨H',h,?_,h2⟩;have:=qf0 (s:=x.src) (i:=x.pos) n hn;rw [hx] at this;rw [<-this];exact h1
theorem xC {H:q9} {id:Nat} {x:Sc} {t:List UInt8} (hH:ScH id x H) (h:t.length<=64):Shr Vv 32 [.ptr id 0,.c (.str t)] H (.c (.bool true)) (fun H'=>ScH id x H'/\KpH id H H'):=by
 obtain ⟨H',h1,h2,h3⟩:=(zp5 hH (t:=t) (by omega)).run;rw [decide_eq_true h] at h1;rw [if_pos h] at h2;exact ⟨H',h1,h2,h3⟩
theorem bH {H:q9} {id:Nat} {x:Sc} {t:List UInt8} (hH:ScH id x H) (h:¬ t.length<=64) (hl:t.length<2^60):Shr Vv 32 [.ptr id 0,.c (.str t)] H (.c (.bool false)) (fun H'=>ScH id (wO 3 (t.take 64) x) H'/\KpH id H H'):=by
 obtain ⟨H',h1,h2,h3⟩:=(zp5 hH (t:=t) hl).run;rw [decide_eq_false h] at h1;rw [if_neg h] at h2;exact ⟨H',h1,h2,h3⟩
def wY (id:Nat) (H:q9) (s:List UInt8) (u:U):q9->Prop:=fun H'=>(∃ y,ScH id y H'/\okU s u y)/\KpH id H H'
theorem lJ {x:Sc} (hx:j5 x.src x.pos=x) {code:Nat} {nm:List UInt8} (hc:code≠0):O6 x.src code x.pos nm (wO code nm x):=by
 have:=rF x.src x.pos code nm hc;rwa [hx] at this
theorem name26 {H:q9} {id:Nat} {x:Sc} {c:UInt8} (hx:j5 x.src x.pos=x) (hH:ScH id x H) (hc:x.src[x.pos]?=some c) (hcl:(upperB c||lowerB c)=true) (hl:x.src.length<2^30) :
 Shr Vv 26 [.ptr id 0] H (vV (J7 x.src x.pos)) (wY id H x.src (J7 x.src x.pos)):=by
 refine V7 q74 ?_;have hlt:x.pos<x.src.length:=(gEs hc).1;have hid:a8 c=true:=by unfold a8;rw [hcl];rfl
 have hl50:x.src.length<2^50:=by omega
 have hl60:x.src.length<2^60:=by omega
 have hple:x.pos<=x.src.length:=by omega
 have l1:=Y2 (p:=a8) (s:=x.src) hple;have t0:(x9 a8 x.src x.pos)[0]?=some c:=by rw [eW hc hid];rfl
 have hH0:H[id]?=some (.var (some 8) (scC x)):=hH;have hN:J7 x.src x.pos=if upperB c=true/\x.src[x.pos+(x9 a8 x.src x.pos).length]?=some 46/\O5 x.src (x.pos+(x9 a8 x.src x.pos).length+1)≠[] then l9 x.pos (x9 a8 x.src x.pos) (O5 x.src (x.pos+(x9 a8 x.src x.pos).length+1)) (x.pos+(x9 a8 x.src x.pos).length+1+(O5 x.src (x.pos+(x9 a8 x.src x.pos).length+1)).length) else l9 x.pos [] (x9 a8 x.src x.pos) (x.pos+(x9 a8 x.src x.pos).length):=by
  unfold J7;simp only [hc,Option.some.injEq,exists_eq_left']
 rw [hN];generalize ht:x9 a8 x.src x.pos=t at *;have hrun:=oH hH hple hl60;rw [ht] at hrun;by_cases h64:t.length<=64
 . by_cases hdot:upperB c=true/\x.src[x.pos+t.length]?=some 46
   . have hd:=hdot.2;have hup:=hdot.1;have hj:x.pos+t.length+1<=x.src.length:=by have:=(gEs hd).1;omega
     have l3:=zk0 hj;generalize hq:O5 x.src (x.pos+t.length+1)=q at *;have hqr:∀ {H1:q9},ScH id x H1->Shr Vv 57 [.ptr id 0,.c (.int .i64 (x.pos+t.length+1:Nat))] H1 (.c (.str q)) (fun H'=>ScH id x H'/\KpH id H1 H'):=fun r=>by
      have:=qk0 (j:=x.pos+t.length+1) r hj hl;rwa [hq] at this
     by_cases hqn:q=[]
     . rw [if_neg (fun h=>h.2.2 hqn)];have hw:l9 x.pos [] t (x.pos+t.length)=.tok (Z6 t) [] t 0 (x.pos+t.length):=by
        unfold l9;rw [if_neg (by simp),if_neg (by omega)]
       rw [hw];repeat' first|apply j2|exact q7|exact j8 rfl|(apply j7;rfl;rfl)|(apply b6;rfl;rfl;omega)|(apply j9;rfl;rfl;rfl)|(apply u5;rfl)|(apply s6;rfl;rfl)|(apply y9;rfl;(with_reducible rfl);rfl)|(apply y0;rfl;(with_reducible rfl);rfl)|(apply x7;rfl;rfl;rfl;assumption)|(apply m6;rfl;rfl)|(apply s9;rfl;rfl)|(apply l5;rfl;rfl)|(apply m8;rfl;rfl;first | exact c6 (by first | exact rfl | assumption | exact j0 (by assumption)) | exact m9 (by first | exact rfl | assumption | exact j0 (by assumption)))|(apply u1;rfl;rfl;rfl;rfl;exact u4 (by first | exact rfl | assumption | exact j0 (by assumption)))|(apply t8;rfl;rfl;(assumption);rfl)|(apply b7 (hc:=⟨hrun.run⟩);rfl;rfl;(exact rfl);rfl;(exact q7);rintro H1 ⟨r1,k1⟩)|(apply b7 (hc:=⟨(xC r1 h64).run⟩);rfl;rfl;(exact rfl);rfl;(exact q7);rintro H1 ⟨r1,k1⟩)|(apply q6 (hc:=O0 c);rfl;rfl;rfl)|(apply q6 (hc:=gQ t (by omega));rfl;rfl;rfl)|(apply b7 (hc:=⟨(hqr r1).run⟩);rfl;rfl;(exact rfl);rfl;(exact q7);rintro H1 ⟨r1,k1⟩)|(apply b7 (hc:=⟨(adv (n:=t.length) hx r1 l1 hl50).run⟩);rfl;rfl;(exact rfl);rfl;(exact j8 rfl);rintro H1 ⟨r1,k1⟩)|(apply w8;focus (repeat (first | exact q8 | (apply v6;rfl) | (apply d6;rfl) | (apply y6;rfl))))|apply j1|apply j3|apply j4|apply v8|apply w9|(apply g9;rfl;(with_reducible rfl))|(apply v7;rfl)|(apply x8;rfl;(with_reducible rfl))|(apply b9;rfl;(with_reducible rfl))|(apply y7;rfl)|(with_reducible first|exact C2|apply C3|apply s4|apply s5)|(with_reducible (first|apply u7|apply L1|apply g8|apply L2|apply x6|apply x5|apply C0);intro hc)
       all_goals first|(exfalso;contradiction)|(exfalso;omega)|(exfalso;simp_all;done)|exact Z7 rfl rfl rfl ⟨⟨_,r1,rfl⟩,by repeat (first | assumption | refine KpH.trans ?_ (by assumption))⟩
     . rw [if_pos ⟨hup,hd,hqn⟩];by_cases hq64:q.length<=64
       . have hw:l9 x.pos t q (x.pos+t.length+1+q.length)=.tok (Z6 q) t q 0 (x.pos+t.length+1+q.length):=by
          unfold l9;rw [if_neg (by omega),if_neg (by omega)]
         rw [hw];have e:x.pos+(t.length+1+q.length)=x.pos+t.length+1+q.length:=by omega
         repeat' first|apply j2|exact q7|exact j8 rfl|(apply j7;rfl;rfl)|(apply C5;rfl;rfl;rfl)|(apply b6;rfl;rfl;omega)|(apply j9;rfl;rfl;rfl)|(apply u5;rfl)|(apply s6;rfl;rfl)|(apply y9;rfl;(with_reducible rfl);rfl)|(apply y0;rfl;(with_reducible rfl);rfl)|(apply x7;rfl;rfl;rfl;assumption)|(apply D9;rfl;exact E2 rfl)|(apply m6;rfl;rfl)|(apply s9;rfl;rfl)|(apply l5;rfl;rfl)|(apply m8;rfl;rfl;first | exact c6 (by first | exact rfl | assumption | exact j0 (by assumption)) | exact m9 (by first | exact rfl | assumption | exact j0 (by assumption)))|(apply u1;rfl;rfl;rfl;rfl;exact u4 (by first | exact rfl | assumption | exact j0 (by assumption)))|(apply kW;(iterate 8 rfl);exact pC (by first | exact rfl | assumption | exact j0 (by assumption)))|(apply t8;rfl;rfl;(assumption);rfl)|(apply b7 (hc:=⟨hrun.run⟩);rfl;rfl;(exact rfl);rfl;(exact q7);rintro H1 ⟨r1,k1⟩)|(apply b7 (hc:=⟨(xC r1 h64).run⟩);rfl;rfl;(exact rfl);rfl;(exact q7);rintro H1 ⟨r1,k1⟩)|(apply b7 (hc:=⟨(xC r1 hq64).run⟩);rfl;rfl;(exact rfl);rfl;(exact q7);rintro H1 ⟨r1,k1⟩)|(apply q6 (hc:=O0 c);rfl;rfl;rfl)|(apply q6 (hc:=gQ q (by omega));rfl;rfl;rfl)|(apply b7 (hc:=⟨(hqr r1).run⟩);rfl;rfl;(exact rfl);rfl;(exact q7);rintro H1 ⟨r1,k1⟩)|(apply b7 (hc:=⟨(adv (n:=t.length+1+q.length) hx r1 (by omega) hl50).run⟩);rfl;rfl;(exact rfl);rfl;(exact j8 rfl);rintro H1 ⟨r1,k1⟩)|(apply w8;focus (repeat (first | exact q8 | (apply v6;rfl) | (apply d6;rfl) | (apply y6;rfl))))|apply j1|apply j3|apply j4|apply v8|apply w9|(apply g9;rfl;(with_reducible rfl))|(apply v7;rfl)|(apply x8;rfl;(with_reducible rfl))|(apply b9;rfl;(with_reducible rfl))|(apply y7;rfl)|(with_reducible first|exact C2|apply C3|apply s4|apply s5)|(with_reducible (first|apply u7|apply L1|apply g8|apply L2|apply x6|apply x5|apply C0);intro hc)
         all_goals first|(exfalso;contradiction)|(exfalso;omega)|(exfalso;simp_all;done)|(rw [e] at r1;exact Z7 rfl rfl rfl ⟨⟨_,r1,rfl⟩,by repeat (first | assumption | refine KpH.trans ?_ (by assumption))⟩)
       . have hw:l9 x.pos t q (x.pos+t.length+1+q.length)=.bad 3 x.pos (q.take 64):=by
          unfold l9;rw [if_neg (by omega),if_pos (by omega)]
         rw [hw];repeat' first|apply j2|exact q7|exact j8 rfl|(apply j7;rfl;rfl)|(apply b6;rfl;rfl;omega)|(apply j9;rfl;rfl;rfl)|(apply u5;rfl)|(apply s6;rfl;rfl)|(apply y9;rfl;(with_reducible rfl);rfl)|(apply y0;rfl;(with_reducible rfl);rfl)|(apply x7;rfl;rfl;rfl;assumption)|(apply l6;rfl;rfl;rfl)|(apply m6;rfl;rfl)|(apply s9;rfl;rfl)|(apply l5;rfl;rfl)|(apply m8;rfl;rfl;first | exact c6 (by first | exact rfl | assumption | exact j0 (by assumption)) | exact m9 (by first | exact rfl | assumption | exact j0 (by assumption)))|(apply u1;rfl;rfl;rfl;rfl;exact u4 (by first | exact rfl | assumption | exact j0 (by assumption)))|(apply t8;rfl;rfl;(assumption);rfl)|(apply b7 (hc:=⟨hrun.run⟩);rfl;rfl;(exact rfl);rfl;(exact q7);rintro H1 ⟨r1,k1⟩)|(apply b7 (hc:=⟨(xC r1 h64).run⟩);rfl;rfl;(exact rfl);rfl;(exact q7);rintro H1 ⟨r1,k1⟩)|(apply b7 (hc:=⟨(bH r1 hq64 (by omega)).run⟩);rfl;rfl;(exact rfl);rfl;(exact q7);rintro H1 ⟨r1,k1⟩)|(apply q6 (hc:=O0 c);rfl;rfl;rfl)|(apply b7 (hc:=⟨(hqr r1).run⟩);rfl;rfl;(exact rfl);rfl;(exact q7);rintro H1 ⟨r1,k1⟩)|(apply w8;focus (repeat (first | exact q8 | (apply v6;rfl) | (apply d6;rfl) | (apply y6;rfl))))|apply j1|apply j3|apply j4|apply v8|apply w9|(apply g9;rfl;(with_reducible rfl))|(apply v7;rfl)|(apply x8;rfl;(with_reducible rfl))|(apply b9;rfl;(with_reducible rfl))|(apply y7;rfl)|(with_reducible first|exact G1|exact C2|apply C3|apply F9|apply s4|apply s5)|(with_reducible (first|apply u7|apply L1|apply g8|apply L2|apply x6|apply x5|apply C0);intro hc)
         all_goals first|(exfalso;contradiction)|(exfalso;omega)|(exfalso;simp_all;done)|exact Z7 rfl rfl rfl ⟨⟨_,r1,lJ hx (by decide)⟩,by repeat (first | assumption | refine KpH.trans ?_ (by assumption))⟩
   . rw [if_neg (fun h=>hdot ⟨h.1,h.2.1⟩)];have hw:l9 x.pos [] t (x.pos+t.length)=.tok (Z6 t) [] t 0 (x.pos+t.length):=by
      unfold l9;rw [if_neg (by simp),if_neg (by omega)]
     rw [hw];have hdot2:upperB c=true->∀ d,x.src[x.pos+t.length]?=some d->d≠46:=fun h d hd e=>hdot ⟨h,by rw [hd,e]⟩;repeat' first|apply j2|exact q7|exact j8 rfl|(apply j7;rfl;rfl)|(apply b6;rfl;rfl;omega)|(apply j9;rfl;rfl;rfl)|(apply u5;rfl)|(apply s6;rfl;rfl)|(apply y9;rfl;(with_reducible rfl);rfl)|(apply y0;rfl;(with_reducible rfl);rfl)|(apply x7;rfl;rfl;rfl;assumption)|(apply x7;rfl;rfl;rfl;exact gEg (by omega))|(apply m6;rfl;rfl)|(apply s9;rfl;rfl)|(apply l5;rfl;rfl)|(apply m8;rfl;rfl;first | exact c6 (by first | exact rfl | assumption | exact j0 (by assumption)) | exact m9 (by first | exact rfl | assumption | exact j0 (by assumption)))|(apply u1;rfl;rfl;rfl;rfl;exact u4 (by first | exact rfl | assumption | exact j0 (by assumption)))|(apply t8;rfl;rfl;(assumption);rfl)|(apply b7 (hc:=⟨hrun.run⟩);rfl;rfl;(exact rfl);rfl;(exact q7);rintro H1 ⟨r1,k1⟩)|(apply b7 (hc:=⟨(xC r1 h64).run⟩);rfl;rfl;(exact rfl);rfl;(exact q7);rintro H1 ⟨r1,k1⟩)|(apply q6 (hc:=O0 c);rfl;rfl;rfl)|(apply q6 (hc:=gQ t (by omega));rfl;rfl;rfl)|(apply b7 (hc:=⟨(adv (n:=t.length) hx r1 l1 hl50).run⟩);rfl;rfl;(exact rfl);rfl;(exact j8 rfl);rintro H1 ⟨r1,k1⟩)|(apply w8;focus (repeat (first | exact q8 | (apply v6;rfl) | (apply d6;rfl) | (apply y6;rfl))))|apply j1|apply j3|apply j4|apply v8|apply w9|(apply g9;rfl;(with_reducible rfl))|(apply v7;rfl)|(apply x8;rfl;(with_reducible rfl))|(apply b9;rfl;(with_reducible rfl))|(apply y7;rfl)|(with_reducible first|exact C2|apply C3|apply s4|apply s5)|(with_reducible (first|apply u7|apply g8|apply x6|apply x5|apply C0);intro hc)
     all_goals first|exact Z7 rfl rfl rfl ⟨⟨_,r1,rfl⟩,by repeat (first | assumption | refine KpH.trans ?_ (by assumption))⟩|(exfalso;exact hdot2 (by assumption) _ (gEg (by omega)) (UInt8.toNat_inj.1 (by have h46:(46:UInt8).toNat=46:=rfl;omega)))
 . have hw:∀ q e,l9 x.pos t q e=.bad 3 x.pos (t.take 64):=by intro q e;unfold l9;rw [if_pos (by omega)]
   have hw2:∀ e,l9 x.pos [] t e=.bad 3 x.pos (t.take 64):=by intro e;unfold l9;rw [if_neg (by simp),if_pos (by omega)]
   rw [hw,hw2,ite_self];repeat' first|apply j2|exact q7|exact j8 rfl|(apply j7;rfl;rfl)|(apply s6;rfl;rfl)|(apply l6;rfl;rfl;rfl)|(apply m6;rfl;rfl)|(apply s9;rfl;rfl)|(apply l5;rfl;rfl)|(apply m8;rfl;rfl;first | exact c6 (by first | exact rfl | assumption | exact j0 (by assumption)) | exact m9 (by first | exact rfl | assumption | exact j0 (by assumption)))|(apply u1;rfl;rfl;rfl;rfl;exact u4 (by first | exact rfl | assumption | exact j0 (by assumption)))|(apply t8;rfl;rfl;(assumption);rfl)|(apply b7 (hc:=⟨hrun.run⟩);rfl;rfl;(exact rfl);rfl;(exact q7);rintro H1 ⟨r1,k1⟩)|(apply b7 (hc:=⟨(bH r1 h64 (by omega)).run⟩);rfl;rfl;(exact rfl);rfl;(exact q7);rintro H1 ⟨r1,k1⟩)|(apply w8;focus (repeat (first | exact q8 | (apply y6;rfl))))|apply j1|apply j3|apply j4|apply w9|(apply v7;rfl)|(with_reducible first|exact G1|apply F9|apply s4|apply s5)
   exact Z7 rfl rfl rfl ⟨⟨_,r1,lJ hx (by decide)⟩,by repeat (first | assumption | refine KpH.trans ?_ (by assumption))⟩
end Go.Proofs.TryzL
namespace Go.Proofs.TryzL
open Go.Proofs.Lz
set_option maxHeartbeats 4000000
theorem j21 {p:UInt8->Bool} {s:List UInt8} {i:Nat}:∀ c∈x9 p s i,p c=true:=by
 intro c hc;unfold x9 at hc;have:∀ l:List UInt8,c∈l.takeWhile p->p c=true:=by
  intro l;induction l with
  | nil=>intro h;simp at h
  | cons x l ih=>
    intro h;rw [List.takeWhile_cons] at h;split at h
    . rename_i hx;rcases List.mem_cons.1 h with rfl | h
      . exact hx
      . exact ih h
    . simp at h
 exact this _ hc
theorem qH {H:q9} {id:Nat} {x:Sc} (hx:j5 x.src x.pos=x) (hH:ScH id x H) (code:Nat) (hc:code≠0):Shr Vv 36 [.ptr id 0,.c (.int .i64 code),.c (.str [])] H (.c (.bool false)) (fun H'=>(∃ y,ScH id y H'/\O6 x.src code x.pos [] y)/\KpH id H H'):=by
 obtain ⟨H',h1,h2,h3⟩:=(iV hH (code:=code) (nm:=[])).run;exact ⟨H',h1,⟨_,h2,lJ hx hc⟩,h3⟩
theorem z35 {H:q9} {id:Nat} {x:Sc} (hx:j5 x.src x.pos=x) (hH:ScH id x H) (hp:x.pos<=x.src.length) (hl:x.src.length<2^30) :
 Shr Vv 28 [.ptr id 0] H (vV (J6 x.src x.pos)) (wY id H x.src (J6 x.src x.pos)):=by
 refine V7 zx2 ?_;have hl50:x.src.length<2^50:=by omega
 have hl60:x.src.length<2^60:=by omega
 have l1:=Y2 (p:=t7) (s:=x.src) hp;have hH0:H[id]?=some (.var (some 8) (scC x)):=hH;have hrun:=qq4 hH hp hl60;unfold J6;have hall:=j21 (p:=t7) (s:=x.src) (i:=x.pos);generalize x9 t7 x.src x.pos=t at *;repeat' first|apply j2|exact q7|exact j8 rfl|(apply j7;rfl;rfl)|(apply m6;rfl;rfl)|(apply s9;rfl;rfl)|(apply l5;rfl;rfl)|(apply m8;rfl;rfl;first | exact c6 (by first | exact rfl | assumption | exact j0 (by assumption)) | exact m9 (by first | exact rfl | assumption | exact j0 (by assumption)))|(apply t8;rfl;rfl;(assumption);rfl)|(apply b7 (hc:=⟨hrun.run⟩);rfl;rfl;(exact rfl);rfl;(exact q7);rintro H1 ⟨r1,k1⟩)|apply j1|apply j3|apply j4|apply x3
 refine I0 (fun p:Nat×Nat=>[(0,.ptr id 0),(2,.lbox (some 7) (.c T8)),(4,.c (.str t)),(5,.c (.int .i64 p.2)),(6,.c (.int .i64 p.1))]) (fun p=>p.1<=t.length/\p.2<=9223372036854775807/\G8 t 0=G8 (t.drop p.1) p.2) (fun p=>t.length - p.1) (0,0) ?_ ⟨Nat.zero_le _,Nat.zero_le _,by simp⟩ ?_
 . repeat' first|exact q8|refine d5 rfl ?_
 rintro ⟨n,a⟩ ⟨hn,ha,hf⟩;dsimp only at hn ha hf;dsimp only;have hA:=r1;have hH1:H1[id]?=some (.var (some 8) (scC x)):=r1;by_cases hns:n<t.length
 . have hdrop:t.drop n=t[n]::t.drop (n+1):=List.drop_eq_getElem_cons hns;have hd:t7 t[n]=true:=hall _ (List.getElem_mem _);obtain ⟨b1,b2⟩:=xH hd;have hqq:=rU ((t[n].toNat:Int) - 48) (by omega);by_cases hq:a<=(9223372036854775807 - (t[n].toNat - 48)) / 10
   . repeat' first|apply j2|exact q7|exact j8 rfl|(apply j7;rfl;rfl)|(apply b6;rfl;rfl;omega)|(apply I9;rfl;rfl;omega)|(apply Y6;rfl;rfl;omega)|(apply qA;rfl;rfl;omega)|(apply j9;rfl;rfl;rfl)|(apply u5;rfl)|(apply x7;rfl;rfl;rfl;exact gEg (by omega))|(apply l6;rfl;rfl;rfl)|(apply m6;rfl;rfl)|(apply R1;rfl;omega)|(apply w8;focus (repeat (first | exact q8 | (apply v6;rfl) | (apply d6;rfl) | (apply y6;rfl))))|apply j1|apply j3|apply j4|apply x3|apply v8|apply l0|(apply v7;rfl)|(with_reducible (first|apply x6|apply x5);intro hc)
     any_goals omega
     any_goals first|(exfalso;rw [hqq] at hc;omega)|skip
     . refine ⟨(n+1,10 * a+(t[n].toNat - 48)),?_,rfl,⟨by dsimp only;omega,by dsimp only;omega,?_⟩,by dsimp only;omega⟩
       . have e4:(10 * (a:Int)+((t[n].toNat:Int) - 48))=((10 * a+(t[n].toNat - 48):Nat):Int):=by omega
         repeat' first|exact q8|refine d5 rfl ?_|refine d5 ?_ ?_
         all_goals (show WV.c (CV.int .i64 (10 * (a:Int)+((t[n].toNat:Int) - 48)))=_;rw [e4])
       . rw [hf,hdrop];simp [G8,hd,hq]
   . have hnone:G8 t 0=none:=by rw [hf,hdrop];simp [G8,hd,hq]
     rw [hnone];repeat' first|apply j2|exact q7|exact j8 rfl|(apply j7;rfl;rfl)|(apply b6;rfl;rfl;omega)|(apply I9;rfl;rfl;omega)|(apply Y6;rfl;rfl;omega)|(apply qA;rfl;rfl;omega)|(apply j9;rfl;rfl;rfl)|(apply u5;rfl)|(apply x7;rfl;rfl;rfl;exact gEg (by omega))|(apply l6;rfl;rfl;rfl)|(apply m6;rfl;rfl)|(apply u1;rfl;rfl;rfl;rfl;exact u4 (by first | exact rfl | assumption | exact j0 (by assumption)))|(apply R1;rfl;omega)|(apply b7 (hc:=⟨(qH hx hA 6 (by decide)).run⟩);rfl;rfl;(exact rfl);rfl;(exact q7);rintro H1 ⟨r1,k1⟩)|(apply w8;focus (repeat (first | exact q8 | (apply v6;rfl) | (apply d6;rfl) | (apply y6;rfl))))|apply j1|apply j3|apply j4|apply x3|apply v8|apply w9|apply l0|(apply v7;rfl)|(with_reducible (first|apply x6|apply x5);intro hc)
     any_goals omega
     any_goals first|(exfalso;rw [hqq] at hc;omega)|skip
     . exact Z7 rfl rfl rfl ⟨r1,by repeat (first | assumption | refine KpH.trans ?_ (by assumption))⟩
 . have hsome:G8 t 0=some a:=by rw [hf,List.drop_of_length_le (by omega)];rfl
   rw [hsome];repeat' first|apply j2|exact q7|exact j8 rfl|(apply j7;rfl;rfl)|(apply b6;rfl;rfl;omega)|(apply I9;rfl;rfl;omega)|(apply Y6;rfl;rfl;omega)|(apply qA;rfl;rfl;omega)|(apply j9;rfl;rfl;rfl)|(apply u5;rfl)|(apply x7;rfl;rfl;rfl;exact gEg (by omega))|(apply l6;rfl;rfl;rfl)|(apply m6;rfl;rfl)|(apply u1;rfl;rfl;rfl;rfl;exact u4 (by first | exact rfl | assumption | exact j0 (by assumption)))|(apply R1;rfl;omega)|(apply b7 (hc:=⟨(adv (n:=t.length) hx hA l1 hl50).run⟩);rfl;rfl;(exact rfl);rfl;(exact j8 rfl);rintro H1 ⟨r1,k1⟩)|(apply w8;focus (repeat (first | exact q8 | (apply v6;rfl) | (apply d6;rfl) | (apply y6;rfl))))|apply j1|apply j3|apply j4|apply x3|apply v8|apply w9|apply l0|(apply v7;rfl)|(with_reducible (first|apply x6|apply x5);intro hc)
   any_goals omega
   . exact Z7 rfl rfl rfl ⟨⟨_,r1,rfl⟩,by repeat (first | assumption | refine KpH.trans ?_ (by assumption))⟩
def hexV (c:UInt8):Option Nat:=if t7 c then some (c.toNat - 48) else if 97<=c.toNat/\c.toNat<=102 then some (c.toNat - 87) else if 65<=c.toNat/\c.toNat<=70 then some (c.toNat - 55) else none
def hexW (o:Option Nat):WV:=match o with
 | some v=>.tup [.c (.int .i64 v),.c (.bool true)]
 | none=>.tup [.c (.int .i64 0),.c (.bool false)]
theorem eA (c:UInt8):Rets Vv 86 [.c (bC c)] (hexW (hexV c)):=by
 refine m7 zv1 ?_;cases hd:t7 c with
 | true=>
   obtain ⟨b1,b2⟩:=xH hd;have h27:=Q9 c;rw [hd] at h27;have e:hexV c=some (c.toNat - 48):=by unfold hexV;rw [if_pos hd]
   rw [e];repeat' first|apply j2|exact q7|(apply j7;rfl;rfl)|(apply qA;rfl;rfl;omega)|(apply R1;rfl;omega)|(apply q6 (hc:=h27);rfl;rfl;rfl)|(apply w8;focus (repeat (first | exact q8 | (apply v6;rfl))))|apply j1|apply j3|apply j4|apply x3|apply w9|(apply m5;rfl;(with_reducible rfl))|(apply V1;(exact ShI.c rfl);(exact ShI.c rfl);(exact by decide))
   all_goals (simp only [hexW];congr 4;omega)
 | false=>
   have h27:=Q9 c;rw [hd] at h27;repeat' first|apply j2|exact q7|exact j8 rfl|(apply j7;rfl;rfl)|(apply b6;rfl;rfl;omega)|(apply qA;rfl;rfl;omega)|(apply j9;rfl;rfl;rfl)|(apply y9;rfl;(with_reducible rfl);rfl)|(apply y0;rfl;(with_reducible rfl);rfl)|(apply R1;rfl;omega)|(apply q6 (hc:=h27);rfl;rfl;rfl)|(apply w8;focus (repeat (first | exact q8 | (apply v6;rfl))))|apply j1|apply j3|apply j4|apply x3|apply v8|apply w9|(apply g9;rfl;(with_reducible rfl))|(apply v7;rfl)|(apply x8;rfl;(with_reducible rfl))|(apply b9;rfl;(with_reducible rfl))|(apply y7;rfl)|(with_reducible (first|apply x6|apply x5);intro hc)|(apply V1;(exact ShI.c rfl);(exact ShI.c rfl);(exact by decide))
   all_goals first
    | (exfalso;omega)
    | (have e:hexV c=some (c.toNat - 87):=by
        unfold hexV;rw [if_neg (by rw [hd];simp),if_pos (by omega)]
       rw [e];simp only [hexW];congr 4;omega)
    | (have e:hexV c=some (c.toNat - 55):=by
        unfold hexV;rw [if_neg (by rw [hd];simp),if_neg (by omega),if_pos (by omega)]
       rw [e];simp only [hexW];congr 4;omega)
    | (have e:hexV c=none:=by
        unfold hexV;rw [if_neg (by rw [hd];simp),if_neg (by omega),if_neg (by omega)]
       rw [e];rfl)
def LtH (li id at':Nat) (H:q9):Prop:=H[li]?=some (.var (some 2) [.ptr id 0,.c (.int .i64 at')])
def a6 (s:List UInt8) (i at':Nat):Option (Nat×Nat):=match s[at']? with
 | none=>some (7,i)
 | some c=>if N3 c=false then some (5,at') else if c.toNat<32 then some (7,i) else none
def ja8 (li id:Nat) (H:q9) (x:Sc) (at':Nat) (r:Option (Nat×Nat)):q9->Prop:=fun H'=>match r with
 | some (code,p)=>(∃ y,ScH id y H'/\O6 x.src code p [] y)/\(∀ i o,i≠id->i≠li->H[i]?=some o->H'[i]?=some o)
 | none=>(LtH li id (at'+1) H'/\ScH id x H')/\(∀ i o,i≠id->i≠li->H[i]?=some o->H'[i]?=some o)
theorem qs6 {H:q9} {id j:Nat} {x:Sc} (hx:j5 x.src x.pos=x) (hH:ScH id x H) (h1:x.pos<=j) (h2:j<=x.src.length) (hl:x.src.length<2^30) :
 Shr Vv 34 [.ptr id 0,.c (.int .i64 ((j:Int) - x.pos))] H (.tup []) (fun H'=>ScH id (j5 x.src j) H'/\KpH id H H'):=by
 obtain ⟨H',a,b,c⟩:=(adv (n:=j - x.pos) hx hH (by omega) (by omega)).run;have e1:((j - x.pos:Nat):Int)=(j:Int) - x.pos:=by omega
 have e2:x.pos+(j - x.pos)=j:=by omega
 rw [e1] at a;rw [e2] at b;exact ⟨H',a,b,c⟩
theorem mN {H:q9} {id li j:Nat} {x:Sc} {o:WO} (hx:j5 x.src x.pos=x) (hH:ScH id x H) (hL:H[li]?=some o) (hne:li≠id) (h1:x.pos<=j) (h2:j<=x.src.length) (hl:x.src.length<2^30) :
 Shr Vv 34 [.ptr id 0,.c (.int .i64 ((j:Int) - x.pos))] H (.tup []) (fun H'=>H'[li]?=some o/\(ScH id (j5 x.src j) H'/\KpH id H H')):=by
 obtain ⟨H',a,b,c⟩:=(qs6 hx hH h1 h2 hl).run;exact ⟨H',a,c li o hne hL,b,c⟩
theorem za3 {H:q9} {li id at':Nat} {x:Sc} (hx:j5 x.src x.pos=x) (hL:LtH li id at' H) (hH:ScH id x H) (hne:li≠id) (hp:x.pos<=at') (hat:at'<=x.src.length) (hl:x.src.length<2^30) :
 Shr Vv 58 [.ptr li 0] H (match a6 x.src x.pos at' with | some _=>.tup [.c (.int .u8 0),.c (.bool false)] | none=>.tup [.c (bC (x.src.getD at' 0)),.c (.bool true)]) (ja8 li id H x at' (a6 x.src x.pos at')):=by
 refine V7 ql7 ?_;have hL0:H[li]?=some (.var (some 2) [.ptr id 0,.c (.int .i64 at')]):=hL;have hH0:H[id]?=some (.var (some 8) (scC x)):=hH;cases hc0:x.src[at']? with
 | none=>
   have e:a6 x.src x.pos at'=some (7,x.pos):=by unfold a6;rw [hc0]
   rw [e];have hlen:x.src.length<=at':=List.getElem?_eq_none_iff.1 hc0;repeat' first|apply j2|exact q7|exact j8 rfl|(apply j7;rfl;rfl)|(apply j9;rfl;rfl;rfl)|(apply u5;rfl)|(apply x7;rfl;rfl;rfl;exact gEg (by omega))|(apply m6;rfl;rfl)|(apply s9;rfl;rfl)|(apply l5;rfl;rfl)|(apply t8;rfl;rfl;(assumption);rfl)|(apply vM;rfl;rfl;(assumption);rfl)|(apply b7 (hc:=⟨(qH hx hH 7 (by decide)).run⟩);rfl;rfl;(exact rfl);rfl;(exact q7);rintro H1 ⟨r1,k1⟩)|(apply w8;focus (repeat (first | exact q8 | (apply d6;rfl))))|apply j1|apply j3|apply j4|apply v8|apply w9|apply o0|apply o7|(apply v7;rfl)|(apply o6;(exact rfl))|(with_reducible (first|apply x6|apply x5);intro hc)|(apply f8;rfl)|(apply o8;rfl)|(apply f9;rfl)
   . exact qY rfl rfl rfl ⟨r1,fun i o h1 _ ho=>k1 i o h1 ho⟩
   . exfalso;omega
 | some c=>
   have hlt:at'<x.src.length:=(gEs hc0).1;have hcc:x.src.getD at' 0=c:=by rw [List.getD_eq_getElem?_getD,hc0];rfl
   have h53:=rN c;cases hk:N3 c with
   | false=>
     rw [hk] at h53;have e:a6 x.src x.pos at'=some (5,at'):=by unfold a6;rw [hc0];simp [hk]
     rw [e];repeat' first|apply j2|exact q7|exact j8 rfl|(apply j7;rfl;rfl)|(apply I9;rfl;rfl;omega)|(apply j9;rfl;rfl;rfl)|(apply u5;rfl)|(apply s6;rfl;rfl)|(apply x7;rfl;rfl;rfl;assumption)|(apply m6;rfl;rfl)|(apply s9;rfl;rfl)|(apply l5;rfl;rfl)|(apply t8;rfl;rfl;(assumption);rfl)|(apply vM;rfl;rfl;(assumption);rfl)|(apply q6 (hc:=h53);rfl;rfl;rfl)|(apply b7 (hc:=⟨(mN hx hH hL0 hne hp hat hl).run⟩);rfl;rfl;(exact rfl);rfl;(exact j8 rfl);rintro H1 ⟨r1,k1⟩)|(apply b7 (hc:=⟨(qH (x:=j5 x.src at') rfl k1.1 5 (by decide)).run⟩);rfl;rfl;(exact rfl);rfl;(exact q7);rintro H1 ⟨r1,k1⟩)|(apply w8;focus (repeat (first | exact q8 | (apply d6;rfl))))|apply j1|apply j3|apply j4|apply v8|apply w9|apply o0|apply o7|(apply v7;rfl)|(apply o6;(exact rfl))|(with_reducible first|exact G1|apply F9|apply s4|apply s5)|(with_reducible (first|apply x6|apply x5);intro hc)|(apply f8;rfl)|(apply o8;rfl)|(apply kG)|(apply f9;rfl)
     any_goals (exfalso;omega)
     rename_i HA ra ka;exact qY rfl rfl rfl ⟨r1,fun i o h1 _ ho=>k1 i o h1 (ka.2 i o h1 ho)⟩
   | true=>
     rw [hk] at h53;by_cases h32:c.toNat<32
     . have e:a6 x.src x.pos at'=some (7,x.pos):=by unfold a6;rw [hc0];simp [hk,h32]
       rw [e];repeat' first|apply j2|exact q7|exact j8 rfl|(apply j7;rfl;rfl)|(apply b6;rfl;rfl;omega)|(apply j9;rfl;rfl;rfl)|(apply u5;rfl)|(apply s6;rfl;rfl)|(apply x7;rfl;rfl;rfl;assumption)|(apply m6;rfl;rfl)|(apply s9;rfl;rfl)|(apply l5;rfl;rfl)|(apply t8;rfl;rfl;(assumption);rfl)|(apply vM;rfl;rfl;(assumption);rfl)|(apply Q6;rfl;rfl;rfl;rfl;(assumption);rfl;rfl;intro H1 hH1 kH1)|(apply q6 (hc:=h53);rfl;rfl;rfl)|(apply b7 (hc:=⟨(qH hx hH 7 (by decide)).run⟩);rfl;rfl;(exact rfl);rfl;(exact q7);rintro H1 ⟨r1,k1⟩)|(apply w8;focus (repeat (first | exact q8 | (apply v6;rfl) | (apply d6;rfl))))|apply j1|apply j3|apply j4|apply v8|apply w9|apply o0|apply o7|(apply v7;rfl)|(apply o6;(exact rfl))|(with_reducible first|exact C2|apply C3|apply s4|apply s5)|(with_reducible (first|apply x6|apply x5);intro hc)|(apply f8;rfl)|(apply o8;rfl)|(apply f9;rfl)
       all_goals first|(exfalso;omega)|exact qY rfl rfl rfl ⟨r1,fun i o h1 _ ho=>k1 i o h1 ho⟩
     . have e:a6 x.src x.pos at'=none:=by unfold a6;rw [hc0];simp [hk,h32]
       rw [e,hcc];repeat' first|apply j2|exact q7|exact j8 rfl|(apply j7;rfl;rfl)|(apply b6;rfl;rfl;omega)|(apply j9;rfl;rfl;rfl)|(apply u5;rfl)|(apply s6;rfl;rfl)|(apply x7;rfl;rfl;rfl;assumption)|(apply m6;rfl;rfl)|(apply s9;rfl;rfl)|(apply l5;rfl;rfl)|(apply t8;rfl;rfl;(assumption);rfl)|(apply vM;rfl;rfl;(assumption);rfl)|(apply Q6;rfl;rfl;rfl;rfl;(assumption);rfl;rfl;intro H1 hH1 kH1)|(apply q6 (hc:=h53);rfl;rfl;rfl)|(apply w8;focus (repeat (first | exact q8 | (apply v6;rfl) | (apply d6;rfl))))|apply j1|apply j3|apply j4|apply v8|apply w9|apply o0|apply o7|(apply v7;rfl)|(apply o6;(exact rfl))|(with_reducible first|exact C2|apply C3|apply s4|apply s5)|(with_reducible (first|apply x6|apply x5);intro hc)|(apply f8;rfl)|(apply o8;rfl)|(apply f9;rfl)
       any_goals (exfalso;omega)
       exact qY rfl rfl rfl ⟨⟨hH1,kH1 id _ (Ne.symm hne) hH⟩,fun i o _ h2 ho=>kH1 i o h2 ho⟩
end Go.Proofs.TryzL
