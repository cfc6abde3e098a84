/- Chapter 02: the lexer's numbers. -/
import Derived.Test.YtencoceemejcnaaGreatDoorLzT33
set_option linter.unusedSimpArgs false
set_option linter.unusedVariables false
namespace Go.Proofs.TryzL
open Go.Proofs.Lz
set_option maxHeartbeats 4000000
theorem adv {H:z18} {id n:Nat} {x:Sc} (hx:scAt x.src x.pos=x) (hH:ScH id x H) (hn:x.pos+n≤x.src.length) (hl:x.src.length<2^50) :
 Shr Vv 34 [.ptr id 0,.c (.int .i64 n)] H (.tup []) (fun H'=>ScH id (scAt x.src (x.pos+n)) H'∧KpH id H H'):=by
 obtain ⟨H',h,h1,h2⟩:=(jo1 (n:=n) hH (by rw [← hx];exact wn1 _ _) hn hl).run
 refine ⟨H',h,?_,h2⟩
 have:=v38 (s:=x.src) (i:=x.pos) n hn
 rw [hx] at this
 rw [← this];exact h1
theorem zt7 {H:z18} {id:Nat} {x:Sc} {t:List UInt8} (hH:ScH id x H) (h:t.length≤64):Shr Vv 32 [.ptr id 0,.c (.str t)] H (.c (.bool true)) (fun H'=>ScH id x H'∧KpH id H H'):=by
 obtain ⟨H',h1,h2,h3⟩:=(jy1 hH (t:=t) (by omega)).run
 rw [decide_eq_true h] at h1
 rw [if_pos h] at h2
 exact ⟨H',h1,h2,h3⟩
theorem q39 {H:z18} {id:Nat} {x:Sc} {t:List UInt8} (hH:ScH id x H) (h:¬ t.length≤64) (hl:t.length<2^60):Shr Vv 32 [.ptr id 0,.c (.str t)] H (.c (.bool false)) (fun H'=>ScH id (q95 3 (t.take 64) x) H'∧KpH id H H'):=by
 obtain ⟨H',h1,h2,h3⟩:=(jy1 hH (t:=t) hl).run
 rw [decide_eq_false h] at h1
 rw [if_neg h] at h2
 exact ⟨H',h1,h2,h3⟩
def qx9 (id:Nat) (H:z18) (s:List UInt8) (u:U):z18→Prop:=fun H'=>(∃ y,ScH id y H'∧okU s u y)∧KpH id H H'
theorem j44 {x:Sc} (hx:scAt x.src x.pos=x) {code:Nat} {nm:List UInt8} (hc:code≠0):zf3 x.src code x.pos nm (q95 code nm x):=by
 have:=j65 x.src x.pos code nm hc
 rwa [hx] at this
theorem name26 {H:z18} {id:Nat} {x:Sc} {c:UInt8} (hx:scAt x.src x.pos=x) (hH:ScH id x H) (hc:x.src[x.pos]?=some c) (hcl:(upperB c||lowerB c)=true) (hl:x.src.length<2^30) :
 Shr Vv 26 [.ptr id 0] H (resU (zr0 x.src x.pos)) (qx9 id H x.src (zr0 x.src x.pos)):=by
 refine zh9 vb5 ?_
 have hlt:x.pos<x.src.length:=(List.getElem?_eq_some_iff.1 hc).1
 have hid:zb2 c=true:=by unfold zb2;rw [hcl];rfl
 have hl50:x.src.length<2^50:=by omega
 have hl60:x.src.length<2^60:=by omega
 have hple:x.pos≤x.src.length:=by omega
 have l1:=zi5 (p:=zb2) (s:=x.src) hple
 have t0:(z83 zb2 x.src x.pos)[0]?=some c:=by rw [qx8 hc hid];rfl
 have hH0:H[id]?=some (.var (some 8) (scC x)):=hH
 have hN:zr0 x.src x.pos=if upperB c=true∧x.src[x.pos+(z83 zb2 x.src x.pos).length]?=some 46∧q27 x.src (x.pos+(z83 zb2 x.src x.pos).length+1)≠[] then zj1 x.pos (z83 zb2 x.src x.pos) (q27 x.src (x.pos+(z83 zb2 x.src x.pos).length+1)) (x.pos+(z83 zb2 x.src x.pos).length+1+(q27 x.src (x.pos+(z83 zb2 x.src x.pos).length+1)).length) else zj1 x.pos [] (z83 zb2 x.src x.pos) (x.pos+(z83 zb2 x.src x.pos).length):=by
  unfold zr0
  simp only [hc,Option.some.injEq,exists_eq_left']
 rw [hN]
 generalize ht:z83 zb2 x.src x.pos=t at *
 have hrun:=we7 hH hple hl60
 rw [ht] at hrun
 by_cases h64:t.length≤64
 · by_cases hdot:upperB c=true∧x.src[x.pos+t.length]?=some 46
   · have hd:=hdot.2
     have hup:=hdot.1
     have hj:x.pos+t.length+1≤x.src.length:=by have:=(List.getElem?_eq_some_iff.1 hd).1;omega
     have l3:=jb2 hj
     generalize hq:q27 x.src (x.pos+t.length+1)=q at *
     have hqr:∀ {H1:z18},ScH id x H1→Shr Vv 57 [.ptr id 0,.c (.int .i64 (x.pos+t.length+1:Nat))] H1 (.c (.str q)) (fun H'=>ScH id x H'∧KpH id H1 H'):=fun r=>by
      have:=j51 (j:=x.pos+t.length+1) r hj hl
      rwa [hq] at this
     by_cases hqn:q=[]
     · rw [if_neg (fun h=>h.2.2 hqn)]
       have hw:zj1 x.pos [] t (x.pos+t.length)=.tok (nmOp t) [] t 0 (x.pos+t.length):=by
        unfold zj1;rw [if_neg (by simp),if_neg (by omega)]
       rw [hw]
       repeat' first|apply z01|exact z12|exact z19 rfl|(apply z15;rfl;rfl)|(apply za2;rfl;rfl;omega)|(apply z30;(iterate 3 rfl))|(apply z41;rfl)|(apply z84;rfl;rfl)|(apply z17;rfl;(with_reducible rfl);rfl)|(apply z14;rfl;(with_reducible rfl);rfl)|(apply z71;(iterate 3 rfl);assumption)|(apply z24;rfl;rfl)|(apply z16;rfl;rfl)|(apply z29;rfl;rfl)|(apply z81;rfl;rfl;first | exact z61 (by first | exact rfl | assumption | exact z05 (by assumption)) | exact z66 (by first | exact rfl | assumption | exact z05 (by assumption)))|(apply z25;(iterate 4 rfl);exact z34 (by first | exact rfl | assumption | exact z05 (by assumption)))|(apply z22;rfl;rfl;(assumption);rfl)|(apply z27 (hc:=⟨hrun.run⟩);rfl;rfl;(exact rfl);rfl;(exact z12);rintro H1 ⟨r1,k1⟩)|(apply z27 (hc:=⟨(zt7 r1 h64).run⟩);rfl;rfl;(exact rfl);rfl;(exact z12);rintro H1 ⟨r1,k1⟩)|(apply z07 (hc:=zf2 c);rfl;rfl;rfl)|(apply z07 (hc:=qg0 t (by omega));rfl;rfl;rfl)|(apply z27 (hc:=⟨(hqr r1).run⟩);rfl;rfl;(exact rfl);rfl;(exact z12);rintro H1 ⟨r1,k1⟩)|(apply z27 (hc:=⟨(adv (n:=t.length) hx r1 l1 hl50).run⟩);rfl;rfl;(exact rfl);rfl;(exact z19 rfl);rintro H1 ⟨r1,k1⟩)|(apply z04;focus (repeat (first | exact z23 | (apply kq_c;rfl) | (apply z50;rfl) | (apply z40;rfl))))|apply z02|apply z00|apply z03|apply z08|apply z09|(apply z32;rfl;(with_reducible rfl))|(apply z13;rfl)|(apply z48;rfl;(with_reducible rfl))|(apply z44;rfl;(with_reducible rfl))|(apply z38;rfl)|with_reducible exact zb1|with_reducible apply zb3|with_reducible apply z58|with_reducible apply z60|(with_reducible apply za1;intro hc)|(with_reducible apply zi9;intro hc)|(with_reducible apply z74;intro hc)|(with_reducible apply zb9;intro hc)|(with_reducible apply z67;intro hc)|(with_reducible apply z49;intro hc)|(with_reducible apply zi4;intro hc)
       all_goals first|(exfalso;contradiction)|(exfalso;omega)|(exfalso;simp_all;done)|exact zu2 rfl rfl rfl ⟨⟨_,r1,rfl⟩,by repeat (first | assumption | refine KpH.trans ?_ (by assumption))⟩
     · rw [if_pos ⟨hup,hd,hqn⟩]
       by_cases hq64:q.length≤64
       · have hw:zj1 x.pos t q (x.pos+t.length+1+q.length)=.tok (nmOp q) t q 0 (x.pos+t.length+1+q.length):=by
          unfold zj1;rw [if_neg (by omega),if_neg (by omega)]
         rw [hw]
         have e:x.pos+(t.length+1+q.length)=x.pos+t.length+1+q.length:=by omega
         repeat' first|apply z01|exact z12|exact z19 rfl|(apply z15;rfl;rfl)|(apply z43;(iterate 3 rfl))|(apply za2;rfl;rfl;omega)|(apply z30;(iterate 3 rfl))|(apply z41;rfl)|(apply z84;rfl;rfl)|(apply z17;rfl;(with_reducible rfl);rfl)|(apply z14;rfl;(with_reducible rfl);rfl)|(apply z71;(iterate 3 rfl);assumption)|(apply z47;rfl;exact zb7 rfl)|(apply z24;rfl;rfl)|(apply z16;rfl;rfl)|(apply z29;rfl;rfl)|(apply z81;rfl;rfl;first | exact z61 (by first | exact rfl | assumption | exact z05 (by assumption)) | exact z66 (by first | exact rfl | assumption | exact z05 (by assumption)))|(apply z25;(iterate 4 rfl);exact z34 (by first | exact rfl | assumption | exact z05 (by assumption)))|(apply zs6;(iterate 8 rfl);exact qc2 (by first | exact rfl | assumption | exact z05 (by assumption)))|(apply z22;rfl;rfl;(assumption);rfl)|(apply z27 (hc:=⟨hrun.run⟩);rfl;rfl;(exact rfl);rfl;(exact z12);rintro H1 ⟨r1,k1⟩)|(apply z27 (hc:=⟨(zt7 r1 h64).run⟩);rfl;rfl;(exact rfl);rfl;(exact z12);rintro H1 ⟨r1,k1⟩)|(apply z27 (hc:=⟨(zt7 r1 hq64).run⟩);rfl;rfl;(exact rfl);rfl;(exact z12);rintro H1 ⟨r1,k1⟩)|(apply z07 (hc:=zf2 c);rfl;rfl;rfl)|(apply z07 (hc:=qg0 q (by omega));rfl;rfl;rfl)|(apply z27 (hc:=⟨(hqr r1).run⟩);rfl;rfl;(exact rfl);rfl;(exact z12);rintro H1 ⟨r1,k1⟩)|(apply z27 (hc:=⟨(adv (n:=t.length+1+q.length) hx r1 (by omega) hl50).run⟩);rfl;rfl;(exact rfl);rfl;(exact z19 rfl);rintro H1 ⟨r1,k1⟩)|(apply z04;focus (repeat (first | exact z23 | (apply kq_c;rfl) | (apply z50;rfl) | (apply z40;rfl))))|apply z02|apply z00|apply z03|apply z08|apply z09|(apply z32;rfl;(with_reducible rfl))|(apply z13;rfl)|(apply z48;rfl;(with_reducible rfl))|(apply z44;rfl;(with_reducible rfl))|(apply z38;rfl)|with_reducible exact zb1|with_reducible apply zb3|with_reducible apply z58|with_reducible apply z60|(with_reducible apply za1;intro hc)|(with_reducible apply zi9;intro hc)|(with_reducible apply z74;intro hc)|(with_reducible apply zb9;intro hc)|(with_reducible apply z67;intro hc)|(with_reducible apply z49;intro hc)|(with_reducible apply zi4;intro hc)
         all_goals first|(exfalso;contradiction)|(exfalso;omega)|(exfalso;simp_all;done)|(rw [e] at r1;exact zu2 rfl rfl rfl ⟨⟨_,r1,rfl⟩,by repeat (first | assumption | refine KpH.trans ?_ (by assumption))⟩)
       · have hw:zj1 x.pos t q (x.pos+t.length+1+q.length)=.bad 3 x.pos (q.take 64):=by
          unfold zj1;rw [if_neg (by omega),if_pos (by omega)]
         rw [hw]
         repeat' first|apply z01|exact z12|exact z19 rfl|(apply z15;rfl;rfl)|(apply za2;rfl;rfl;omega)|(apply z30;(iterate 3 rfl))|(apply z41;rfl)|(apply z84;rfl;rfl)|(apply z17;rfl;(with_reducible rfl);rfl)|(apply z14;rfl;(with_reducible rfl);rfl)|(apply z71;(iterate 3 rfl);assumption)|(apply z77;(iterate 3 rfl))|(apply z24;rfl;rfl)|(apply z16;rfl;rfl)|(apply z29;rfl;rfl)|(apply z81;rfl;rfl;first | exact z61 (by first | exact rfl | assumption | exact z05 (by assumption)) | exact z66 (by first | exact rfl | assumption | exact z05 (by assumption)))|(apply z25;(iterate 4 rfl);exact z34 (by first | exact rfl | assumption | exact z05 (by assumption)))|(apply z22;rfl;rfl;(assumption);rfl)|(apply z27 (hc:=⟨hrun.run⟩);rfl;rfl;(exact rfl);rfl;(exact z12);rintro H1 ⟨r1,k1⟩)|(apply z27 (hc:=⟨(zt7 r1 h64).run⟩);rfl;rfl;(exact rfl);rfl;(exact z12);rintro H1 ⟨r1,k1⟩)|(apply z27 (hc:=⟨(q39 r1 hq64 (by omega)).run⟩);rfl;rfl;(exact rfl);rfl;(exact z12);rintro H1 ⟨r1,k1⟩)|(apply z07 (hc:=zf2 c);rfl;rfl;rfl)|(apply z27 (hc:=⟨(hqr r1).run⟩);rfl;rfl;(exact rfl);rfl;(exact z12);rintro H1 ⟨r1,k1⟩)|(apply z04;focus (repeat (first | exact z23 | (apply kq_c;rfl) | (apply z50;rfl) | (apply z40;rfl))))|apply z02|apply z00|apply z03|apply z08|apply z09|(apply z32;rfl;(with_reducible rfl))|(apply z13;rfl)|(apply z48;rfl;(with_reducible rfl))|(apply z44;rfl;(with_reducible rfl))|(apply z38;rfl)|with_reducible exact zd9|with_reducible exact zb1|with_reducible apply zb3|with_reducible apply ze4|with_reducible apply z58|with_reducible apply z60|(with_reducible apply za1;intro hc)|(with_reducible apply zi9;intro hc)|(with_reducible apply z74;intro hc)|(with_reducible apply zb9;intro hc)|(with_reducible apply z67;intro hc)|(with_reducible apply z49;intro hc)|(with_reducible apply zi4;intro hc)
         all_goals first|(exfalso;contradiction)|(exfalso;omega)|(exfalso;simp_all;done)|exact zu2 rfl rfl rfl ⟨⟨_,r1,j44 hx (by decide)⟩,by repeat (first | assumption | refine KpH.trans ?_ (by assumption))⟩
   · rw [if_neg (fun h=>hdot ⟨h.1,h.2.1⟩)]
     have hw:zj1 x.pos [] t (x.pos+t.length)=.tok (nmOp t) [] t 0 (x.pos+t.length):=by
      unfold zj1;rw [if_neg (by simp),if_neg (by omega)]
     rw [hw]
     have hdot2:upperB c=true→∀ d,x.src[x.pos+t.length]?=some d→d≠46:=fun h d hd e=>hdot ⟨h,by rw [hd,e]⟩
     repeat' first|apply z01|exact z12|exact z19 rfl|(apply z15;rfl;rfl)|(apply za2;rfl;rfl;omega)|(apply z30;(iterate 3 rfl))|(apply z41;rfl)|(apply z84;rfl;rfl)|(apply z17;rfl;(with_reducible rfl);rfl)|(apply z14;rfl;(with_reducible rfl);rfl)|(apply z71;(iterate 3 rfl);assumption)|(apply z71;(iterate 3 rfl);exact List.getElem?_eq_getElem (by omega))|(apply z24;rfl;rfl)|(apply z16;rfl;rfl)|(apply z29;rfl;rfl)|(apply z81;rfl;rfl;first | exact z61 (by first | exact rfl | assumption | exact z05 (by assumption)) | exact z66 (by first | exact rfl | assumption | exact z05 (by assumption)))|(apply z25;(iterate 4 rfl);exact z34 (by first | exact rfl | assumption | exact z05 (by assumption)))|(apply z22;rfl;rfl;(assumption);rfl)|(apply z27 (hc:=⟨hrun.run⟩);rfl;rfl;(exact rfl);rfl;(exact z12);rintro H1 ⟨r1,k1⟩)|(apply z27 (hc:=⟨(zt7 r1 h64).run⟩);rfl;rfl;(exact rfl);rfl;(exact z12);rintro H1 ⟨r1,k1⟩)|(apply z07 (hc:=zf2 c);rfl;rfl;rfl)|(apply z07 (hc:=qg0 t (by omega));rfl;rfl;rfl)|(apply z27 (hc:=⟨(adv (n:=t.length) hx r1 l1 hl50).run⟩);rfl;rfl;(exact rfl);rfl;(exact z19 rfl);rintro H1 ⟨r1,k1⟩)|(apply z04;focus (repeat (first | exact z23 | (apply kq_c;rfl) | (apply z50;rfl) | (apply z40;rfl))))|apply z02|apply z00|apply z03|apply z08|apply z09|(apply z32;rfl;(with_reducible rfl))|(apply z13;rfl)|(apply z48;rfl;(with_reducible rfl))|(apply z44;rfl;(with_reducible rfl))|(apply z38;rfl)|with_reducible exact zb1|with_reducible apply zb3|with_reducible apply z58|with_reducible apply z60|(with_reducible apply za1;intro hc)|(with_reducible apply z74;intro hc)|(with_reducible apply z67;intro hc)|(with_reducible apply z49;intro hc)|(with_reducible apply zi4;intro hc)
     all_goals first|exact zu2 rfl rfl rfl ⟨⟨_,r1,rfl⟩,by repeat (first | assumption | refine KpH.trans ?_ (by assumption))⟩|(exfalso;exact hdot2 (by assumption) _ (List.getElem?_eq_getElem (by omega)) (UInt8.toNat_inj.1 (by have h46:(46:UInt8).toNat=46:=rfl;omega)))
 · have hw:∀ q e,zj1 x.pos t q e=.bad 3 x.pos (t.take 64):=by intro q e;unfold zj1;rw [if_pos (by omega)]
   have hw2:∀ e,zj1 x.pos [] t e=.bad 3 x.pos (t.take 64):=by intro e;unfold zj1;rw [if_neg (by simp),if_pos (by omega)]
   rw [hw,hw2,ite_self]
   repeat' first|apply z01|exact z12|exact z19 rfl|(apply z15;rfl;rfl)|(apply z84;rfl;rfl)|(apply z77;(iterate 3 rfl))|(apply z24;rfl;rfl)|(apply z16;rfl;rfl)|(apply z29;rfl;rfl)|(apply z81;rfl;rfl;first | exact z61 (by first | exact rfl | assumption | exact z05 (by assumption)) | exact z66 (by first | exact rfl | assumption | exact z05 (by assumption)))|(apply z25;(iterate 4 rfl);exact z34 (by first | exact rfl | assumption | exact z05 (by assumption)))|(apply z22;rfl;rfl;(assumption);rfl)|(apply z27 (hc:=⟨hrun.run⟩);rfl;rfl;(exact rfl);rfl;(exact z12);rintro H1 ⟨r1,k1⟩)|(apply z27 (hc:=⟨(q39 r1 h64 (by omega)).run⟩);rfl;rfl;(exact rfl);rfl;(exact z12);rintro H1 ⟨r1,k1⟩)|(apply z04;focus (repeat (first | exact z23 | (apply z40;rfl))))|apply z02|apply z00|apply z03|apply z09|(apply z13;rfl)|with_reducible exact zd9|with_reducible apply ze4|with_reducible apply z58|with_reducible apply z60
   exact zu2 rfl rfl rfl ⟨⟨_,r1,j44 hx (by decide)⟩,by repeat (first | assumption | refine KpH.trans ?_ (by assumption))⟩
end Go.Proofs.TryzL
namespace Go.Proofs.TryzL
open Go.Proofs.Lz
set_option maxHeartbeats 4000000
theorem wb5 {p:UInt8→Bool} {s:List UInt8} {i:Nat}:∀ c∈z83 p s i,p c=true:=by
 intro c hc
 unfold z83 at hc
 have:∀ l:List UInt8,c∈l.takeWhile p→p c=true:=by
  intro l
  induction l with
  | nil=>intro h;simp at h
  | cons x l ih=>
    intro h
    rw [List.takeWhile_cons] at h
    split at h
    · rename_i hx
      rcases List.mem_cons.1 h with rfl | h
      · exact hx
      · exact ih h
    · simp at h
 exact this _ hc
theorem qj9 {H:z18} {id:Nat} {x:Sc} (hx:scAt x.src x.pos=x) (hH:ScH id x H) (code:Nat) (hc:code≠0):Shr Vv 36 [.ptr id 0,.c (.int .i64 code),.c (.str [])] H (.c (.bool false)) (fun H'=>(∃ y,ScH id y H'∧zf3 x.src code x.pos [] y)∧KpH id H H'):=by
 obtain ⟨H',h1,h2,h3⟩:=(wh2 hH (code:=code) (nm:=[])).run
 exact ⟨H',h1,⟨_,h2,j44 hx hc⟩,h3⟩
theorem ja2 {H:z18} {id:Nat} {x:Sc} (hx:scAt x.src x.pos=x) (hH:ScH id x H) (hp:x.pos≤x.src.length) (hl:x.src.length<2^30) :
 Shr Vv 28 [.ptr id 0] H (resU (numU x.src x.pos)) (qx9 id H x.src (numU x.src x.pos)):=by
 refine zh9 vc9 ?_
 have hl50:x.src.length<2^50:=by omega
 have hl60:x.src.length<2^60:=by omega
 have l1:=zi5 (p:=z93) (s:=x.src) hp
 have hH0:H[id]?=some (.var (some 8) (scC x)):=hH
 have hrun:=v22 hH hp hl60
 unfold numU
 have hall:=wb5 (p:=z93) (s:=x.src) (i:=x.pos)
 generalize z83 z93 x.src x.pos=t at *
 repeat' first|apply z01|exact z12|exact z19 rfl|(apply z15;rfl;rfl)|(apply z24;rfl;rfl)|(apply z16;rfl;rfl)|(apply z29;rfl;rfl)|(apply z81;rfl;rfl;first | exact z61 (by first | exact rfl | assumption | exact z05 (by assumption)) | exact z66 (by first | exact rfl | assumption | exact z05 (by assumption)))|(apply z22;rfl;rfl;(assumption);rfl)|(apply z27 (hc:=⟨hrun.run⟩);rfl;rfl;(exact rfl);rfl;(exact z12);rintro H1 ⟨r1,k1⟩)|apply z02|apply z00|apply z03|apply z06
 refine ze9 (fun p:Nat×Nat=>[(0,.ptr id 0),(2,.lbox (some 7) (.c q15)),(4,.c (.str t)),(5,.c (.int .i64 p.2)),(6,.c (.int .i64 p.1))]) (fun p=>p.1≤t.length∧p.2≤9223372036854775807∧numF t 0=numF (t.drop p.1) p.2) (fun p=>t.length - p.1) (0,0) ?_ ⟨Nat.zero_le _,Nat.zero_le _,by simp⟩ ?_
 · repeat' first|exact z23|refine z64 rfl ?_
 rintro ⟨n,a⟩ ⟨hn,ha,hf⟩
 dsimp only at hn ha hf
 dsimp only
 have hA:=r1
 have hH1:H1[id]?=some (.var (some 8) (scC x)):=r1
 by_cases hns:n<t.length
 · have hdrop:t.drop n=t[n]::t.drop (n+1):=List.drop_eq_getElem_cons hns
   have hd:z93 t[n]=true:=hall _ (List.getElem_mem _)
   obtain ⟨b1,b2⟩:=jw9 hd
   have hqq:=vd7 ((t[n].toNat:Int) - 48) (by omega)
   by_cases hq:a≤(9223372036854775807 - (t[n].toNat - 48)) / 10
   · repeat' first|apply z01|exact z12|exact z19 rfl|(apply z15;rfl;rfl)|(apply za2;rfl;rfl;omega)|(apply zp6;rfl;rfl;omega)|(apply ja5;rfl;rfl;omega)|(apply qd6;rfl;rfl;omega)|(apply z30;(iterate 3 rfl))|(apply z41;rfl)|(apply z71;(iterate 3 rfl);exact List.getElem?_eq_getElem (by omega))|(apply z77;(iterate 3 rfl))|(apply z24;rfl;rfl)|(apply zr9;rfl;omega)|(apply z04;focus (repeat (first | exact z23 | (apply kq_c;rfl) | (apply z50;rfl) | (apply z40;rfl))))|apply z02|apply z00|apply z03|apply z06|apply z08|apply z56|(apply z13;rfl)|(with_reducible apply z67;intro hc)|(with_reducible apply z49;intro hc)
     any_goals omega
     any_goals first|(exfalso;rw [hqq] at hc;omega)|skip
     · refine ⟨(n+1,10 * a+(t[n].toNat - 48)),?_,rfl,⟨by dsimp only;omega,by dsimp only;omega,?_⟩,by dsimp only;omega⟩
       · have e4:(10 * (a:Int)+((t[n].toNat:Int) - 48))=((10 * a+(t[n].toNat - 48):Nat):Int):=by omega
         repeat' first|exact z23|refine z64 rfl ?_|refine z64 ?_ ?_
         all_goals (show WV.c (CV.int .i64 (10 * (a:Int)+((t[n].toNat:Int) - 48)))=_;rw [e4])
       · rw [hf,hdrop]
         simp [numF,hd,hq]
   · have hnone:numF t 0=none:=by rw [hf,hdrop];simp [numF,hd,hq]
     rw [hnone]
     repeat' first|apply z01|exact z12|exact z19 rfl|(apply z15;rfl;rfl)|(apply za2;rfl;rfl;omega)|(apply zp6;rfl;rfl;omega)|(apply ja5;rfl;rfl;omega)|(apply qd6;rfl;rfl;omega)|(apply z30;(iterate 3 rfl))|(apply z41;rfl)|(apply z71;(iterate 3 rfl);exact List.getElem?_eq_getElem (by omega))|(apply z77;(iterate 3 rfl))|(apply z24;rfl;rfl)|(apply z25;(iterate 4 rfl);exact z34 (by first | exact rfl | assumption | exact z05 (by assumption)))|(apply zr9;rfl;omega)|(apply z27 (hc:=⟨(qj9 hx hA 6 (by decide)).run⟩);rfl;rfl;(exact rfl);rfl;(exact z12);rintro H1 ⟨r1,k1⟩)|(apply z04;focus (repeat (first | exact z23 | (apply kq_c;rfl) | (apply z50;rfl) | (apply z40;rfl))))|apply z02|apply z00|apply z03|apply z06|apply z08|apply z09|apply z56|(apply z13;rfl)|(with_reducible apply z67;intro hc)|(with_reducible apply z49;intro hc)
     any_goals omega
     any_goals first|(exfalso;rw [hqq] at hc;omega)|skip
     · exact zu2 rfl rfl rfl ⟨r1,by repeat (first | assumption | refine KpH.trans ?_ (by assumption))⟩
 · have hsome:numF t 0=some a:=by rw [hf,List.drop_of_length_le (by omega)];rfl
   rw [hsome]
   repeat' first|apply z01|exact z12|exact z19 rfl|(apply z15;rfl;rfl)|(apply za2;rfl;rfl;omega)|(apply zp6;rfl;rfl;omega)|(apply ja5;rfl;rfl;omega)|(apply qd6;rfl;rfl;omega)|(apply z30;(iterate 3 rfl))|(apply z41;rfl)|(apply z71;(iterate 3 rfl);exact List.getElem?_eq_getElem (by omega))|(apply z77;(iterate 3 rfl))|(apply z24;rfl;rfl)|(apply z25;(iterate 4 rfl);exact z34 (by first | exact rfl | assumption | exact z05 (by assumption)))|(apply zr9;rfl;omega)|(apply z27 (hc:=⟨(adv (n:=t.length) hx hA l1 hl50).run⟩);rfl;rfl;(exact rfl);rfl;(exact z19 rfl);rintro H1 ⟨r1,k1⟩)|(apply z04;focus (repeat (first | exact z23 | (apply kq_c;rfl) | (apply z50;rfl) | (apply z40;rfl))))|apply z02|apply z00|apply z03|apply z06|apply z08|apply z09|apply z56|(apply z13;rfl)|(with_reducible apply z67;intro hc)|(with_reducible apply z49;intro hc)
   any_goals omega
   · exact zu2 rfl rfl rfl ⟨⟨_,r1,rfl⟩,by repeat (first | assumption | refine KpH.trans ?_ (by assumption))⟩
def hexV (c:UInt8):Option Nat:=if z93 c then some (c.toNat - 48) else if 97≤c.toNat∧c.toNat≤102 then some (c.toNat - 87) else if 65≤c.toNat∧c.toNat≤70 then some (c.toNat - 55) else none
def hexW (o:Option Nat):WV:=match o with
 | some v=>.tup [.c (.int .i64 v),.c (.bool true)]
 | none=>.tup [.c (.int .i64 0),.c (.bool false)]
theorem ww8 (c:UInt8):Rets Vv 86 [.c (bC c)] (hexW (hexV c)):=by
 refine z73 va1 ?_
 cases hd:z93 c with
 | true=>
   obtain ⟨b1,b2⟩:=jw9 hd
   have h27:=zh6 c
   rw [hd] at h27
   have e:hexV c=some (c.toNat - 48):=by unfold hexV;rw [if_pos hd]
   rw [e]
   repeat' first|apply z01|exact z12|(apply z15;rfl;rfl)|(apply qd6;rfl;rfl;omega)|(apply zr9;rfl;omega)|(apply z07 (hc:=h27);rfl;rfl;rfl)|(apply z04;focus (repeat (first | exact z23 | (apply kq_c;rfl))))|apply z02|apply z00|apply z03|apply z06|apply z09|(apply z35;rfl;(with_reducible rfl))|(apply qj3;(exact ShI.c rfl);(exact ShI.c rfl);(exact by decide))
   all_goals (simp only [hexW];congr 4;omega)
 | false=>
   have h27:=zh6 c
   rw [hd] at h27
   repeat' first|apply z01|exact z12|exact z19 rfl|(apply z15;rfl;rfl)|(apply za2;rfl;rfl;omega)|(apply qd6;rfl;rfl;omega)|(apply z30;(iterate 3 rfl))|(apply z17;rfl;(with_reducible rfl);rfl)|(apply z14;rfl;(with_reducible rfl);rfl)|(apply zr9;rfl;omega)|(apply z07 (hc:=h27);rfl;rfl;rfl)|(apply z04;focus (repeat (first | exact z23 | (apply kq_c;rfl))))|apply z02|apply z00|apply z03|apply z06|apply z08|apply z09|(apply z32;rfl;(with_reducible rfl))|(apply z13;rfl)|(apply z48;rfl;(with_reducible rfl))|(apply z44;rfl;(with_reducible rfl))|(apply z38;rfl)|(with_reducible apply z67;intro hc)|(with_reducible apply z49;intro hc)|(apply qj3;(exact ShI.c rfl);(exact ShI.c rfl);(exact by decide))
   all_goals first
    | (exfalso;omega)
    | (have e:hexV c=some (c.toNat - 87):=by
        unfold hexV;rw [if_neg (by rw [hd];simp),if_pos (by omega)]
       rw [e];simp only [hexW];congr 4;omega)
    | (have e:hexV c=some (c.toNat - 55):=by
        unfold hexV;rw [if_neg (by rw [hd];simp),if_neg (by omega),if_pos (by omega)]
       rw [e];simp only [hexW];congr 4;omega)
    | (have e:hexV c=none:=by
        unfold hexV;rw [if_neg (by rw [hd];simp),if_neg (by omega),if_neg (by omega)]
       rw [e];rfl)
def LtH (li id at':Nat) (H:z18):Prop:=H[li]?=some (.var (some 2) [.ptr id 0,.c (.int .i64 at')])
def zg0 (s:List UInt8) (i at':Nat):Option (Nat×Nat):=match s[at']? with
 | none=>some (7,i)
 | some c=>if q44 c=false then some (5,at') else if c.toNat<32 then some (7,i) else none
def vb0 (li id:Nat) (H:z18) (x:Sc) (at':Nat) (r:Option (Nat×Nat)):z18→Prop:=fun H'=>match r with
 | some (code,p)=>(∃ y,ScH id y H'∧zf3 x.src code p [] y)∧(∀ i o,i≠id→i≠li→H[i]?=some o→H'[i]?=some o)
 | none=>(LtH li id (at'+1) H'∧ScH id x H')∧(∀ i o,i≠id→i≠li→H[i]?=some o→H'[i]?=some o)
theorem v65 {H:z18} {id j:Nat} {x:Sc} (hx:scAt x.src x.pos=x) (hH:ScH id x H) (h1:x.pos≤j) (h2:j≤x.src.length) (hl:x.src.length<2^30) :
 Shr Vv 34 [.ptr id 0,.c (.int .i64 ((j:Int) - x.pos))] H (.tup []) (fun H'=>ScH id (scAt x.src j) H'∧KpH id H H'):=by
 obtain ⟨H',a,b,c⟩:=(adv (n:=j - x.pos) hx hH (by omega) (by omega)).run
 have e1:((j - x.pos:Nat):Int)=(j:Int) - x.pos:=by omega
 have e2:x.pos+(j - x.pos)=j:=by omega
 rw [e1] at a
 rw [e2] at b
 exact ⟨H',a,b,c⟩
theorem jd0 {H:z18} {id li j:Nat} {x:Sc} {o:WO} (hx:scAt x.src x.pos=x) (hH:ScH id x H) (hL:H[li]?=some o) (hne:li≠id) (h1:x.pos≤j) (h2:j≤x.src.length) (hl:x.src.length<2^30) :
 Shr Vv 34 [.ptr id 0,.c (.int .i64 ((j:Int) - x.pos))] H (.tup []) (fun H'=>H'[li]?=some o∧(ScH id (scAt x.src j) H'∧KpH id H H')):=by
 obtain ⟨H',a,b,c⟩:=(v65 hx hH h1 h2 hl).run
 exact ⟨H',a,c li o hne hL,b,c⟩
theorem wg9 {H:z18} {li id at':Nat} {x:Sc} (hx:scAt x.src x.pos=x) (hL:LtH li id at' H) (hH:ScH id x H) (hne:li≠id) (hp:x.pos≤at') (hat:at'≤x.src.length) (hl:x.src.length<2^30) :
 Shr Vv 58 [.ptr li 0] H (match zg0 x.src x.pos at' with | some _=>.tup [.c (.int .u8 0),.c (.bool false)] | none=>.tup [.c (bC (x.src.getD at' 0)),.c (.bool true)]) (vb0 li id H x at' (zg0 x.src x.pos at')):=by
 refine zh9 v57 ?_
 have hL0:H[li]?=some (.var (some 2) [.ptr id 0,.c (.int .i64 at')]):=hL
 have hH0:H[id]?=some (.var (some 8) (scC x)):=hH
 cases hc0:x.src[at']? with
 | none=>
   have e:zg0 x.src x.pos at'=some (7,x.pos):=by unfold zg0;rw [hc0]
   rw [e]
   have hlen:x.src.length≤at':=List.getElem?_eq_none_iff.1 hc0
   repeat' first|apply z01|exact z12|exact z19 rfl|(apply z15;rfl;rfl)|(apply z30;(iterate 3 rfl))|(apply z41;rfl)|(apply z71;(iterate 3 rfl);exact List.getElem?_eq_getElem (by omega))|(apply z24;rfl;rfl)|(apply z16;rfl;rfl)|(apply z29;rfl;rfl)|(apply z22;rfl;rfl;(assumption);rfl)|(apply z86;rfl;rfl;(assumption);rfl)|(apply z27 (hc:=⟨(qj9 hx hH 7 (by decide)).run⟩);rfl;rfl;(exact rfl);rfl;(exact z12);rintro H1 ⟨r1,k1⟩)|(apply z04;focus (repeat (first | exact z23 | (apply z50;rfl))))|apply z02|apply z00|apply z03|apply z08|apply z09|apply z28|apply z55|(apply z13;rfl)|(apply z65;(exact rfl))|(with_reducible apply z67;intro hc)|(with_reducible apply z49;intro hc)|(apply z52;rfl)|(apply z54;rfl)|(apply dand;rfl)
   · exact q76 rfl rfl rfl ⟨r1,fun i o h1 _ ho=>k1 i o h1 ho⟩
   · exfalso;omega
 | some c=>
   have hlt:at'<x.src.length:=(List.getElem?_eq_some_iff.1 hc0).1
   have hcc:x.src.getD at' 0=c:=by rw [List.getD_eq_getElem?_getD,hc0];rfl
   have h53:=j85 c
   cases hk:q44 c with
   | false=>
     rw [hk] at h53
     have e:zg0 x.src x.pos at'=some (5,at'):=by unfold zg0;rw [hc0];simp [hk]
     rw [e]
     repeat' first|apply z01|exact z12|exact z19 rfl|(apply z15;rfl;rfl)|(apply zp6;rfl;rfl;omega)|(apply z30;(iterate 3 rfl))|(apply z41;rfl)|(apply z84;rfl;rfl)|(apply z71;(iterate 3 rfl);assumption)|(apply z24;rfl;rfl)|(apply z16;rfl;rfl)|(apply z29;rfl;rfl)|(apply z22;rfl;rfl;(assumption);rfl)|(apply z86;rfl;rfl;(assumption);rfl)|(apply z07 (hc:=h53);rfl;rfl;rfl)|(apply z27 (hc:=⟨(jd0 hx hH hL0 hne hp hat hl).run⟩);rfl;rfl;(exact rfl);rfl;(exact z19 rfl);rintro H1 ⟨r1,k1⟩)|(apply z27 (hc:=⟨(qj9 (x:=scAt x.src at') rfl k1.1 5 (by decide)).run⟩);rfl;rfl;(exact rfl);rfl;(exact z12);rintro H1 ⟨r1,k1⟩)|(apply z04;focus (repeat (first | exact z23 | (apply z50;rfl))))|apply z02|apply z00|apply z03|apply z08|apply z09|apply z28|apply z55|(apply z13;rfl)|(apply z65;(exact rfl))|with_reducible exact zd9|with_reducible apply ze4|with_reducible apply z58|with_reducible apply z60|(with_reducible apply z67;intro hc)|(with_reducible apply z49;intro hc)|(apply z52;rfl)|(apply z54;rfl)|(apply zv3)|(apply dand;rfl)
     any_goals (exfalso;omega)
     rename_i HA ra ka
     exact q76 rfl rfl rfl ⟨r1,fun i o h1 _ ho=>k1 i o h1 (ka.2 i o h1 ho)⟩
   | true=>
     rw [hk] at h53
     by_cases h32:c.toNat<32
     · have e:zg0 x.src x.pos at'=some (7,x.pos):=by unfold zg0;rw [hc0];simp [hk,h32]
       rw [e]
       repeat' first|apply z01|exact z12|exact z19 rfl|(apply z15;rfl;rfl)|(apply za2;rfl;rfl;omega)|(apply z30;(iterate 3 rfl))|(apply z41;rfl)|(apply z84;rfl;rfl)|(apply z71;(iterate 3 rfl);assumption)|(apply z24;rfl;rfl)|(apply z16;rfl;rfl)|(apply z29;rfl;rfl)|(apply z22;rfl;rfl;(assumption);rfl)|(apply z86;rfl;rfl;(assumption);rfl)|(apply za7;(iterate 4 rfl);(assumption);rfl;rfl;intro H1 hH1 kH1)|(apply z07 (hc:=h53);rfl;rfl;rfl)|(apply z27 (hc:=⟨(qj9 hx hH 7 (by decide)).run⟩);rfl;rfl;(exact rfl);rfl;(exact z12);rintro H1 ⟨r1,k1⟩)|(apply z04;focus (repeat (first | exact z23 | (apply kq_c;rfl) | (apply z50;rfl))))|apply z02|apply z00|apply z03|apply z08|apply z09|apply z28|apply z55|(apply z13;rfl)|(apply z65;(exact rfl))|with_reducible exact zb1|with_reducible apply zb3|with_reducible apply z58|with_reducible apply z60|(with_reducible apply z67;intro hc)|(with_reducible apply z49;intro hc)|(apply z52;rfl)|(apply z54;rfl)|(apply dand;rfl)
       all_goals first|(exfalso;omega)|exact q76 rfl rfl rfl ⟨r1,fun i o h1 _ ho=>k1 i o h1 ho⟩
     · have e:zg0 x.src x.pos at'=none:=by unfold zg0;rw [hc0];simp [hk,h32]
       rw [e,hcc]
       repeat' first|apply z01|exact z12|exact z19 rfl|(apply z15;rfl;rfl)|(apply za2;rfl;rfl;omega)|(apply z30;(iterate 3 rfl))|(apply z41;rfl)|(apply z84;rfl;rfl)|(apply z71;(iterate 3 rfl);assumption)|(apply z24;rfl;rfl)|(apply z16;rfl;rfl)|(apply z29;rfl;rfl)|(apply z22;rfl;rfl;(assumption);rfl)|(apply z86;rfl;rfl;(assumption);rfl)|(apply za7;(iterate 4 rfl);(assumption);rfl;rfl;intro H1 hH1 kH1)|(apply z07 (hc:=h53);rfl;rfl;rfl)|(apply z04;focus (repeat (first | exact z23 | (apply kq_c;rfl) | (apply z50;rfl))))|apply z02|apply z00|apply z03|apply z08|apply z09|apply z28|apply z55|(apply z13;rfl)|(apply z65;(exact rfl))|with_reducible exact zb1|with_reducible apply zb3|with_reducible apply z58|with_reducible apply z60|(with_reducible apply z67;intro hc)|(with_reducible apply z49;intro hc)|(apply z52;rfl)|(apply z54;rfl)|(apply dand;rfl)
       any_goals (exfalso;omega)
       exact q76 rfl rfl rfl ⟨⟨hH1,kH1 id _ (Ne.symm hne) hH⟩,fun i o _ h2 ho=>kH1 i o h2 ho⟩
end Go.Proofs.TryzL
