/- Chapter 02: names. -/
import Derived.Test.YtencoceemejcnaaGreatDoorLzT27
import Derived.Test.YtencoceemejcnaaGreatDoorLzT6
set_option linter.unusedSimpArgs false
set_option linter.unusedVariables false
namespace Go.Proofs.TryzL
open Go.Proofs.Lz
set_option maxHeartbeats 4000000
theorem rep1 (n:Nat) (hn:n≤2^40):Rets Vv 43 [.c (.str [32]),.c (.int .i64 n)] (.c (.str (Lib.repeatL [32] n))):=by
 have h:=zo0 (V:=Vv) (f:=43) (xs:=[.str [32],.int .i64 n]) (u:=.str (Lib.repeatL [32] (n:Int).toNat)) (g:=repG) rfl rfl (by
  simp only [repG]
  rw [if_pos ⟨by omega,by omega,by simp;omega⟩])
 simpa using h
theorem v71 {n:Int} (h0:0≤n) (hn:n≤2^40):Rets Vv 43 [.c (.str [32]),.c (.int .i64 n)] (.c (.str (Lib.repeatL [32] n.toNat))):=by
 have:=rep1 n.toNat (by omega)
 rwa [Int.toNat_of_nonneg h0] at this
def tks (l:List Tok):CV:=.frz (some 7) (l.map tokC)
def rcv (r:List UInt8×Int):WV:=.tup [.c (.str r.1),.c (.int .i64 r.2)]
theorem KpH.trans {id:Nat} {H H1 H2:z18} (h:KpH id H H1) (k:KpH id H1 H2):KpH id H H2:=fun i o hi ho=>k i o hi (h i o hi ho)
theorem jx3 {l:List Tok} {s:RS} {i:Nat} (h:i<l.length) (ho:65536<(zi0 l[i] s).out.length):rend (l.drop i) s=none:=by
 rw [List.drop_eq_getElem_cons h,rend,if_pos ho]
theorem w28 {l:List Tok} {s:RS} {i:Nat} (h:i<l.length) (ho:¬ 65536<(zi0 l[i] s).out.length):rend (l.drop i) s=rend (l.drop (i+1)) (zi0 l[i] s):=by
 rw [List.drop_eq_getElem_cons h,rend,if_neg ho]
def nlS (s:RS) (n:Nat):RS:=if n=0 then s else ⟨s.out++List.replicate n 10,s.line+n,1,true⟩
theorem wt3 (t:Tok) (s:RS):nlS s (nlK t s)=rnl t s:=by unfold nlS rnl;rfl
theorem j45 (s:RS) (n:Nat):(nlS s n).out=s.out++List.replicate n 10:=by
 unfold nlS;split
 · rename_i h;subst h;simp
 · rfl
theorem jd4 (s:RS) (n:Nat):(nlS s n).line=s.line+n:=by
 unfold nlS;split
 · rename_i h;subst h;rfl
 · rfl
theorem w56 (s:RS) (n:Nat):nlS s (n+1)=⟨(nlS s n).out++[10],(nlS s n).line+1,1,true⟩:=by
 rw [j45,jd4]
 unfold nlS
 rw [if_neg (by omega),List.replicate_succ',List.append_assoc]
 simp;omega
theorem wy5 {t:Tok} {s:RS} {n:Nat} (h:n<nlK t s):n<200∧((s.line+n:Nat):Int)<t.line:=by unfold nlK at h;omega
theorem ww5 {t:Tok} {s:RS} {n:Nat} (h:n=nlK t s):¬ ((n:Int)<200)∨¬ ((s.line+n:Nat):Int)<t.line:=by unfold nlK at h;omega
def kIn (l:List Tok) (t:Tok) (i:Nat) (x:RS) (n:Nat):List (Nat×WV):=[(6,.ptr 0 0),(7,.c (.int .i64 x.line)),(8,.c (.int .i64 x.col)),(9,.c (.bool x.first)),(11,.lbox (some 7) (.c (tokC t))),(12,.c (.int .i64 n)),(27,.c (.frz (some 7) (l.map tokC))),(28,.c (.int .i64 l.length)),(29,.c (.int .i64 i))]
theorem wl7 {l:List Tok} {t:Tok} {i:Nat} {s:RS} {H:z18} {N:Post} {B:Hs} {R:RP} {fr:WFr} (ht:TokOk t) (hs:RsOk s) (hB:BB 0 s.out H) (h0:KpL [6,7,8,9,11,12,27,28,29] fr [6,7,8,9,11,12,27,28,29] (kIn l t i s 0))
 (h:∀ H',BB 0 (rnl t s).out H'→N (FL [(6,.ptr 0 0),(7,.c (.int .i64 (rnl t s).line)),(8,.c (.int .i64 (rnl t s).col)),(9,.c (.bool (rnl t s).first)),(11,.lbox (some 7) (.c (tokC t))),(27,.c (.frz (some 7) (l.map tokC))),(28,.c (.int .i64 l.length)),(29,.c (.int .i64 i))] []) H') :
 WP Vv (.loop [6,7,8,9,11,12,27,28,29] we9) fr H N ((4,N)::B) R:=by
 refine zk9 (fun n:Nat=>kIn l t i (nlS s n) n) (fun n H'=>n≤nlK t s∧BB 0 (nlS s n).out H') (fun n=>nlK t s - n) 0 h0 ⟨Nat.zero_le _,by rw [j45];simpa using hB⟩ ?_
 rintro n H1 ⟨hn,hB1⟩
 have e1:=jd4 s n
 have e2:=w56 s n
 have e3:(nlS s n).out.length≤65536+200:=by have:=hs.out;rw [j45];simp;unfold nlK at hn;omega
 have e4:=ht.line
 have e5:=hs.line
 by_cases hnk:n<nlK t s
 · obtain ⟨c1,c2⟩:=wy5 hnk
   generalize nlS s n=x at *
   unfold kIn
   repeat' first|apply z01|exact z12|exact z19 rfl|exact zb6 rfl|(apply z15;rfl;rfl)|(apply z43;(iterate 3 rfl))|(apply za2;rfl;rfl;omega)|(apply z30;(iterate 3 rfl))|(apply z17;rfl;(with_reducible rfl);rfl)|(apply z14;rfl;(with_reducible rfl);rfl)|(apply z47;rfl;exact zb7 rfl)|(apply z27 (hc:=⟨(jw1 hB1 (c:=10) (by omega)).run⟩);rfl;rfl;(exact rfl);rfl;(exact z12);rintro H1 ⟨r1,k1⟩)|(apply z04;focus (repeat (first | exact z23 | (apply kq_c;rfl) | (apply z50;rfl) | (apply z40;rfl))))|apply z02|apply z00|apply z03|apply z06|apply z08|apply z56|(apply zc1;rfl)|(apply z32;rfl;(with_reducible rfl))|(apply z13;rfl)|(apply z48;rfl;(with_reducible rfl))|(apply z44;rfl;(with_reducible rfl))|(apply z38;rfl)|(with_reducible apply z67;intro hc)|(with_reducible apply z49;intro hc)
   any_goals (exfalso;omega)
   refine ⟨n+1,?_,⟨by omega,by rw [e2];exact r1⟩,by omega⟩
   rw [e2]
   repeat' first|exact z23|refine z64 rfl ?_
 · have hn':n=nlK t s:=by omega
   have hg:=ww5 hn'
   rw [← wt3,← hn'] at h
   generalize nlS s n=x at *
   unfold kIn
   repeat' first|apply z01|exact z12|exact z19 rfl|exact zb6 rfl|(apply z15;rfl;rfl)|(apply z43;(iterate 3 rfl))|(apply z30;(iterate 3 rfl))|(apply z17;rfl;(with_reducible rfl);rfl)|(apply z14;rfl;(with_reducible rfl);rfl)|(apply z47;rfl;exact zb7 rfl)|(apply z04;focus (repeat (first | exact z23 | (apply kq_c;rfl) | (apply z50;rfl) | (apply z40;rfl))))|apply z02|apply z00|apply z03|apply z06|apply z08|apply z56|(apply zc1;rfl)|(apply z32;rfl;(with_reducible rfl))|(apply z13;rfl)|(apply z48;rfl;(with_reducible rfl))|(apply z44;rfl;(with_reducible rfl))|(apply z38;rfl)|(with_reducible apply z67;intro hc)|(with_reducible apply z49;intro hc)
   any_goals (exfalso;omega)
   all_goals exact h _ hB1
theorem wc5 (l:List Tok) (hl:l.length<2^40) (hk:∀ t∈l,TokOk t):Rets Vv 15 [.c (tks l)] (rcv (q01 l)):=by
 refine z73 vc2 ?_
 unfold tks
 repeat' first|apply z01|exact z12|(apply z15;rfl;rfl)|(apply zb8;rfl)|apply z02|apply z00|apply z03|apply z06
 refine ze9 (fun n:Nat=>[(0,.c (.frz (some 7) (l.map tokC))),(14,.c (.frz (some 7) (l.map tokC))),(15,.c (.int .i64 l.length)),(16,.c (.int .i64 n))]) (fun n=>n≤l.length∧(l.take n).all zw6=true) (fun n=>l.length - n) 0 ?_ ⟨Nat.zero_le _,tk0⟩ ?_
 · repeat' first|exact z23|refine z64 rfl ?_
 rintro n ⟨hn,hall⟩
 by_cases hnl:n<l.length
 · have ht:=hk l[n] (List.getElem_mem _)
   repeat' first|apply z01|exact z12|exact z19 rfl|(apply z15;rfl;rfl)|(apply zi6;rfl;rfl)|(apply z43;(iterate 3 rfl))|(apply za2;rfl;rfl;omega)|(apply z30;(iterate 3 rfl))|(apply zb8;rfl)|(apply z84;rfl;rfl)|(apply ze1;(iterate 3 rfl);exact List.getElem?_eq_getElem (by omega))|(apply z81;rfl;rfl;first | exact z61 (by first | exact rfl | assumption | exact z05 (by assumption)) | exact z66 (by first | exact rfl | assumption | exact z05 (by assumption)))|(apply z25;(iterate 4 rfl);exact z34 (by first | exact rfl | assumption | exact z05 (by assumption)))|(apply qs1;(iterate 4 rfl))|(apply z07 (hc:=wc1 l[n] ht);rfl;rfl;rfl)|(apply z04;focus (repeat (first | exact z23 | (apply kq_c;rfl))))|apply z02|apply z00|apply z03|apply z06|apply z08|apply z09|apply z56|(apply z13;rfl)|with_reducible apply z58|with_reducible apply z60|(with_reducible apply z67;intro hc)|(with_reducible apply z49;intro hc)|(with_reducible apply zi4;intro hc)|(apply qj3;(exact ShI.c rfl);(exact ShI.c rfl);(exact by decide))
   any_goals (exfalso;omega)
   · unfold q01
     rw [if_pos (tkF hnl (by simpa using hc))]
     rfl
   · refine ⟨n+1,?_,rfl,⟨by omega,tkS hnl hall hc⟩,by omega⟩
     repeat' first|exact z23|refine z64 rfl ?_
 · have hall:=tkE (by omega) hall
   repeat' first|apply z01|exact z12|exact z19 rfl|(apply z15;rfl;rfl)|(apply zi6;rfl;rfl)|(apply z43;(iterate 3 rfl))|(apply z30;(iterate 3 rfl))|(apply zb8;rfl)|(apply ze1;(iterate 3 rfl);exact List.getElem?_eq_getElem (by omega))|(apply z81;rfl;rfl;first | exact z61 (by first | exact rfl | assumption | exact z05 (by assumption)) | exact z66 (by first | exact rfl | assumption | exact z05 (by assumption)))|(apply z25;(iterate 4 rfl);exact z34 (by first | exact rfl | assumption | exact z05 (by assumption)))|(apply qs1;(iterate 4 rfl))|(apply z04;focus (repeat (first | exact z23 | (apply kq_c;rfl))))|apply z02|apply z00|apply z03|apply z06|apply z08|apply z09|apply z56|(apply z13;rfl)|(with_reducible apply z67;intro hc)|(with_reducible apply z49;intro hc)|(apply qj3;(exact ShI.c rfl);(exact ShI.c rfl);(exact by decide))
   any_goals (exfalso;omega)
   · unfold q01
     rw [if_neg (by rw [hall];simp),if_pos (by omega)]
     rfl
   · have hR0:q01 l=match rend l rs0 with
      | none=>([],3)
      | some o=>(o,0):=by
      unfold q01
      rw [if_neg (by rw [hall];simp),if_neg (by omega)]
      try rfl
     refine zk9 (fun p:Nat×RS=>[(6,.ptr 0 0),(7,.c (.int .i64 p.2.line)),(8,.c (.int .i64 p.2.col)),(9,.c (.bool p.2.first)),(27,.c (.frz (some 7) (l.map tokC))),(28,.c (.int .i64 l.length)),(29,.c (.int .i64 p.1))])
      (fun p H'=>p.1≤l.length∧BB 0 p.2.out H'∧RsOk p.2∧rend (l.drop p.1) p.2=rend l rs0) (fun p=>l.length - p.1) (0,rs0) ?_ ⟨Nat.zero_le _,.inl ⟨rfl,_,.inl rfl,rfl⟩,⟨by decide,by decide,by decide⟩,by simp⟩ ?_
     · repeat' first|exact z23|refine z64 rfl ?_
     rintro ⟨i,s⟩ H1 ⟨hi,hB,hs,hR⟩
     dsimp only at hi hB hs hR
     dsimp only
     by_cases hil:i<l.length
     · have ht:=hk l[i] (List.getElem_mem _)
       generalize htt:l[i]=t at ht
       have htl:=wd8 ht
       have htc:=ht.col
       obtain ⟨a1,a2,a3⟩:=wf1 ht hs
       have hov:65536<(zi0 t s).out.length→rcv (q01 l)=.tup [.c (.str []),.c (.int .i64 3)]:=fun h=>by
        rw [hR0,← hR,jx3 hil (by rw [htt];exact h)]
        rfl
       have hnx:¬ 65536<(zi0 t s).out.length→rend (l.drop (i+1)) (zi0 t s)=rend l rs0:=fun h=>by
        rw [← hR,w28 hil (by rw [htt];exact h),htt]
       repeat' first|apply z01|exact z12|(apply z15;rfl;rfl)|(apply zi6;rfl;rfl)|(apply z30;(iterate 3 rfl))|(apply ze1;(iterate 3 rfl);exact List.getElem?_eq_getElem (by omega))|(apply z81;rfl;rfl;first | exact z61 (by first | exact rfl | assumption | exact z05 (by assumption)) | exact z66 (by first | exact rfl | assumption | exact z05 (by assumption)))|(apply z25;(iterate 4 rfl);exact z34 (by first | exact rfl | assumption | exact z05 (by assumption)))|(apply z04;focus (repeat (first | exact z23 | (apply kq_c;rfl) | (apply z50;rfl))))|apply z02|apply z00|apply z03|apply z06|apply z08|apply z56|(apply z13;rfl)|(with_reducible apply z67;intro hc)|(with_reducible apply z49;intro hc)
       any_goals (exfalso;omega)
       refine wl7 (l:=l) (t:=t) (i:=i) (s:=s) ht hs hB ?_ ?_
       · subst htt
         unfold kIn
         repeat' first|exact z23|refine z64 rfl ?_
       · intro H2 hB2
         have es:zi0 t s=rtx t (rsp t (rnl t s)):=rfl
         generalize rnl t s=y at *
         by_cases hA:(y.col:Int)<t.col∧t.col≤1000
         · have ez:rsp t y={ y with out:=y.out++Lib.repeatL [32] (t.col - y.col).toNat,col:=t.col.toNat }:=by unfold rsp;rw [if_pos hA]
           rw [ez] at es
           have hr:=ww1 (t.col - y.col).toNat
           have hz1:(y.out++Lib.repeatL [32] (t.col - y.col).toNat).length<2^40:=by simp only [List.length_append];omega
           repeat' first|apply z01|exact z12|exact zb6 rfl|(apply z15;rfl;rfl)|(apply z43;(iterate 3 rfl))|(apply za2;rfl;rfl;omega)|(apply zp6;rfl;rfl;omega)|(apply z30;(iterate 3 rfl))|(apply z41;rfl)|(apply z84;rfl;rfl)|(apply z17;rfl;(with_reducible rfl);rfl)|(apply z14;rfl;(with_reducible rfl);rfl)|(apply z47;rfl;exact zb7 rfl)|(apply z07 (hc:=v71 (n:=t.col - y.col) (by omega) (by omega));rfl;rfl;rfl)|(apply z07 (hc:=j54 t ht);rfl;rfl;rfl)|(apply z27 (hc:=⟨(q31 (s:=Lib.repeatL [32] (t.col - y.col).toNat) hB2 (by omega) (by omega)).run⟩);rfl;rfl;(exact rfl);rfl;(exact zb6 rfl);rintro H1 ⟨r1,k1⟩)|(apply z27 (hc:=⟨(q31 (s:=tokT t) r1 hz1 (by omega)).run⟩);rfl;rfl;(exact rfl);rfl;(exact z19 rfl);rintro H1 ⟨r1,k1⟩)|(apply z27 (hc:=⟨(wi2 r1).run⟩);rfl;rfl;(exact rfl);rfl;(exact z12);rintro H1 ⟨r1,k1⟩)|(apply z04;focus (repeat (first | exact z23 | (apply kq_c;rfl) | (apply z50;rfl) | (apply z40;rfl))))|apply z02|apply z00|apply z03|apply z08|apply z09|(apply z32;rfl;(with_reducible rfl))|(apply z13;rfl)|(apply z48;rfl;(with_reducible rfl))|(apply z44;rfl;(with_reducible rfl))|(apply z38;rfl)|with_reducible apply z58|with_reducible apply z60|(with_reducible apply z67;intro hc)|(with_reducible apply z49;intro hc)|(with_reducible apply zi4;intro hc)|(apply qj3;(exact ShI.c rfl);(exact ShI.c rfl);(exact by decide))
           any_goals (exfalso;omega)
           all_goals (have eo:(zi0 t s).out=y.out++Lib.repeatL [32] (t.col - y.col).toNat++tokT t:=by rw [es];rfl)
           any_goals exact hov (by rw [eo];omega)
           all_goals (have ec:(((zi0 t s).col:Nat):Int)=t.col+(tokT t).length:=by rw [es];simp only [rtx];omega
                      have el:(zi0 t s).line=y.line:=by rw [es];rfl
                      have ef:(zi0 t s).first=false:=by rw [es];rfl
                      refine ⟨(i+1,zi0 t s),?_,⟨by dsimp only;omega,by dsimp only;rw [eo];exact r1,qp5 ht hs (by rw [eo];omega),hnx (by rw [eo];omega)⟩,by dsimp only;omega⟩
                      dsimp only
                      rw [ec,el,ef])
           repeat' first|exact z23|refine z64 rfl ?_
         · have hr1:=y.first
           cases hf:y.first
           rotate_left
           ·
            have ez:rsp t y=y:=by unfold rsp;rw [if_neg hA,if_pos hf]
            rw [ez] at es
            repeat' first|apply z01|exact z12|exact zb6 rfl|(apply z15;rfl;rfl)|(apply z43;(iterate 3 rfl))|(apply za2;rfl;rfl;omega)|(apply zp6;rfl;rfl;omega)|(apply z30;(iterate 3 rfl))|(apply z41;rfl)|(apply z84;rfl;rfl)|(apply z17;rfl;(with_reducible rfl);rfl)|(apply z14;rfl;(with_reducible rfl);rfl)|(apply z47;rfl;exact zb7 rfl)|(apply z07 (hc:=j54 t ht);rfl;rfl;rfl)|(apply z27 (hc:=⟨(q31 (s:=tokT t) hB2 (by omega) (by omega)).run⟩);rfl;rfl;(exact rfl);rfl;(exact z19 rfl);rintro H1 ⟨r1,k1⟩)|(apply z27 (hc:=⟨(wi2 r1).run⟩);rfl;rfl;(exact rfl);rfl;(exact z12);rintro H1 ⟨r1,k1⟩)|(apply z04;focus (repeat (first | exact z23 | (apply kq_c;rfl) | (apply z50;rfl) | (apply z40;rfl))))|apply z02|apply z00|apply z03|apply z08|apply z09|(apply z32;rfl;(with_reducible rfl))|(apply z13;rfl)|(apply z48;rfl;(with_reducible rfl))|(apply z44;rfl;(with_reducible rfl))|(apply z38;rfl)|with_reducible exact zb1|with_reducible apply zb3|with_reducible apply z58|with_reducible apply z60|(with_reducible apply z67;intro hc)|(with_reducible apply z49;intro hc)|(apply qj3;(exact ShI.c rfl);(exact ShI.c rfl);(exact by decide))
            any_goals (exfalso;omega)
            all_goals (have eo:(zi0 t s).out=y.out++tokT t:=by rw [es];rfl)
            any_goals exact hov (by rw [eo];omega)
            all_goals (have ec:(((zi0 t s).col:Nat):Int)=y.col+(tokT t).length:=by rw [es];simp only [rtx];omega
                       have el:(zi0 t s).line=y.line:=by rw [es];rfl
                       have ef:(zi0 t s).first=false:=by rw [es];rfl
                       refine ⟨(i+1,zi0 t s),?_,⟨by dsimp only;omega,by dsimp only;rw [eo];exact r1,qp5 ht hs (by rw [eo];omega),hnx (by rw [eo];omega)⟩,by dsimp only;omega⟩
                       dsimp only
                       rw [ec,el,ef])
            repeat' first|exact z23|refine z64 rfl ?_
           ·
            have ez:rsp t y={ y with out:=y.out++[32],col:=y.col+1 }:=by unfold rsp;rw [if_neg hA,if_neg (by rw [hf];simp)]
            rw [ez] at es
            have hz1:(y.out++[32]).length<2^40:=by simp only [List.length_append,List.length_singleton];omega
            repeat' first|apply z01|exact z12|exact zb6 rfl|(apply z15;rfl;rfl)|(apply z43;(iterate 3 rfl))|(apply za2;rfl;rfl;omega)|(apply zp6;rfl;rfl;omega)|(apply z30;(iterate 3 rfl))|(apply z41;rfl)|(apply z84;rfl;rfl)|(apply z17;rfl;(with_reducible rfl);rfl)|(apply z14;rfl;(with_reducible rfl);rfl)|(apply z47;rfl;exact zb7 rfl)|(apply z07 (hc:=j54 t ht);rfl;rfl;rfl)|(apply z27 (hc:=⟨(jw1 (c:=32) hB2 (by omega)).run⟩);rfl;rfl;(exact rfl);rfl;(exact z12);rintro H1 ⟨r1,k1⟩)|(apply z27 (hc:=⟨(q31 (s:=tokT t) r1 hz1 (by omega)).run⟩);rfl;rfl;(exact rfl);rfl;(exact z19 rfl);rintro H1 ⟨r1,k1⟩)|(apply z27 (hc:=⟨(wi2 r1).run⟩);rfl;rfl;(exact rfl);rfl;(exact z12);rintro H1 ⟨r1,k1⟩)|(apply z04;focus (repeat (first | exact z23 | (apply kq_c;rfl) | (apply z50;rfl) | (apply z40;rfl))))|apply z02|apply z00|apply z03|apply z08|apply z09|(apply z32;rfl;(with_reducible rfl))|(apply z13;rfl)|(apply z48;rfl;(with_reducible rfl))|(apply z44;rfl;(with_reducible rfl))|(apply z38;rfl)|with_reducible exact zd9|with_reducible apply ze4|with_reducible apply z58|with_reducible apply z60|(with_reducible apply z67;intro hc)|(with_reducible apply z49;intro hc)|(apply qj3;(exact ShI.c rfl);(exact ShI.c rfl);(exact by decide))
            any_goals (exfalso;omega)
            all_goals (have eo:(zi0 t s).out=y.out++[32]++tokT t:=by rw [es];rfl)
            any_goals exact hov (by rw [eo];omega)
            all_goals (have ec:(((zi0 t s).col:Nat):Int)=(y.col+1)+(tokT t).length:=by rw [es];simp only [rtx];omega
                       have el:(zi0 t s).line=y.line:=by rw [es];rfl
                       have ef:(zi0 t s).first=false:=by rw [es];rfl
                       refine ⟨(i+1,zi0 t s),?_,⟨by dsimp only;omega,by dsimp only;rw [eo];exact r1,qp5 ht hs (by rw [eo];omega),hnx (by rw [eo];omega)⟩,by dsimp only;omega⟩
                       dsimp only
                       rw [ec,el,ef])
            repeat' first|exact z23|refine z64 rfl ?_
     · have hie:i=l.length:=by omega
       subst hie
       rw [List.drop_length,rend] at hR
       repeat' first|apply z01|exact z12|(apply z15;rfl;rfl)|(apply zi6;rfl;rfl)|(apply z30;(iterate 3 rfl))|(apply ze1;(iterate 3 rfl);exact List.getElem?_eq_getElem (by omega))|(apply z81;rfl;rfl;first | exact z61 (by first | exact rfl | assumption | exact z05 (by assumption)) | exact z66 (by first | exact rfl | assumption | exact z05 (by assumption)))|(apply z25;(iterate 4 rfl);exact z34 (by first | exact rfl | assumption | exact z05 (by assumption)))|(apply z27 (hc:=⟨(wb9 hB).run⟩);rfl;rfl;(exact rfl);rfl;(exact z12);rintro H1 ⟨r1,k1⟩)|(apply z04;focus (repeat (first | exact z23 | (apply kq_c;rfl) | (apply z50;rfl))))|apply z02|apply z00|apply z03|apply z06|apply z08|apply z09|apply z56|(apply z13;rfl)|(with_reducible apply z67;intro hc)|(with_reducible apply z49;intro hc)|(apply qj3;(exact ShI.c rfl);(exact ShI.c rfl);(exact by decide))
       any_goals (exfalso;omega)
       rw [hR0,← hR]
       rfl
end Go.Proofs.TryzL
namespace Go.Proofs.TryzL
open Go.Proofs.Lz
set_option maxHeartbeats 4000000
end Go.Proofs.TryzL
namespace Go.Proofs.TryzL
open Go.Proofs.Lz
set_option maxHeartbeats 4000000
end Go.Proofs.TryzL
namespace Go.Proofs.TryzL
open Go.Proofs.Lz
set_option maxHeartbeats 4000000
def wi8:Option (WV×z18)→Bool
 | some (.c (.bool b),_)=>b
 | _=>false
theorem jh0 {f:Nat} (n:Nat) (h:wi8 (wF Vv n f [] [])=true):Rets Vv f [] (.c (.bool true)):=by
 cases hw:wF Vv n f [] [] with
 | none=>rw [hw] at h;cases h
 | some p=>
   obtain ⟨v,H⟩:=p
   rw [hw] at h
   have hv:=wb6 hw
   cases v with
   | c u=>
     cases u with
     | bool b=>
       have hb:b=true:=h
       subst hb
       exact ⟨_,H,hv,rfl⟩
     | _=>cases h
   | _=>cases h
theorem zv1:Rets Vv 10 [] (.c (.bool true)):=jh0 40 (by kernel_rfl)
def ql8 (t:Tok):Bool:=decide (t.text.length≤300)&&decide (t.qual.length≤300)
def fewB (l:List Tok):Bool:=l.all ql8&&decide (l.length≤300)
theorem wz9 (l:List Tok) (hl:l.length≤9223372036854775807):Rets Vv 14 [.c (tks l)] (.c (.bool (fewB l))):=by
 refine z73 v54 ?_
 unfold tks
 repeat' first|apply z01|exact z12|(apply z15;rfl;rfl)|(apply zb8;rfl)|apply z02|apply z00|apply z03|apply z06
 refine ze9 (fun n:Nat=>[(0,.c (.frz (some 7) (l.map tokC))),(5,.c (.frz (some 7) (l.map tokC))),(6,.c (.int .i64 l.length)),(7,.c (.int .i64 n))]) (fun n=>n≤l.length∧(l.take n).all ql8=true) (fun n=>l.length - n) 0 ?_ ⟨Nat.zero_le _,tk0⟩ ?_
 · repeat' first|exact z23|refine z64 rfl ?_
 rintro n ⟨hn,hall⟩
 by_cases hnl:n<l.length
 · repeat' first|apply z01|exact z12|exact zb6 rfl|(apply z15;rfl;rfl)|(apply zi6;rfl;rfl)|(apply z43;(iterate 3 rfl))|(apply za2;rfl;rfl;omega)|(apply z30;(iterate 3 rfl))|(apply zb8;rfl)|(apply z41;rfl)|(apply z17;rfl;(with_reducible rfl);rfl)|(apply z14;rfl;(with_reducible rfl);rfl)|(apply ze1;(iterate 3 rfl);exact List.getElem?_eq_getElem (by omega))|(apply z47;rfl;exact zb7 rfl)|(apply z81;rfl;rfl;first | exact z61 (by first | exact rfl | assumption | exact z05 (by assumption)) | exact z66 (by first | exact rfl | assumption | exact z05 (by assumption)))|(apply z25;(iterate 4 rfl);exact z34 (by first | exact rfl | assumption | exact z05 (by assumption)))|(apply z04;focus (repeat (first | exact z23 | (apply kq_c;rfl))))|apply z02|apply z00|apply z03|apply z06|apply z08|apply z09|apply z56|(apply z35;rfl;(with_reducible rfl))|(apply z13;rfl)|(apply z48;rfl;(with_reducible rfl))|(apply z39;rfl;(with_reducible rfl))|(apply z38;rfl)|(with_reducible apply z67;intro hc)|(with_reducible apply z49;intro hc)|(apply z97;rfl)
   any_goals (exfalso;omega)
   · have:fewB l=false:=by unfold fewB;rw [tkF hnl (by unfold ql8;simp;omega)];rfl
     rw [this]
   · have:fewB l=false:=by unfold fewB;rw [tkF hnl (by unfold ql8;simp;omega)];rfl
     rw [this]
   · refine ⟨n+1,?_,rfl,⟨by omega,tkS hnl hall (by unfold ql8;simp;omega)⟩,by omega⟩
     repeat' first|exact z23|refine z64 rfl ?_
 · have hall:=tkE (by omega) hall
   repeat' first|apply z01|exact z12|exact zb6 rfl|(apply z15;rfl;rfl)|(apply zi6;rfl;rfl)|(apply z43;(iterate 3 rfl))|(apply za2;rfl;rfl;omega)|(apply z30;(iterate 3 rfl))|(apply zb8;rfl)|(apply z41;rfl)|(apply z17;rfl;(with_reducible rfl);rfl)|(apply z14;rfl;(with_reducible rfl);rfl)|(apply ze1;(iterate 3 rfl);exact List.getElem?_eq_getElem (by omega))|(apply z47;rfl;exact zb7 rfl)|(apply z81;rfl;rfl;first | exact z61 (by first | exact rfl | assumption | exact z05 (by assumption)) | exact z66 (by first | exact rfl | assumption | exact z05 (by assumption)))|(apply z25;(iterate 4 rfl);exact z34 (by first | exact rfl | assumption | exact z05 (by assumption)))|(apply z04;focus (repeat (first | exact z23 | (apply kq_c;rfl))))|apply z02|apply z00|apply z03|apply z06|apply z08|apply z09|apply z56|(apply z35;rfl;(with_reducible rfl))|(apply z13;rfl)|(apply z48;rfl;(with_reducible rfl))|(apply z39;rfl;(with_reducible rfl))|(apply z38;rfl)|(with_reducible apply z67;intro hc)|(with_reducible apply z49;intro hc)|(apply z97;rfl)
   any_goals (exfalso;omega)
   refine cb ?_
   unfold fewB
   rw [hall]
   simp
   omega
structure TokI (t:Tok):Prop where
 n:-9223372036854775808≤t.n∧t.n≤9223372036854775807
 line:-9223372036854775808≤t.line∧t.line≤9223372036854775807
 col:-9223372036854775808≤t.col∧t.col≤9223372036854775807
theorem w77 {l:List Tok} (hf:fewB l=true) (hk:∀ t∈l,TokI t):l.length≤300∧∀ t∈l,TokOk t:=by
 unfold fewB at hf
 simp only [Bool.and_eq_true,List.all_eq_true,decide_eq_true_eq,ql8] at hf
 exact ⟨hf.2,fun t ht=>⟨by have:=(hf.1 t ht).1;omega,by have:=(hf.1 t ht).2;omega,(hk t ht).n,(hk t ht).line,(hk t ht).col⟩⟩
end Go.Proofs.TryzL
set_option maxRecDepth 100000
namespace Go.Proofs.YtencoceemejcnaaGreatDoor
open Go.ChangeShapes Go.WideShapes Go.ChangeAt Go.RowKit Go.Proofs.Lz
open Go.Proofs.TryzL
abbrev TK:=Go.Proofs.TryzL.Tok
theorem jq5 {m:Int} (h:(Lit.int .i64 m).wf=true):-9223372036854775808≤m∧m≤9223372036854775807:=by
 simpa [Lit.wf,IntKind.min,IntKind.max,IntKind.signed,IntKind.bits] using h
theorem wx3 {n:Nat} {zs:List CV} (h:zn0 Tryz.prog (n+2) 38 zs):∃ t:TK,tokC t=.agg zs∧TokI t:=by
 unfold zn0 at h
 rw [Tryz.underlying38] at h
 simp only [qo1,zn0,Tryz.underlying36,Tryz.underlying9,Tryz.underlying3,Tryz.underlying4] at h
 obtain ⟨_,_,rfl,⟨a,rfl,_⟩,_,_,rfl,⟨b,rfl,_⟩,_,_,rfl,⟨c,rfl,_⟩,_,_,rfl,⟨d,rfl,hd⟩,_,_,rfl,⟨e,rfl⟩,_,_,rfl,⟨f,rfl,hf⟩,_,_,rfl,⟨g,rfl,hg⟩,rfl⟩:=h
 exact ⟨⟨a,b,c,d,e,f,g⟩,rfl,⟨jq5 hd,jq5 hf,jq5 hg⟩⟩
theorem w35 {n:Nat}:∀ (ys:List CV),(∀ y∈ys,∃ zs,zn0 Tryz.prog (n+2) 38 zs∧zs.length=z45 (some 7)∧zc0 (some 7) zs=some y)→∃ l:List TK,ys=l.map tokC∧∀ t∈l,TokI t:=by
 intro ys
 induction ys with
 | nil=>intro _;exact ⟨[],rfl,by simp⟩
 | cons y ys ih=>
   intro h
   obtain ⟨zs,h1,_,h3⟩:=h y (by simp)
   obtain ⟨t,ht,hi⟩:=wx3 h1
   obtain ⟨l,rfl,hl⟩:=ih (fun y hy=>h y (by simp [hy]))
   simp only [zc0,Option.some.injEq] at h3
   exact ⟨t::l,by rw [← h3,← ht];rfl,by intro x hx;rcases List.mem_cons.1 hx with rfl | hx;exact hi;exact hl x hx⟩
theorem wv4:Tryz.prog.underlying 23=some (.slice 38):=by kernel_rfl
theorem ek38:ekOf Tryz.prog 38=some (some 7):=by kernel_rfl
theorem ek23:ekOf Tryz.prog 23=some none:=by kernel_rfl
theorem ji9 {zs:List CV} {x:CV} (h2:zn0 Tryz.prog 6 23 zs) (h4:zc0 none zs=some x):∃ l:List TK,x=tks l∧l.length≤9223372036854775807∧∀ t∈l,TokI t:=by
 unfold zn0 at h2
 rw [wv4] at h2
 obtain ⟨ek,ys,rfl,hlen,h5,h6⟩:=h2
 rw [ek38] at h5
 injection h5 with h5;subst h5
 obtain ⟨l,rfl,hl⟩:=w35 (n:=3) ys h6
 simp only [zc0,List.getElem?_cons_zero,Option.some.injEq] at h4
 exact ⟨l,by rw [← h4];rfl,by simpa [maxLen] using hlen,hl⟩
theorem qy8 {P:Program} {n:Nat} {t:TypeId} {ts:List TypeId} {xs:List CV} (h:q94 P n (t::ts) xs):∃ x ys,xs=x::ys∧ji6 P n t x∧q94 P n ts ys:=by
 cases xs with
 | nil=>exact h.elim
 | cons x ys=>exact ⟨x,ys,rfl,h⟩
theorem we0 {P:Program} {n:Nat} {xs:List CV} (h:q94 P n [] xs):xs=[]:=by
 cases xs with
 | nil=>rfl
 | cons x ys=>exact h.elim
theorem qy4 {P:Program} {n:Nat} {t:TypeId} {x:CV} {e:Option Nat} (he:ekOf P t=some e) (h:ji6 P n t x):∃ zs,zn0 P n t zs∧zc0 e zs=some x:=by
 obtain ⟨zs,ek,h1,h2,_,h4⟩:=h
 rw [he] at h1
 injection h1 with h1
 subst h1
 exact ⟨zs,h2,h4⟩
theorem w54 {x:CV} (h:ji6 Tryz.prog 6 23 x):∃ l:List TK,x=tks l∧l.length≤9223372036854775807∧∀ t∈l,TokI t:=by
 obtain ⟨zs,h2,h4⟩:=qy4 ek23 h
 exact ji9 h2 h4
theorem ek9:ekOf Tryz.prog 9=some none:=by kernel_rfl
theorem ju5 {zs:List CV} {x:CV} (h2:zn0 Tryz.prog 6 9 zs) (h4:zc0 none zs=some x):∃ s:List UInt8,x=.str s∧s.length≤9223372036854775807:=by
 unfold zn0 at h2
 rw [Tryz.underlying9] at h2
 obtain ⟨s,rfl,hs⟩:=h2
 simp only [zc0,List.getElem?_cons_zero,Option.some.injEq] at h4
 exact ⟨s,h4.symm,by simpa [maxLen] using hs⟩
theorem wm2 {x:CV} (h:ji6 Tryz.prog 6 9 x):∃ s:List UInt8,x=.str s∧s.length≤9223372036854775807:=by
 obtain ⟨zs,h2,h4⟩:=qy4 ek9 h
 exact ju5 h2 h4
end Go.Proofs.YtencoceemejcnaaGreatDoor
namespace Go.Proofs.TryzL
open Go.Proofs.Lz
def plc (s:List UInt8):Nat→Nat×Nat
 | 0=>(1,1)
 | n+1=>match s[n]? with
   | none=>plc s n
   | some c=>if c=10 then ((plc s n).1+1,1) else if c=9 then ((plc s n).1,(plc s n).2+(8 - ((plc s n).2 - 1) % 8)) else ((plc s n).1,(plc s n).2+1)
theorem wv9 (s:List UInt8):∀ n,(plc s n).1≤n+1∧(plc s n).2≤8 * n+1∧1≤(plc s n).2∧1≤(plc s n).1:=by
 intro n
 induction n with
 | zero=>simp [plc]
 | succ n ih=>
   unfold plc
   split
   · omega
   · split
     · simp;omega
     · split
       · simp;omega
       · simp;omega
def scAt (s:List UInt8) (i:Nat):Sc:=⟨s,i,(plc s i).1,(plc s i).2,0,[],0,0⟩
theorem wn1 (s:List UInt8) (i:Nat):ScOk (scAt s i):=by
 obtain ⟨h1,h2,h3,_⟩:=wv9 s i
 exact ⟨h1,h2,h3⟩
theorem wj2 {s:List UInt8} {i:Nat} (h:i<s.length):zm9 (scAt s i)=scAt s (i+1):=by
 unfold zm9 scAt
 simp only [plc,List.getElem?_eq_getElem h]
 split
 · rfl
 · split<;>rfl
theorem v38 {s:List UInt8} {i:Nat}:∀ n,i+n≤s.length→q33 n (scAt s i)=scAt s (i+n):=by
 intro n
 induction n generalizing i with
 | zero=>intro _;rfl
 | succ n ih=>
   intro h
   show q33 n (zm9 (scAt s i))=_
   rw [wj2 (by omega),ih (by omega)]
   congr 1;omega
inductive U where
 | bad (code at':Nat) (nm:List UInt8)
 | skip (e:Nat)
 | tok (op:Int) (qual text:List UInt8) (n:Int) (e:Nat)
def zf3 (s:List UInt8) (code at':Nat) (nm:List UInt8) (x:Sc):Prop:=x.code=code∧x.name=nm∧x.fl=(plc s at').1∧x.fc=(plc s at').2
def nmOp (t:List UInt8):Int:=if z95 t=5 then 9 else if z95 t=6 then 10 else if z95 t=2 then 2 else if z95 t=1 then 1 else if z95 t=4 then 4 else 3
def zj1 (i:Nat) (q t:List UInt8) (e:Nat):U:=if 64<q.length then .bad 3 i (q.take 64) else if 64<t.length then .bad 3 i (t.take 64) else .tok (nmOp t) q t 0 e
def q27 (s:List UInt8) (j:Nat):List UInt8:=match s[j]? with
 | none=>[]
 | some c=>if upperB c||lowerB c then (if z95 (z83 zb2 s j)=5 then [] else z83 zb2 s j) else if qk0 (z83 symB s j)||decide (z95 (z83 symB s j)=6) then [] else z83 symB s j
def zr0 (s:List UInt8) (i:Nat):U:=
 let t:=z83 zb2 s i
 if (∃ c,s[i]?=some c∧upperB c=true)∧s[i+t.length]?=some 46∧q27 s (i+t.length+1)≠[] then zj1 i t (q27 s (i+t.length+1)) (i+t.length+1+(q27 s (i+t.length+1)).length) else zj1 i [] t (i+t.length)
def numU (s:List UInt8) (i:Nat):U:=match numF (z83 z93 s i) 0 with
 | none=>.bad 6 i []
 | some n=>.tok 5 [] [] n (i+(z83 z93 s i).length)
theorem zi5 {p:UInt8→Bool} {s:List UInt8} {i:Nat} (h:i≤s.length):i+(z83 p s i).length≤s.length:=by
 unfold z83
 have:=(List.takeWhile_prefix p (l:=s.drop i)).length_le
 simp at this
 omega
theorem qx8 {p:UInt8→Bool} {s:List UInt8} {i:Nat} {c:UInt8} (h:s[i]?=some c) (hp:p c=true):z83 p s i=c::z83 p s (i+1):=by
 unfold z83
 obtain ⟨hi,rfl⟩:=List.getElem?_eq_some_iff.1 h
 rw [List.drop_eq_getElem_cons hi,List.takeWhile_cons,if_pos hp]
theorem jb2 {s:List UInt8} {j:Nat} (h:j≤s.length):j+(q27 s j).length≤s.length:=by
 unfold q27
 split
 · simpa using h
 · split
   · split
     · simpa using h
     · exact zi5 h
   · split
     · simpa using h
     · exact zi5 h
def q15:CV:=tokA 0 [] [] 0 false 0 0
def resU:U→WV
 | .tok op q t n _=>.tup [.c (tokA op q t n false 0 0),.c (.bool true)]
 | _=>.tup [.c q15,.c (.bool false)]
def okU (s:List UInt8):U→Sc→Prop
 | .tok _ _ _ _ e,x=>x=scAt s e
 | .bad code a nm,x=>zf3 s code a nm x
 | .skip _,_=>False
def ScH (id:Nat) (x:Sc) (H:z18):Prop:=H[id]?=some (.var (some 8) (scC x))
theorem j65 (s:List UInt8) (i code:Nat) (nm:List UInt8) (hc:code≠0):zf3 s code i nm (q95 code nm (scAt s i)):=by
 unfold q95 scAt zf3
 simp
end Go.Proofs.TryzL
namespace Go.Proofs.TryzL
open Go.Proofs.Lz
set_option maxHeartbeats 4000000
theorem qg0 (t:List UInt8) (hl:t.length<2^31):Rets Vv 33 [.c (.str t)] (.c (tokA (nmOp t) [] t 0 false 0 0)):=by
 refine z73 v74 ?_
 repeat' first|apply z01|exact z12|exact z19 rfl|(apply z15;rfl;rfl)|(apply z30;(iterate 3 rfl))|(apply z77;(iterate 3 rfl))|(apply z16;rfl;rfl)|(apply z81;rfl;rfl;first | exact z61 (by first | exact rfl | assumption | exact z05 (by assumption)) | exact z66 (by first | exact rfl | assumption | exact z05 (by assumption)))|(apply z25;(iterate 4 rfl);exact z34 (by first | exact rfl | assumption | exact z05 (by assumption)))|(apply z22;rfl;rfl;(assumption);rfl)|(apply za7;(iterate 4 rfl);(first | assumption | exact rfl);rfl;rfl;intro H1 hH1 kH1)|(apply jn2;rfl;rfl)|(apply z07 (hc:=z92 t hl);rfl;rfl;rfl)|(apply z04;focus (repeat (first | exact z23 | (apply kq_c;rfl) | (apply z50;rfl) | (apply z40;rfl))))|apply z02|apply z00|apply z03|apply z06|apply z09|(apply z13;rfl)|(with_reducible apply za1;intro hc;try (exfalso;omega))|(with_reducible apply z74;intro hc;try (exfalso;omega))|(apply va0;rfl)
 all_goals (unfold nmOp tokA;repeat (first | rw [if_pos (by omega)] | rw [if_neg (by omega)]))
theorem we7 {H:z18} {id j:Nat} {x:Sc} (hH:ScH id x H) (hj:j≤x.src.length) (hl:x.src.length<2^60):Shr Vv 31 [.ptr id 0,.c (.int .i64 j),.c (.fn 56 [] [])] H (.c (.str (z83 zb2 x.src j))) (fun H'=>ScH id x H'∧KpH id H H'):=by
 obtain ⟨H',h,rfl⟩:=(wl8 hH hj hl).run
 exact ⟨_,h,hH,fun _ _ _ h=>h⟩
theorem qk3 {H:z18} {id j:Nat} {x:Sc} (hH:ScH id x H) (hj:j≤x.src.length) (hl:x.src.length<2^60):Shr Vv 31 [.ptr id 0,.c (.int .i64 j),.c (.fn 30 [] [])] H (.c (.str (z83 symB x.src j))) (fun H'=>ScH id x H'∧KpH id H H'):=by
 obtain ⟨H',h,rfl⟩:=(wt8 hH hj hl).run
 exact ⟨_,h,hH,fun _ _ _ h=>h⟩
theorem v22 {H:z18} {id j:Nat} {x:Sc} (hH:ScH id x H) (hj:j≤x.src.length) (hl:x.src.length<2^60):Shr Vv 31 [.ptr id 0,.c (.int .i64 j),.c (.fn 27 [] [])] H (.c (.str (z83 z93 x.src j))) (fun H'=>ScH id x H'∧KpH id H H'):=by
 obtain ⟨H',h,rfl⟩:=(wl4 hH hj hl).run
 exact ⟨_,h,hH,fun _ _ _ h=>h⟩
theorem j51 {H:z18} {id:Nat} {x:Sc} {j:Nat} (hH:ScH id x H) (hj:j≤x.src.length) (hl:x.src.length<2^30) :
 Shr Vv 57 [.ptr id 0,.c (.int .i64 j)] H (.c (.str (q27 x.src j))) (fun H'=>ScH id x H'∧KpH id H H'):=by
 refine zh9 vc6 ?_
 have hq:ScH id x H∧KpH id H H:=⟨hH,fun _ _ _ h=>h⟩
 have hH:H[id]?=some (.var (some 8) (scC x)):=hH
 have hl60:x.src.length<2^60:=by omega
 cases hc0:x.src[j]? with
 | none=>
   have hlen:x.src.length≤j:=List.getElem?_eq_none_iff.1 hc0
   repeat' first|apply z01|exact z12|exact z19 rfl|(apply z15;rfl;rfl)|(apply z30;(iterate 3 rfl))|(apply z41;rfl)|(apply z71;(iterate 3 rfl);exact List.getElem?_eq_getElem (by omega))|(apply z24;rfl;rfl)|(apply z16;rfl;rfl)|(apply z29;rfl;rfl)|(apply z22;rfl;rfl;(assumption);rfl)|(apply z04;focus (repeat (first | exact z23 | (apply kq_c;rfl) | (apply z50;rfl))))|apply z02|apply z00|apply z03|apply z08|apply z09|(apply z13;rfl)|(with_reducible apply z67;intro hc)|(with_reducible apply z49;intro hc)
   · refine zk4 rfl ?_ hq
     simp [q27,hc0]
   · exfalso
     omega
 | some c=>
   have hlt:j<x.src.length:=(List.getElem?_eq_some_iff.1 hc0).1
   have l1:=zi5 (p:=zb2) (s:=x.src) hj
   have l2:=zi5 (p:=symB) (s:=x.src) hj
   repeat' first|apply z01|exact z12|exact z19 rfl|(apply z15;rfl;rfl)|(apply z30;(iterate 3 rfl))|(apply z41;rfl)|(apply z17;rfl;(with_reducible rfl);rfl)|(apply z14;rfl;(with_reducible rfl);rfl)|(apply z71;(iterate 3 rfl);assumption)|(apply z24;rfl;rfl)|(apply z16;rfl;rfl)|(apply z29;rfl;rfl)|(apply z22;rfl;rfl;(assumption);rfl)|(apply z07 (hc:=zf2 c);rfl;rfl;rfl)|(apply z07 (hc:=zj7 c);rfl;rfl;rfl)|(apply z27 (hc:=⟨(we7 hH hj hl60).run⟩);rfl;rfl;(exact rfl);rfl;(exact z12);rintro H1 ⟨r1,k1⟩)|(apply z27 (hc:=⟨(qk3 hH hj hl60).run⟩);rfl;rfl;(exact rfl);rfl;(exact z12);rintro H1 ⟨r1,k1⟩)|(apply z07 (hc:=z92 (z83 zb2 x.src j) (by omega));rfl;rfl;rfl)|(apply z07 (hc:=z92 (z83 symB x.src j) (by omega));rfl;rfl;rfl)|(apply z07 (hc:=jd1 (z83 symB x.src j) (by omega));rfl;rfl;rfl)|(apply z04;focus (repeat (first | exact z23 | (apply kq_c;rfl) | (apply z50;rfl))))|apply z02|apply z00|apply z03|apply z08|apply z09|(apply z35;rfl;(with_reducible rfl))|(apply z13;rfl)|(apply z48;rfl;(with_reducible rfl))|(apply z39;rfl;(with_reducible rfl))|(apply z38;rfl)|(with_reducible apply za1;intro hc)|(with_reducible apply z74;intro hc)|(with_reducible apply z67;intro hc)|(with_reducible apply z49;intro hc)|(with_reducible apply zi4;intro hc)
   all_goals first | (exfalso;omega) | skip
   all_goals (refine zk4 rfl ?_ ⟨r1,k1⟩;congr 1;unfold q27;rw [hc0];simp [*]<;>omega)
end Go.Proofs.TryzL
