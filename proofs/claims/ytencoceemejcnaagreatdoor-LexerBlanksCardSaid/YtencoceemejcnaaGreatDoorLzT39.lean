/- Chapter 02: quoted literals. -/
import Derived.Test.YtencoceemejcnaaGreatDoorLzT35
import Derived.Test.YtencoceemejcnaaGreatDoorLzT27
set_option linter.unusedSimpArgs false
set_option linter.unusedVariables false
namespace Go.Proofs.TryzL
open Go.Proofs.Lz
set_option maxHeartbeats 4000000
inductive CR where
 | bad (code at':Nat)
 | ok (b:UInt8) (e:Nat)
def hexS (s:List UInt8) (i:Nat):Nat→Nat→Nat→CR
 | 0,v,k=>.ok (UInt8.ofNat v) k
 | n+1,v,k=>match zg0 s i k with
   | some (code,p)=>.bad code p
   | none=>match hexV (s.getD k 0) with
     | none=>.bad 7 i
     | some d=>hexS s i n (16 * v+d) (k+1)
def zm5 (s:List UInt8) (i:Nat) (c:UInt8) (j:Nat):CR:=if c≠92 then .ok c j else match zg0 s i j with
 | some (code,p)=>.bad code p
 | none=>let d:=s.getD j 0
   if d=110 then .ok 10 (j+1) else if d=116 then .ok 9 (j+1) else if d=92∨d=39∨d=34 then .ok d (j+1) else if d=120 then hexS s i 2 0 (j+1) else .bad 7 i
def crW:CR→WV
 | .bad _ _=>.tup [.c (.int .u8 0),.c (.bool false)]
 | .ok b _=>.tup [.c (bC b),.c (.bool true)]
def Kp2 (li id:Nat) (H H':z18):Prop:=∀ i o,i≠id→i≠li→H[i]?=some o→H'[i]?=some o
theorem Kp2.refl {li id:Nat} {H:z18}:Kp2 li id H H:=fun _ _ _ _ h=>h
theorem Kp2.trans {li id:Nat} {H H1 H2:z18} (h:Kp2 li id H H1) (k:Kp2 li id H1 H2):Kp2 li id H H2:=fun i o a b ho=>k i o a b (h i o a b ho)
theorem KpH.two {li id:Nat} {H H':z18} (h:KpH id H H'):Kp2 li id H H':=fun i o a _ ho=>h i o a ho
def ltO (id at':Nat):WO:=.var (some 2) [.ptr id 0,.c (.int .i64 at')]
def Bad (li id:Nat) (H:z18) (s:List UInt8) (code p:Nat):z18→Prop:=fun H'=>(∃ y,ScH id y H'∧zf3 s code p [] y)∧Kp2 li id H H'
def v55 (li id:Nat) (H:z18) (x:Sc):CR→z18→Prop
 | .bad code p=>Bad li id H x.src code p
 | .ok _ e=>fun H'=>H'[li]?=some (ltO id e)∧(ScH id x H'∧Kp2 li id H H')
theorem qf6 {H:z18} {li id at':Nat} {x:Sc} (hx:scAt x.src x.pos=x) (hL:H[li]?=some (ltO id at')) (hH:ScH id x H) (hne:li≠id) (hp:x.pos≤at') (hat:at'≤x.src.length) (hl:x.src.length<2^30) (h:zg0 x.src x.pos at'=none) :
 Shr Vv 58 [.ptr li 0] H (.tup [.c (bC (x.src.getD at' 0)),.c (.bool true)]) (fun H'=>H'[li]?=some (ltO id (at'+1))∧(ScH id x H'∧Kp2 li id H H')):=by
 obtain ⟨H',a,b⟩:=(wg9 hx hL hH hne hp hat hl).run
 rw [h] at a b
 exact ⟨H',a,b.1.1,b.1.2,b.2⟩
theorem qa7 {H:z18} {li id at' code p:Nat} {x:Sc} (hx:scAt x.src x.pos=x) (hL:H[li]?=some (ltO id at')) (hH:ScH id x H) (hne:li≠id) (hp:x.pos≤at') (hat:at'≤x.src.length) (hl:x.src.length<2^30) (h:zg0 x.src x.pos at'=some (code,p)) :
 Shr Vv 58 [.ptr li 0] H (.tup [.c (.int .u8 0),.c (.bool false)]) (fun H'=>(∃ y,ScH id y H'∧zf3 x.src code p [] y)∧Kp2 li id H H'):=by
 obtain ⟨H',a,b⟩:=(wg9 hx hL hH hne hp hat hl).run
 rw [h] at a b
 exact ⟨H',a,b.1,b.2⟩
theorem zu9 {s:List UInt8} {i k:Nat} (h:zg0 s i k=none):k<s.length:=by
 unfold zg0 at h
 cases hc:s[k]? with
 | none=>rw [hc] at h;cases h
 | some c=>exact (List.getElem?_eq_some_iff.1 hc).1
theorem w61 {H:z18} {li id:Nat} {x:Sc} (hx:scAt x.src x.pos=x) (hH:ScH id x H) (code:Nat) (hc:code≠0):Shr Vv 36 [.ptr id 0,.c (.int .i64 code),.c (.str [])] H (.c (.bool false)) (fun H'=>(∃ y,ScH id y H'∧zf3 x.src code x.pos [] y)∧Kp2 li id H H'):=by
 obtain ⟨H',a,b,c⟩:=(qj9 hx hH code hc).run
 exact ⟨H',a,b,c.two⟩
theorem js5 {c:UInt8} {v:Nat} (h:hexV c=some v):v<16:=by
 unfold hexV at h
 have:=c.toNat_lt
 split at h
 · rename_i hd
   obtain ⟨b1,b2⟩:=jw9 hd
   injection h with h;omega
 · split at h
   · injection h with h;omega
   · split at h
     · injection h with h;omega
     · cases h
theorem wb1 {H:z18} {H0:z18} {li id i0 n v:Nat} {x:Sc} {N:Post} {B:Hs} {R:RP} (hx:scAt x.src x.pos=x) (hL:H[li]?=some (ltO id (i0+n))) (hH:ScH id x H) (hk:Kp2 li id H0 H) (hne:li≠id) (hp:x.pos≤i0) (hat:i0+n≤x.src.length) (hl:x.src.length<2^30) (hn:n<2) (hv:v<16 ^ n)
 (hgo:∀ d H',zg0 x.src x.pos (i0+n)=none→hexV (x.src.getD (i0+n) 0)=some d→H'[li]?=some (ltO id (i0+(n+1)))→ScH id x H'→Kp2 li id H0 H'→∀ fr,KpL [0,7,33] fr [0,7,33] [(0,.ptr li 0),(7,.c (.int .i64 (16 * v+d:Nat))),(33,.c (.int .i64 (n+1:Nat)))]→N fr H')
 (hbad:∀ code p H',hexS x.src x.pos (2 - n) v (i0+n)=.bad code p→Bad li id H0 x.src code p H'→∀ fr:WFr,fr.env 4=.c (.int .u8 0)→fr.env 5=.c (.bool false)→R.ret fr H') :
 WP Vv we6 (FL [(0,.ptr li 0),(7,.c (.int .i64 v)),(33,.c (.int .i64 n))] []) H N B R:=by
 have h2n:2 - n=(1 - n)+1:=by omega
 have hv16:v<16:=by
  have:n=0∨n=1:=by omega
  rcases this with rfl | rfl<;>omega
 cases hs:zg0 x.src x.pos (i0+n) with
 | some cp=>
   obtain ⟨code,p⟩:=cp
   have e:hexS x.src x.pos (2 - n) v (i0+n)=.bad code p:=by rw [h2n,hexS,hs]
   repeat' first|apply z01|exact z12|exact z19 rfl|(apply z15;rfl;rfl)|(apply z30;(iterate 3 rfl))|(apply z84;rfl;rfl)|(apply z57;(iterate 3 rfl))|(apply z24;rfl;rfl)|(apply z94;rfl;rfl)|(apply z27 (hc:=⟨(qa7 hx hL hH hne (by omega) hat hl hs).run⟩);rfl;rfl;(exact rfl);rfl;(exact z19 rfl);rintro H1 ⟨r1,k1⟩)|(apply z04;focus (repeat (first | exact z23 | (apply kq_c;rfl) | (apply z50;rfl))))|apply z02|apply z00|apply z03|apply z06|apply z08|apply z09|apply z56|(apply z13;rfl)|with_reducible exact zd9|with_reducible apply ze4|with_reducible apply z58|with_reducible apply z60|(with_reducible apply z67;intro hc)|(with_reducible apply z49;intro hc)
   · exact hbad code p _ e ⟨r1,hk.trans k1⟩ _ rfl rfl
   · exfalso;omega
 | none=>
   cases hv:hexV (x.src.getD (i0+n) 0) with
   | none=>
     have e:hexS x.src x.pos (2 - n) v (i0+n)=.bad 7 x.pos:=by rw [h2n,hexS,hs];simp only [hv]
     have h86:=ww8 (x.src.getD (i0+n) 0)
     rw [hv] at h86
     repeat' first|apply z01|exact z12|exact z19 rfl|(apply z15;rfl;rfl)|(apply z30;(iterate 3 rfl))|(apply z84;rfl;rfl)|(apply z57;(iterate 3 rfl))|(apply z24;rfl;rfl)|(apply z16;rfl;rfl)|(apply z29;rfl;rfl)|(apply z94;rfl;rfl)|(apply z86;rfl;rfl;(assumption);rfl)|(apply z27 (hc:=⟨(qf6 hx hL hH hne (by omega) hat hl hs).run⟩);rfl;rfl;(exact rfl);rfl;(exact z19 rfl);rintro H1 ⟨r1,k1⟩)|(apply z07 (hc:=h86);rfl;rfl;rfl)|(apply z27 (hc:=⟨(w61 (li:=li) hx k1.1 7 (by decide)).run⟩);rfl;rfl;(exact rfl);rfl;(exact z12);rintro H1 ⟨r1,k1⟩)|(apply z04;focus (repeat (first | exact z23 | (apply kq_c;rfl) | (apply z50;rfl))))|apply z02|apply z00|apply z03|apply z06|apply z08|apply z09|apply z56|(apply z13;rfl)|with_reducible exact zd9|with_reducible exact zb1|with_reducible apply zb3|with_reducible apply ze4|with_reducible apply z58|with_reducible apply z60|(with_reducible apply z67;intro hc)|(with_reducible apply z49;intro hc)
     · rename_i HA ra ka
       exact hbad 7 x.pos _ e ⟨r1,hk.trans (ka.2.trans k1)⟩ _ rfl rfl
     · exfalso;omega
   | some d=>
     have h86:=ww8 (x.src.getD (i0+n) 0)
     rw [hv] at h86
     have hd16:=js5 hv
     repeat' first|apply z01|exact z12|exact z19 rfl|(apply z15;rfl;rfl)|(apply za2;rfl;rfl;omega)|(apply ja5;rfl;rfl;omega)|(apply z30;(iterate 3 rfl))|(apply z84;rfl;rfl)|(apply z57;(iterate 3 rfl))|(apply z24;rfl;rfl)|(apply z94;rfl;rfl)|(apply z27 (hc:=⟨(qf6 hx hL hH hne (by omega) hat hl hs).run⟩);rfl;rfl;(exact rfl);rfl;(exact z19 rfl);rintro H1 ⟨r1,k1⟩)|(apply z07 (hc:=h86);rfl;rfl;rfl)|(apply z04;focus (repeat (first | exact z23 | (apply kq_c;rfl) | (apply z50;rfl))))|apply z02|apply z00|apply z03|apply z06|apply z08|apply z56|(apply z13;rfl)|with_reducible exact zb1|with_reducible apply zb3|with_reducible apply z58|with_reducible apply z60|(with_reducible apply z67;intro hc)|(with_reducible apply z49;intro hc)
     · refine hgo d _ hs hv r1 k1.1 (hk.trans k1.2) _ ?_
       repeat' first|exact z23|refine z64 rfl ?_
       all_goals (show WV.c (CV.int .i64 (16 * (v:Int)+(d:Int)))=_;congr 2)
     · exfalso;omega
theorem wh3 {H:z18} {li id j:Nat} {x:Sc} {c:UInt8} (hx:scAt x.src x.pos=x) (hL:H[li]?=some (ltO id j)) (hH:ScH id x H) (hne:li≠id) (hp:x.pos≤j) (hat:j≤x.src.length) (hl:x.src.length<2^30) :
 Shr Vv 59 [.ptr li 0,.c (bC c)] H (crW (zm5 x.src x.pos c j)) (v55 li id H x (zm5 x.src x.pos c j)):=by
 refine zh9 v47 ?_
 by_cases h92:c=92
 · subst h92
   cases hs:zg0 x.src x.pos j with
   | some cp=>
     obtain ⟨code,p⟩:=cp
     have e:zm5 x.src x.pos 92 j=.bad code p:=by unfold zm5;rw [if_neg (by simp),hs]
     rw [e]
     repeat' first|apply z01|exact z12|exact z19 rfl|(apply z15;rfl;rfl)|(apply z30;(iterate 3 rfl))|(apply z84;rfl;rfl)|(apply z57;(iterate 3 rfl))|(apply z24;rfl;rfl)|(apply z94;rfl;rfl)|(apply z27 (hc:=⟨(qa7 hx hL hH hne hp hat hl hs).run⟩);rfl;rfl;(exact rfl);rfl;(exact z19 rfl);rintro H1 ⟨r1,k1⟩)|(apply z04;focus (repeat (first | exact z23 | (apply kq_c;rfl) | (apply z50;rfl))))|apply z02|apply z00|apply z03|apply z08|apply z09|(apply z13;rfl)|with_reducible exact zd9|with_reducible apply ze4|with_reducible apply z58|with_reducible apply z60|(with_reducible apply zd3;intro hc)|(with_reducible apply za8;intro hc)
     · exfalso;exact hc rfl
     · exact q76 rfl rfl rfl ⟨r1,k1⟩
   | none=>
     have hlt:=zu9 hs
     have e:zm5 x.src x.pos 92 j=(if x.src.getD j 0=110 then .ok 10 (j+1) else if x.src.getD j 0=116 then .ok 9 (j+1) else if x.src.getD j 0=92∨x.src.getD j 0=39∨x.src.getD j 0=34 then .ok (x.src.getD j 0) (j+1) else if x.src.getD j 0=120 then hexS x.src x.pos 2 0 (j+1) else .bad 7 x.pos):=by unfold zm5;rw [if_neg (by simp),hs]
     rw [e]
     have hnx:=qf6 hx hL hH hne hp hat hl hs
     generalize x.src.getD j 0=d at *
     have tn:∀ (n:Nat) (m:UInt8),m.toNat=n→(d=m↔(d.toNat:Int)=n):=fun n m hm=>⟨fun h=>by rw [h,hm],fun h=>UInt8.toNat_inj.1 (by omega)⟩
     simp only [tn 110 110 rfl,tn 116 116 rfl,tn 92 92 rfl,tn 39 39 rfl,tn 34 34 rfl,tn 120 120 rfl]
     repeat' first|apply z01|exact z12|exact z19 rfl|(apply z15;rfl;rfl)|(apply z30;(iterate 3 rfl))|(apply z84;rfl;rfl)|(apply z57;(iterate 3 rfl))|(apply z24;rfl;rfl)|(apply z16;rfl;rfl)|(apply z29;rfl;rfl)|(apply z94;rfl;rfl)|(apply z86;rfl;rfl;(assumption);rfl)|(apply z27 (hc:=⟨hnx.run⟩);rfl;rfl;(exact rfl);rfl;(exact z19 rfl);rintro H1 ⟨r1,k1⟩)|(apply z27 (hc:=⟨(w61 (li:=li) hx k1.1 7 (by decide)).run⟩);rfl;rfl;(exact rfl);rfl;(exact z12);rintro H1 ⟨r1,k1⟩)|(apply z04;focus (repeat (first | exact z23 | (apply kq_c;rfl) | (apply z50;rfl))))|apply z02|apply z00|apply z03|apply z06|apply z08|apply z09|(apply z35;rfl;(with_reducible rfl))|(apply z13;rfl)|with_reducible exact zb1|with_reducible apply zb3|with_reducible apply z58|with_reducible apply z60|(with_reducible apply za1;intro hc)|(with_reducible apply z74;intro hc)|(with_reducible apply zd3;intro hc)|(with_reducible apply za8;intro hc)
     · exfalso;exact hc rfl
     any_goals (repeat (first | rw [if_pos (by omega)] | rw [if_neg (by omega)]))
     all_goals first|(refine q76 rfl rfl rfl ?_;exact And.intro r1 (And.intro k1.1 k1.2))|skip
     · refine zk9 (fun p:Nat×Nat=>[(0,.ptr li 0),(7,.c (.int .i64 p.2)),(33,.c (.int .i64 p.1))]) (fun p H'=>p.1≤2∧p.2<16 ^ p.1∧H'[li]?=some (ltO id (j+1+p.1))∧ScH id x H'∧Kp2 li id H H'∧hexS x.src x.pos (2 - p.1) p.2 (j+1+p.1)=hexS x.src x.pos 2 0 (j+1)∧j+1+p.1≤x.src.length) (fun p=>2 - p.1) (0,0) ?_ ⟨by decide,by decide,r1,k1.1,k1.2,rfl,by omega⟩ ?_
       · repeat' first|exact z23|refine z64 rfl ?_
       rintro ⟨n,v⟩ H2 ⟨hn,hv,g1,g2,g3,g4,g5⟩
       dsimp only at hn hv g1 g2 g3 g4 g5
       dsimp only
       by_cases hn2:n<2
       · refine wb1 hx g1 g2 g3 hne (by omega) g5 hl hn2 hv ?_ ?_
         · intro d' H' h1 h2 h3 h4 h5 fr hk
           have hd16:=js5 h2
           refine ⟨(n+1,16 * v+d'),hk,⟨by dsimp only;omega,?_,h3,h4,h5,?_,?_⟩,by dsimp only;omega⟩
           · dsimp only;rw [Nat.pow_succ];omega
           · dsimp only
             rw [← g4,show 2 - n=(2 - (n+1))+1 by omega,hexS,h1]
             simp only [h2]
             rfl
           · dsimp only;have:=zu9 h1;omega
         · intro code p H' h1 h2 fr h4 h5
           rw [← g4,h1]
           exact q76 h4 h5 rfl h2
       · have hn22:n=2:=by omega
         subst hn22
         have hv256:v<256:=by simpa using hv
         have e9:hexS x.src x.pos 2 0 (j+1)=.ok (UInt8.ofNat v) (j+1+2):=by rw [← g4];rfl
         rw [e9]
         repeat' first|apply z01|exact z12|exact z19 rfl|(apply z15;rfl;rfl)|(apply z30;(iterate 3 rfl))|(apply z24;rfl;rfl)|(apply jf4;rfl)|(apply z04;focus (repeat (first | exact z23 | (apply kq_c;rfl) | (apply z50;rfl))))|apply z02|apply z00|apply z03|apply z06|apply z08|apply z09|apply z56|(apply z13;rfl)|(with_reducible apply z67;intro hc)|(with_reducible apply z49;intro hc)
         · exfalso;omega
         · refine q76 rfl rfl ?_ ?_
           · rw [wq4 ⟨by omega,by omega⟩]
             have:(UInt8.ofNat v).toNat=v:=by simp;omega
             simp only [crW,bC,this]
           · exact And.intro g1 (And.intro g2 g3)
     · refine q76 rfl rfl rfl ?_
       exact And.intro r1 (Kp2.trans (And.right (by assumption:ScH id x _∧Kp2 li id H _)) k1)
 · have e:zm5 x.src x.pos c j=.ok c j:=by unfold zm5;rw [if_pos h92]
   rw [e]
   repeat' first|apply z01|exact z12|exact z19 rfl|(apply z15;rfl;rfl)|(apply z30;(iterate 3 rfl))|(apply z24;rfl;rfl)|(apply z04;focus (repeat (first | exact z23 | (apply kq_c;rfl) | (apply z50;rfl))))|apply z02|apply z00|apply z03|apply z08|apply z09|(apply z13;rfl)|(with_reducible apply zd3;intro hc)|(with_reducible apply za8;intro hc)
   · exact q76 rfl rfl rfl ⟨hL,hH,Kp2.refl⟩
   · exact absurd (UInt8.toNat_inj.1 (by show c.toNat=92;omega)) h92
end Go.Proofs.TryzL
namespace Go.Proofs.Lz
section
variable {V:WEnv} {fr fr':WFr} {H H':z18} {N:Post} {dst:Option Nat}
def wu4 (p:Pl):List (Nat×WV)→List (Nat×WV)
 | []=>[]
 | (s,v)::r=>(s,blind p v)::wu4 p r
theorem jl4 {ek:Option Nat} {xs:List CV}:zs3 ek (.c (.frz ek xs))=some xs:=by
 cases xs with
 | nil=>rfl
 | cons x xs=>simp [zs3,q89]
theorem qm9 {e:Nat} {ek:Option Nat} {bytes p:Nat} {s x:Opd} {xs new:List CV} {l:List (Nat×WV)} {a:List (Nat×Option (Nat×Nat))} (hs:(FL l a).rd s=.view (.sl p 0 0) true 0 e ek xs) (hx:(FL l a).rd x=.c (.frz ek new)) (hb:(xs.length+new.length) * bytes≤140737488355328∧xs.length+new.length≤140737488355328)
 (hq:Put (FL (hitM (inK [.sl p 0 0]) false l) a) dst (.own true e ek (xs++new)) fr') (h:N fr' H):OpP V (.app e ek bytes s x) dst (FL l a) H N:=
 zo5 hs (by rw [hx];exact jl4) hb hq h
end
end Go.Proofs.Lz
namespace Go.Proofs.TryzL
open Go.Proofs.Lz
set_option maxHeartbeats 4000000
inductive QR where
 | bad (code at':Nat)
 | ok (t:List UInt8) (e:Nat)
theorem wn6 (s:List UInt8) (i:Nat):∀ n v j b e,hexS s i n v j=.ok b e→j≤e:=by
 intro n
 induction n with
 | zero=>intro v j b e h;unfold hexS at h;injection h with _ h;omega
 | succ n ih=>
   intro v j b e h
   unfold hexS at h
   split at h
   · cases h
   · split at h
     · cases h
     · have:=ih _ _ _ _ h;omega
theorem qg8 {s:List UInt8} {i:Nat} {c:UInt8} {j:Nat} {b:UInt8} {e:Nat} (h:zm5 s i c j=.ok b e):j≤e:=by
 unfold zm5 at h
 split at h
 · injection h with _ h;omega
 · split at h
   · cases h
   · dsimp only at h
     repeat' split at h
     all_goals first | (injection h with _ h;omega) | cases h | (have:=wn6 _ _ _ _ _ _ _ h;omega)
theorem wq7 (s:List UInt8) (i:Nat):∀ n v j b e,j≤s.length→hexS s i n v j=.ok b e→e≤s.length:=by
 intro n
 induction n with
 | zero=>intro v j b e hj h;unfold hexS at h;injection h with _ h;omega
 | succ n ih=>
   intro v j b e hj h
   unfold hexS at h
   split at h
   · cases h
   · rename_i hs
     have:=zu9 hs
     split at h
     · cases h
     · exact ih _ _ _ _ (by omega) h
theorem jq6 {s:List UInt8} {i:Nat} {c:UInt8} {j:Nat} {b:UInt8} {e:Nat} (hj:j≤s.length) (h:zm5 s i c j=.ok b e):e≤s.length:=by
 unfold zm5 at h
 split at h
 · injection h with _ h;omega
 · split at h
   · cases h
   · rename_i hs
     have:=zu9 hs
     dsimp only at h
     repeat' split at h
     all_goals first | (injection h with _ h;omega) | cases h | exact wq7 _ _ _ _ _ _ _ (by omega) h
def litS (s:List UInt8) (i:Nat) (m:UInt8) (text:List UInt8) (j:Nat):QR:=
 match h:zg0 s i j with
 | some (code,p)=>.bad code p
 | none=>if s.getD j 0=m then .ok text (j+1) else if m=39∧text.length=1 then .bad 7 i else match h2:zm5 s i (s.getD j 0) (j+1) with
   | .bad code p=>.bad code p
   | .ok b e=>if 200<text.length+1 then .bad 3 i else litS s i m (text++[b]) e
termination_by s.length - j
decreasing_by
 have:=zu9 h
 have:=qg8 h2
 omega
theorem qr1 {s:List UInt8} {i:Nat} {m:UInt8} {text:List UInt8} {j code p:Nat} (h:zg0 s i j=some (code,p)):litS s i m text j=.bad code p:=by
 rw [litS]
 split
 · rename_i h';rw [h] at h';injection h' with h';injection h' with a b;subst a;subst b;rfl
 · rename_i h';rw [h] at h';cases h'
theorem jp5 {s:List UInt8} {i:Nat} {m:UInt8} {text:List UInt8} {j:Nat} (h:zg0 s i j=none):litS s i m text j=(if s.getD j 0=m then .ok text (j+1) else if m=39∧text.length=1 then .bad 7 i else match zm5 s i (s.getD j 0) (j+1) with
 | .bad code p=>.bad code p
 | .ok b e=>if 200<text.length+1 then .bad 3 i else litS s i m (text++[b]) e):=by
 rw [litS]
 split
 · rename_i h';rw [h] at h';cases h'
 · split
   · rfl
   · split
     · rfl
     · split
       · rename_i h2;rw [h2]
       · rename_i h2;rw [h2]
def tW:List UInt8→WV
 | []=>.nils
 | c::r=>.own true 5 none ((c::r).map bC)
theorem v13 (c b:UInt8) (r:List UInt8):tW (c::r++[b])=.own true 5 none ((c::r).map bC++[bC b]):=by
 simp [tW]
theorem jv1 {H:z18} {li id j e:Nat} {x:Sc} {c b:UInt8} (hx:scAt x.src x.pos=x) (hL:H[li]?=some (ltO id j)) (hH:ScH id x H) (hne:li≠id) (hp:x.pos≤j) (hat:j≤x.src.length) (hl:x.src.length<2^30) (h:zm5 x.src x.pos c j=.ok b e) :
 Shr Vv 59 [.ptr li 0,.c (bC c)] H (.tup [.c (bC b),.c (.bool true)]) (fun H'=>H'[li]?=some (ltO id e)∧(ScH id x H'∧Kp2 li id H H')):=by
 have:=wh3 (c:=c) hx hL hH hne hp hat hl
 rw [h] at this
 exact this
theorem jg1 {H:z18} {li id j code p:Nat} {x:Sc} {c:UInt8} (hx:scAt x.src x.pos=x) (hL:H[li]?=some (ltO id j)) (hH:ScH id x H) (hne:li≠id) (hp:x.pos≤j) (hat:j≤x.src.length) (hl:x.src.length<2^30) (h:zm5 x.src x.pos c j=.bad code p) :
 Shr Vv 59 [.ptr li 0,.c (bC c)] H (.tup [.c (.int .u8 0),.c (.bool false)]) (fun H'=>(∃ y,ScH id y H'∧zf3 x.src code p [] y)∧Kp2 li id H H'):=by
 have:=wh3 (c:=c) hx hL hH hne hp hat hl
 rw [h] at this
 exact this
theorem zz9 {a b:UInt8} (h:a≠b):¬ ((a.toNat:Int)=b.toNat):=fun e=>h (UInt8.toNat_inj.1 (by omega))
theorem jz3 {H H0:z18} {li id j:Nat} {x:Sc} {m:UInt8} {N K:Post} {B:Hs} {R:RP} (hx:scAt x.src x.pos=x) (hL:H[li]?=some (ltO id j)) (hH:ScH id x H) (hk:Kp2 li id H0 H) (hne:li≠id) (hp:x.pos≤j) (hat:j≤x.src.length) (hl:x.src.length<2^30) (ht:([]:List UInt8).length≤200)
 (hgo:∀ b e H',litS x.src x.pos m ([]:List UInt8) j=litS x.src x.pos m (([]:List UInt8)++[b]) e→j<e→e≤x.src.length→([]:List UInt8).length+1≤200→H'[li]?=some (ltO id e)→ScH id x H'→Kp2 li id H0 H'→∀ fr,KpL [0,2,4,5,6] fr [0,2,4,5,6] [(0,.ptr id 0),(2,.lbox (some 7) (.c q15)),(4,.c (bC m)),(5,.ptr li 0),(6,tW (([]:List UInt8)++[b]))]→N fr H')
 (hend:∀ H',litS x.src x.pos m ([]:List UInt8) j=.ok ([]:List UInt8) (j+1)→j<x.src.length→H'[li]?=some (ltO id (j+1))→ScH id x H'→Kp2 li id H0 H'→K (FL [(0,.ptr id 0),(2,.lbox (some 7) (.c q15)),(4,.c (bC m)),(5,.ptr li 0),(6,tW ([]:List UInt8))] []) H')
 (hbad:∀ code p H',litS x.src x.pos m ([]:List UInt8) j=.bad code p→Bad li id H0 x.src code p H'→∀ fr:WFr,fr.env 2=.lbox (some 7) (.c q15)→fr.env 3=.c (.bool false)→R.ret fr H') :
 WP Vv jv2 (FL [(0,.ptr id 0),(2,.lbox (some 7) (.c q15)),(4,.c (bC m)),(5,.ptr li 0),(6,tW ([]:List UInt8))] []) H N ((0,K)::B) R:=by
 cases hs:zg0 x.src x.pos j with
 | some cp=>
   obtain ⟨code,p⟩:=cp
   have e:=qr1 (m:=m) (text:=([]:List UInt8)) hs
   repeat' first|apply z01|exact z12|exact z19 rfl|(apply z15;rfl;rfl)|(apply z84;rfl;rfl)|(apply z77;(iterate 3 rfl))|(apply z57;(iterate 3 rfl))|(apply z24;rfl;rfl)|(apply z25;(iterate 4 rfl);exact z34 (by first | exact rfl | assumption | exact z05 (by assumption)))|(apply z94;rfl;rfl)|(apply z27 (hc:=⟨(qa7 hx hL hH hne hp hat hl hs).run⟩);rfl;rfl;(exact rfl);rfl;(exact z19 rfl);rintro H1 ⟨r1,k1⟩)|(apply z04;focus (repeat (first | exact z23 | (apply z40;rfl))))|apply z02|apply z00|apply z03|apply z06|apply z09|(apply z13;rfl)|with_reducible exact zd9|with_reducible apply ze4|with_reducible apply z58|with_reducible apply z60
   all_goals exact hbad code p _ e ⟨r1,hk.trans k1⟩ _ rfl rfl
 | none=>
   have e:=jp5 (m:=m) (text:=([]:List UInt8)) hs
   have hlt:=zu9 hs
   have hnx:=qf6 hx hL hH hne hp hat hl hs
   generalize hcc:x.src.getD j 0=c at *
   by_cases hm:c=m
   · rw [if_pos hm] at e
     subst hm
     repeat' first|apply z01|exact z12|exact z19 rfl|(apply z15;rfl;rfl)|(apply z30;(iterate 3 rfl))|(apply zg2;rfl)|(apply z84;rfl;rfl)|(apply z17;rfl;(with_reducible rfl);rfl)|(apply z14;rfl;(with_reducible rfl);rfl)|(apply z77;(iterate 3 rfl))|(apply z68;rfl;rfl)|(apply z57;(iterate 3 rfl))|(apply z24;rfl;rfl)|(apply z94;rfl;rfl)|(apply z27 (hc:=⟨hnx.run⟩);rfl;rfl;(exact rfl);rfl;(exact z19 rfl);rintro H1 ⟨r1,k1⟩)|(apply z04;focus (repeat (first | exact z23 | (apply kq_c;rfl) | (apply zc6;rfl) | (apply z50;rfl) | (apply z40;rfl))))|apply z02|apply z00|apply z03|apply z06|apply z08|apply z56|(apply zc1;rfl)|(apply z32;rfl;(with_reducible rfl))|(apply z13;rfl)|(apply z48;rfl;(with_reducible rfl))|(apply z44;rfl;(with_reducible rfl))|(apply z38;rfl)|with_reducible exact zb1|with_reducible apply zb3|with_reducible apply z58|with_reducible apply z60|(with_reducible apply za1;intro hc)|(with_reducible apply z74;intro hc)
     any_goals (exfalso;omega)
     exact hend _ e hlt r1 k1.1 (hk.trans k1.2)
   · rw [if_neg hm] at e
     have hmI:=zz9 hm
     rw [if_neg (by simp)] at e
     cases hch:zm5 x.src x.pos c (j+1) with
     | bad code p=>
       rw [hch] at e
       repeat' first|apply z01|exact z12|exact z19 rfl|(apply z15;rfl;rfl)|(apply z30;(iterate 3 rfl))|(apply zg2;rfl)|(apply z84;rfl;rfl)|(apply z17;rfl;(with_reducible rfl);rfl)|(apply z14;rfl;(with_reducible rfl);rfl)|(apply z77;(iterate 3 rfl))|(apply z68;rfl;rfl)|(apply z57;(iterate 3 rfl))|(apply z24;rfl;rfl)|(apply z25;(iterate 4 rfl);exact z34 (by first | exact rfl | assumption | exact z05 (by assumption)))|(apply z94;rfl;rfl)|(apply z27 (hc:=⟨hnx.run⟩);rfl;rfl;(exact rfl);rfl;(exact z19 rfl);rintro H1 ⟨r1,k1⟩)|(apply z27 (hc:=⟨(jg1 hx r1 k1.1 hne (by omega) (by omega) hl hch).run⟩);rfl;rfl;(exact rfl);rfl;(exact z19 rfl);rintro H1 ⟨r1,k1⟩)|(apply z04;focus (repeat (first | exact z23 | (apply kq_c;rfl) | (apply zc6;rfl) | (apply z50;rfl) | (apply z40;rfl))))|apply z02|apply z00|apply z03|apply z06|apply z08|apply z09|apply z56|(apply zc1;rfl)|(apply z32;rfl;(with_reducible rfl))|(apply z13;rfl)|(apply z48;rfl;(with_reducible rfl))|(apply z44;rfl;(with_reducible rfl))|(apply z38;rfl)|with_reducible exact zd9|with_reducible exact zb1|with_reducible apply zb3|with_reducible apply ze4|with_reducible apply z58|with_reducible apply z60|(with_reducible apply za1;intro hc)|(with_reducible apply z74;intro hc)
       any_goals (exfalso;omega)
       all_goals exact hbad code p _ e ⟨r1,hk.trans (Kp2.trans (And.right (by assumption:ScH id x _∧Kp2 li id H _)) k1)⟩ _ rfl rfl
     | ok b e'=>
       rw [hch] at e
       dsimp only at e
       rw [if_neg (by simp)] at e
       have h1:=qg8 hch
       have h2:=jq6 (by omega) hch
       repeat' first|apply z01|exact z12|exact z19 rfl|exact zd6 rfl rfl|(apply z15;rfl;rfl)|(apply z30;(iterate 3 rfl))|(apply zg2;rfl)|(apply qb6;rfl)|(apply z84;rfl;rfl)|(apply z17;rfl;(with_reducible rfl);rfl)|(apply z14;rfl;(with_reducible rfl);rfl)|(apply z77;(iterate 3 rfl))|(apply zp5;(iterate 6 rfl))|(apply z68;rfl;rfl)|(apply zl2;(iterate 3 rfl))|(apply zc3;(iterate 3 rfl))|(apply z57;(iterate 3 rfl))|(apply z24;rfl;rfl)|(apply z94;rfl;rfl)|(apply zz8;rfl;rfl;(omega))|(apply z27 (hc:=⟨hnx.run⟩);rfl;rfl;(exact rfl);rfl;(exact z19 rfl);rintro H1 ⟨r1,k1⟩)|(apply z27 (hc:=⟨(jv1 hx r1 k1.1 hne (by omega) (by omega) hl hch).run⟩);rfl;rfl;(exact rfl);rfl;(exact z19 rfl);rintro H1 ⟨r1,k1⟩)|(apply z04;focus (repeat (first | exact z23 | (apply kq_c;rfl) | (apply zc6;rfl) | (apply ze6;rfl;rfl) | (apply z50;rfl) | (apply z40;rfl))))|apply z02|apply z00|apply z03|apply z06|apply z08|apply z56|(apply zc1;rfl)|(apply z32;rfl;(with_reducible rfl))|(apply z13;rfl)|(apply z48;rfl;(with_reducible rfl))|(apply z44;rfl;(with_reducible rfl))|(apply z38;rfl)|with_reducible exact zb1|with_reducible apply zb3|with_reducible apply z58|with_reducible apply z60|(with_reducible apply za1;intro hc)|(with_reducible apply z74;intro hc)|(with_reducible apply z67;intro hc)|(with_reducible apply z49;intro hc)
       any_goals (exfalso;omega)
       any_goals (exfalso;simp at hc;done)
       all_goals
        refine hgo b e' _ e (by omega) (by omega) (by simp) r1 k1.1 (hk.trans (Kp2.trans (And.right (by assumption:ScH id x _∧Kp2 li id H _)) k1.2)) _ ?_
       repeat' first|exact z23|refine z64 rfl ?_
theorem jq3 {H H0:z18} {li id j:Nat} {x:Sc} {m:UInt8} {t0:UInt8} {tr:List UInt8} {N K:Post} {B:Hs} {R:RP} (hx:scAt x.src x.pos=x) (hL:H[li]?=some (ltO id j)) (hH:ScH id x H) (hk:Kp2 li id H0 H) (hne:li≠id) (hp:x.pos≤j) (hat:j≤x.src.length) (hl:x.src.length<2^30) (ht:(t0::tr).length≤200)
 (hgo:∀ b e H',litS x.src x.pos m (t0::tr) j=litS x.src x.pos m ((t0::tr)++[b]) e→j<e→e≤x.src.length→(t0::tr).length+1≤200→H'[li]?=some (ltO id e)→ScH id x H'→Kp2 li id H0 H'→∀ fr,KpL [0,2,4,5,6] fr [0,2,4,5,6] [(0,.ptr id 0),(2,.lbox (some 7) (.c q15)),(4,.c (bC m)),(5,.ptr li 0),(6,tW ((t0::tr)++[b]))]→N fr H')
 (hend:∀ H',litS x.src x.pos m (t0::tr) j=.ok (t0::tr) (j+1)→j<x.src.length→H'[li]?=some (ltO id (j+1))→ScH id x H'→Kp2 li id H0 H'→K (FL [(0,.ptr id 0),(2,.lbox (some 7) (.c q15)),(4,.c (bC m)),(5,.ptr li 0),(6,tW (t0::tr))] []) H')
 (hbad:∀ code p H',litS x.src x.pos m (t0::tr) j=.bad code p→Bad li id H0 x.src code p H'→∀ fr:WFr,fr.env 2=.lbox (some 7) (.c q15)→fr.env 3=.c (.bool false)→R.ret fr H') :
 WP Vv jv2 (FL [(0,.ptr id 0),(2,.lbox (some 7) (.c q15)),(4,.c (bC m)),(5,.ptr li 0),(6,tW (t0::tr))] []) H N ((0,K)::B) R:=by
 cases hs:zg0 x.src x.pos j with
 | some cp=>
   obtain ⟨code,p⟩:=cp
   have e:=qr1 (m:=m) (text:=(t0::tr)) hs
   repeat' first|apply z01|exact z12|exact z19 rfl|(apply z15;rfl;rfl)|(apply z84;rfl;rfl)|(apply z77;(iterate 3 rfl))|(apply z57;(iterate 3 rfl))|(apply z24;rfl;rfl)|(apply z25;(iterate 4 rfl);exact z34 (by first | exact rfl | assumption | exact z05 (by assumption)))|(apply z94;rfl;rfl)|(apply z27 (hc:=⟨(qa7 hx hL hH hne hp hat hl hs).run⟩);rfl;rfl;(exact rfl);rfl;(exact z19 rfl);rintro H1 ⟨r1,k1⟩)|(apply z04;focus (repeat (first | exact z23 | (apply z40;rfl))))|apply z02|apply z00|apply z03|apply z06|apply z09|(apply z13;rfl)|with_reducible exact zd9|with_reducible apply ze4|with_reducible apply z58|with_reducible apply z60
   all_goals exact hbad code p _ e ⟨r1,hk.trans k1⟩ _ rfl rfl
 | none=>
   have e:=jp5 (m:=m) (text:=(t0::tr)) hs
   have hlt:=zu9 hs
   have hnx:=qf6 hx hL hH hne hp hat hl hs
   generalize hcc:x.src.getD j 0=c at *
   by_cases hm:c=m
   · rw [if_pos hm] at e
     subst hm
     repeat' first|apply z01|exact z12|exact z19 rfl|(apply z15;rfl;rfl)|(apply z30;(iterate 3 rfl))|(apply zd4;rfl)|(apply z84;rfl;rfl)|(apply z17;rfl;(with_reducible rfl);rfl)|(apply z14;rfl;(with_reducible rfl);rfl)|(apply z77;(iterate 3 rfl))|(apply zc3;(iterate 3 rfl))|(apply z57;(iterate 3 rfl))|(apply z24;rfl;rfl)|(apply z94;rfl;rfl)|(apply z27 (hc:=⟨hnx.run⟩);rfl;rfl;(exact rfl);rfl;(exact z19 rfl);rintro H1 ⟨r1,k1⟩)|(apply z04;focus (repeat (first | exact z23 | (apply kq_c;rfl) | (apply ze6;rfl;rfl) | (apply z50;rfl) | (apply z40;rfl))))|apply z02|apply z00|apply z03|apply z06|apply z08|apply z56|(apply zc1;rfl)|(apply z32;rfl;(with_reducible rfl))|(apply z13;rfl)|(apply z48;rfl;(with_reducible rfl))|(apply z44;rfl;(with_reducible rfl))|(apply z38;rfl)|with_reducible exact zb1|with_reducible apply zb3|with_reducible apply z58|with_reducible apply z60|(with_reducible apply za1;intro hc)|(with_reducible apply z74;intro hc)
     any_goals (exfalso;omega)
     exact hend _ e hlt r1 k1.1 (hk.trans k1.2)
   · rw [if_neg hm] at e
     have hmI:=zz9 hm
     have ht2:tr.length+1≤200:=ht
     by_cases h39:m=39∧(t0::tr).length=1
     · rw [if_pos h39] at e
       obtain ⟨rfl,htr⟩:=h39
       repeat' first|apply z01|exact z12|exact z19 rfl|(apply z15;rfl;rfl)|(apply z30;(iterate 3 rfl))|(apply zd4;rfl)|(apply z84;rfl;rfl)|(apply z17;rfl;(with_reducible rfl);rfl)|(apply z14;rfl;(with_reducible rfl);rfl)|(apply z77;(iterate 3 rfl))|(apply zc3;(iterate 3 rfl))|(apply z57;(iterate 3 rfl))|(apply z24;rfl;rfl)|(apply z25;(iterate 4 rfl);exact z34 (by first | exact rfl | assumption | exact z05 (by assumption)))|(apply z94;rfl;rfl)|(apply z27 (hc:=⟨hnx.run⟩);rfl;rfl;(exact rfl);rfl;(exact z19 rfl);rintro H1 ⟨r1,k1⟩)|(apply z27 (hc:=⟨(w61 (li:=li) hx k1.1 7 (by decide)).run⟩);rfl;rfl;(exact rfl);rfl;(exact z12);rintro H1 ⟨r1,k1⟩)|(apply z04;focus (repeat (first | exact z23 | (apply kq_c;rfl) | (apply ze6;rfl;rfl) | (apply z50;rfl) | (apply z40;rfl))))|apply z02|apply z00|apply z03|apply z06|apply z08|apply z09|apply z56|(apply zc1;rfl)|(apply z32;rfl;(with_reducible rfl))|(apply z13;rfl)|(apply z48;rfl;(with_reducible rfl))|(apply z44;rfl;(with_reducible rfl))|(apply z38;rfl)|with_reducible exact zb1|with_reducible apply zb3|with_reducible apply z58|with_reducible apply z60|(with_reducible apply za1;intro hc)|(with_reducible apply z74;intro hc)
       any_goals (exfalso;omega)
       any_goals (exfalso;simp_all;done)
       all_goals exact hbad 7 x.pos _ e ⟨r1,hk.trans (Kp2.trans (And.right (by assumption:ScH id x _∧Kp2 li id H _)) k1)⟩ _ rfl rfl
     · rw [if_neg h39] at e
       have h39':¬ (((m.toNat:Nat):Int)=(39:Int)∧(((t0::tr).length:Nat):Int)=(1:Int)):=fun h=>h39 ⟨UInt8.toNat_inj.1 (by have:=h.1;show m.toNat=39;omega),by have:=h.2;omega⟩
       cases hch:zm5 x.src x.pos c (j+1) with
       | bad code p=>
         rw [hch] at e
         repeat' first|apply z01|exact z12|exact z19 rfl|(apply z15;rfl;rfl)|(apply z30;(iterate 3 rfl))|(apply zd4;rfl)|(apply z84;rfl;rfl)|(apply z17;rfl;(with_reducible rfl);rfl)|(apply z14;rfl;(with_reducible rfl);rfl)|(apply z77;(iterate 3 rfl))|(apply zc3;(iterate 3 rfl))|(apply z57;(iterate 3 rfl))|(apply z24;rfl;rfl)|(apply z25;(iterate 4 rfl);exact z34 (by first | exact rfl | assumption | exact z05 (by assumption)))|(apply z94;rfl;rfl)|(apply z27 (hc:=⟨hnx.run⟩);rfl;rfl;(exact rfl);rfl;(exact z19 rfl);rintro H1 ⟨r1,k1⟩)|(apply z27 (hc:=⟨(jg1 hx r1 k1.1 hne (by omega) (by omega) hl hch).run⟩);rfl;rfl;(exact rfl);rfl;(exact z19 rfl);rintro H1 ⟨r1,k1⟩)|(apply z04;focus (repeat (first | exact z23 | (apply kq_c;rfl) | (apply ze6;rfl;rfl) | (apply z50;rfl) | (apply z40;rfl))))|apply z02|apply z00|apply z03|apply z06|apply z08|apply z09|apply z56|(apply zc1;rfl)|(apply z32;rfl;(with_reducible rfl))|(apply z13;rfl)|(apply z48;rfl;(with_reducible rfl))|(apply z44;rfl;(with_reducible rfl))|(apply z38;rfl)|with_reducible exact zd9|with_reducible exact zb1|with_reducible apply zb3|with_reducible apply ze4|with_reducible apply z58|with_reducible apply z60|(with_reducible apply za1;intro hc)|(with_reducible apply z74;intro hc)
         any_goals (exfalso;omega)
         all_goals exact hbad code p _ e ⟨r1,hk.trans (Kp2.trans (And.right (by assumption:ScH id x _∧Kp2 li id H _)) k1)⟩ _ rfl rfl
       | ok b e'=>
         rw [hch] at e
         dsimp only at e
         have h1:=qg8 hch
         have h2:=jq6 (by omega) hch
         repeat' first|apply z01|exact z12|exact z19 rfl|exact zd6 rfl rfl|(apply z15;rfl;rfl)|(apply z30;(iterate 3 rfl))|(apply zd4;rfl)|(apply qb6;rfl)|(apply z84;rfl;rfl)|(apply z17;rfl;(with_reducible rfl);rfl)|(apply z14;rfl;(with_reducible rfl);rfl)|(apply z77;(iterate 3 rfl))|(apply zp5;(iterate 6 rfl))|(apply zl2;(iterate 3 rfl))|(apply zc3;(iterate 3 rfl))|(apply z57;(iterate 3 rfl))|(apply z24;rfl;rfl)|(apply z25;(iterate 4 rfl);exact z34 (by first | exact rfl | assumption | exact z05 (by assumption)))|(apply z94;rfl;rfl)|(apply qm9;rfl;rfl;(simp only [List.length_map,List.length_cons,List.length_nil,List.length_append,List.length_replicate];omega))|(apply z27 (hc:=⟨hnx.run⟩);rfl;rfl;(exact rfl);rfl;(exact z19 rfl);rintro H1 ⟨r1,k1⟩)|(apply z27 (hc:=⟨(jv1 hx r1 k1.1 hne (by omega) (by omega) hl hch).run⟩);rfl;rfl;(exact rfl);rfl;(exact z19 rfl);rintro H1 ⟨r1,k1⟩)|(apply z27 (hc:=⟨(w61 (li:=li) hx k1.1 3 (by decide)).run⟩);rfl;rfl;(exact rfl);rfl;(exact z12);rintro H1 ⟨r1,k1⟩)|(apply z04;focus (repeat (first | exact z23 | (apply kq_c;rfl) | (apply ze6;rfl;rfl) | (apply z50;rfl) | (apply z40;rfl))))|apply z02|apply z00|apply z03|apply z06|apply z08|apply z09|apply z56|(apply zc1;rfl)|(apply z32;rfl;(with_reducible rfl))|(apply z13;rfl)|(apply z48;rfl;(with_reducible rfl))|(apply z44;rfl;(with_reducible rfl))|(apply z38;rfl)|with_reducible exact zb1|with_reducible apply zb3|with_reducible apply z58|with_reducible apply z60|(with_reducible apply za1;intro hc)|(with_reducible apply z74;intro hc)|(with_reducible apply z67;intro hc)|(with_reducible apply z49;intro hc)
         any_goals (exfalso;omega)
         all_goals by_cases h200:200<(t0::tr).length+1
         all_goals first | rw [if_pos h200] at e | rw [if_neg h200] at e
         any_goals (exfalso;simp at hc h200;omega)
         any_goals exact hbad 3 x.pos _ e ⟨r1,hk.trans (Kp2.trans (Kp2.trans (And.right (by assumption:ScH id x _∧Kp2 li id H _)) (And.right (by assumption:ScH id x _∧Kp2 li id _ _))) k1)⟩ _ rfl rfl
         all_goals
          refine hgo b e' _ e (by omega) (by omega) (by omega) r1 k1.1 (hk.trans (Kp2.trans (And.right (by assumption:ScH id x _∧Kp2 li id H _)) k1.2)) _ ?_
          rw [v13]
         repeat' first|exact z23|refine z64 rfl ?_
end Go.Proofs.TryzL
