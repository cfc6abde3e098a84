/- Chapter 02: quoted literals. -/
import Derived.Test.YtencoceemejcnaaGreatDoorLzT35
import Derived.Test.YtencoceemejcnaaGreatDoorLzT33
set_option linter.unusedSimpArgs false
set_option linter.unusedVariables false
namespace Go.Proofs.TryzL
open Go.Proofs.Lz
set_option maxHeartbeats 4000000
inductive CR where
 | bad (code at':Nat)
 | ok (b:UInt8) (e:Nat)
def hexS (s:List UInt8) (i:Nat):Nat->Nat->Nat->CR
 | 0,v,k=>.ok (UInt8.ofNat v) k
 | n+1,v,k=>match a6 s i k with
   | some (code,p)=>.bad code p
   | none=>match hexV (s.getD k 0) with
     | none=>.bad 7 i
     | some d=>hexS s i n (16 * v+d) (k+1)
def E8 (s:List UInt8) (i:Nat) (c:UInt8) (j:Nat):CR:=if c≠92 then .ok c j else match a6 s i j with
 | some (code,p)=>.bad code p
 | none=>let d:=s.getD j 0
   if d=110 then .ok 10 (j+1) else if d=116 then .ok 9 (j+1) else if d=92\/d=39\/d=34 then .ok d (j+1) else if d=120 then hexS s i 2 0 (j+1) else .bad 7 i
def crW:CR->WV
 | .bad _ _=>.tup [.c (.int .u8 0),.c (.bool false)]
 | .ok b _=>.tup [.c (bC b),.c (.bool true)]
def Kp2 (li id:Nat) (H H':q9):Prop:=∀ i o,i≠id->i≠li->H[i]?=some o->H'[i]?=some o
theorem Kp2.refl {li id:Nat} {H:q9}:Kp2 li id H H:=fun _ _ _ _ h=>h
theorem Kp2.trans {li id:Nat} {H H1 H2:q9} (h:Kp2 li id H H1) (k:Kp2 li id H1 H2):Kp2 li id H H2:=fun i o a b ho=>k i o a b (h i o a b ho)
theorem KpH.two {li id:Nat} {H H':q9} (h:KpH id H H'):Kp2 li id H H':=fun i o a _ ho=>h i o a ho
def ltO (id at':Nat):WO:=.var (some 2) [.ptr id 0,.c (.int .i64 at')]
def Bad (li id:Nat) (H:q9) (s:List UInt8) (code p:Nat):q9->Prop:=fun H'=>(∃ y,ScH id y H'/\O6 s code p [] y)/\Kp2 li id H H'
def j22 (li id:Nat) (H:q9) (x:Sc):CR->q9->Prop
 | .bad code p=>Bad li id H x.src code p
 | .ok _ e=>fun H'=>H'[li]?=some (ltO id e)/\(ScH id x H'/\Kp2 li id H H')
theorem pO {H:q9} {li id at':Nat} {x:Sc} (hx:j5 x.src x.pos=x) (hL:H[li]?=some (ltO id at')) (hH:ScH id x H) (hne:li≠id) (hp:x.pos<=at') (hat:at'<=x.src.length) (hl:x.src.length<2^30) (h:a6 x.src x.pos at'=none) :
 Shr Vv 58 [.ptr li 0] H (.tup [.c (bC (x.src.getD at' 0)),.c (.bool true)]) (fun H'=>H'[li]?=some (ltO id (at'+1))/\(ScH id x H'/\Kp2 li id H H')):=by
 obtain ⟨H',a,b⟩:=(za3 hx hL hH hne hp hat hl).run;rw [h] at a b;exact ⟨H',a,b.1.1,b.1.2,b.2⟩
theorem dO {H:q9} {li id at' code p:Nat} {x:Sc} (hx:j5 x.src x.pos=x) (hL:H[li]?=some (ltO id at')) (hH:ScH id x H) (hne:li≠id) (hp:x.pos<=at') (hat:at'<=x.src.length) (hl:x.src.length<2^30) (h:a6 x.src x.pos at'=some (code,p)) :
 Shr Vv 58 [.ptr li 0] H (.tup [.c (.int .u8 0),.c (.bool false)]) (fun H'=>(∃ y,ScH id y H'/\O6 x.src code p [] y)/\Kp2 li id H H'):=by
 obtain ⟨H',a,b⟩:=(za3 hx hL hH hne hp hat hl).run;rw [h] at a b;exact ⟨H',a,b.1,b.2⟩
theorem wN {s:List UInt8} {i k:Nat} (h:a6 s i k=none):k<s.length:=by
 unfold a6 at h;cases hc:s[k]? with
 | none=>rw [hc] at h;cases h
 | some c=>exact (gEs hc).1
theorem mJ {H:q9} {li id:Nat} {x:Sc} (hx:j5 x.src x.pos=x) (hH:ScH id x H) (code:Nat) (hc:code≠0):Shr Vv 36 [.ptr id 0,.c (.int .i64 code),.c (.str [])] H (.c (.bool false)) (fun H'=>(∃ y,ScH id y H'/\O6 x.src code x.pos [] y)/\Kp2 li id H H'):=by
 obtain ⟨H',a,b,c⟩:=(qH hx hH code hc).run;exact ⟨H',a,b,c.two⟩
theorem eX {c:UInt8} {v:Nat} (h:hexV c=some v):v<16:=by
 unfold hexV at h;have:=c.toNat_lt;split at h
 . rename_i hd;obtain ⟨b1,b2⟩:=xH hd;injection h with h;omega
 . split at h
   . injection h with h;omega
   . split at h
     . injection h with h;omega
     . cases h
theorem qo9 {H:q9} {H0:q9} {li id i0 n v:Nat} {x:Sc} {N:f4} {B:Hs} {R:RP} (hx:j5 x.src x.pos=x) (hL:H[li]?=some (ltO id (i0+n))) (hH:ScH id x H) (hk:Kp2 li id H0 H) (hne:li≠id) (hp:x.pos<=i0) (hat:i0+n<=x.src.length) (hl:x.src.length<2^30) (hn:n<2) (hv:v<16 ^ n)
 (hgo:∀ d H',a6 x.src x.pos (i0+n)=none->hexV (x.src.getD (i0+n) 0)=some d->H'[li]?=some (ltO id (i0+(n+1)))->ScH id x H'->Kp2 li id H0 H'->∀ fr,KpL [0,7,33] fr [0,7,33] [(0,.ptr li 0),(7,.c (.int .i64 (16 * v+d:Nat))),(33,.c (.int .i64 (n+1:Nat)))]->N fr H')
 (hbad:∀ code p H',hexS x.src x.pos (2 - n) v (i0+n)=.bad code p->Bad li id H0 x.src code p H'->∀ fr:WFr,fr.env 4=.c (.int .u8 0)->fr.env 5=.c (.bool false)->R.ret fr H') :
 WP Vv z40 (FL [(0,.ptr li 0),(7,.c (.int .i64 v)),(33,.c (.int .i64 n))] []) H N B R:=by
 have h2n:2 - n=(1 - n)+1:=by omega
 have hv16:v<16:=by
  have:n=0\/n=1:=by omega
  rcases this with rfl | rfl<;>omega
 cases hs:a6 x.src x.pos (i0+n) with
 | some cp=>
   obtain ⟨code,p⟩:=cp;have e:hexS x.src x.pos (2 - n) v (i0+n)=.bad code p:=by rw [h2n,hexS,hs]
   repeat' first|apply j2|exact q7|exact j8 rfl|(apply j7;rfl;rfl)|(apply j9;rfl;rfl;rfl)|(apply s6;rfl;rfl)|(apply A9;rfl;rfl;rfl)|(apply m6;rfl;rfl)|(apply A7;rfl;rfl)|(apply b7 (hc:=⟨(dO hx hL hH hne (by omega) hat hl hs).run⟩);rfl;rfl;(exact rfl);rfl;(exact j8 rfl);rintro H1 ⟨r1,k1⟩)|(apply w8;focus (repeat (first | exact q8 | (apply v6;rfl) | (apply d6;rfl))))|apply j1|apply j3|apply j4|apply x3|apply v8|apply w9|apply l0|(apply v7;rfl)|(with_reducible first|exact G1|apply F9|apply s4|apply s5)|(with_reducible (first|apply x6|apply x5);intro hc)
   . exact hbad code p _ e ⟨r1,hk.trans k1⟩ _ rfl rfl
   . exfalso;omega
 | none=>
   cases hv:hexV (x.src.getD (i0+n) 0) with
   | none=>
     have e:hexS x.src x.pos (2 - n) v (i0+n)=.bad 7 x.pos:=by rw [h2n,hexS,hs];simp only [hv]
     have h86:=eA (x.src.getD (i0+n) 0);rw [hv] at h86;repeat' first|apply j2|exact q7|exact j8 rfl|(apply j7;rfl;rfl)|(apply j9;rfl;rfl;rfl)|(apply s6;rfl;rfl)|(apply A9;rfl;rfl;rfl)|(apply m6;rfl;rfl)|(apply s9;rfl;rfl)|(apply l5;rfl;rfl)|(apply A7;rfl;rfl)|(apply vM;rfl;rfl;(assumption);rfl)|(apply b7 (hc:=⟨(pO hx hL hH hne (by omega) hat hl hs).run⟩);rfl;rfl;(exact rfl);rfl;(exact j8 rfl);rintro H1 ⟨r1,k1⟩)|(apply q6 (hc:=h86);rfl;rfl;rfl)|(apply b7 (hc:=⟨(mJ (li:=li) hx k1.1 7 (by decide)).run⟩);rfl;rfl;(exact rfl);rfl;(exact q7);rintro H1 ⟨r1,k1⟩)|(apply w8;focus (repeat (first | exact q8 | (apply v6;rfl) | (apply d6;rfl))))|apply j1|apply j3|apply j4|apply x3|apply v8|apply w9|apply l0|(apply v7;rfl)|(with_reducible first|exact G1|exact C2|apply C3|apply F9|apply s4|apply s5)|(with_reducible (first|apply x6|apply x5);intro hc)
     . rename_i HA ra ka;exact hbad 7 x.pos _ e ⟨r1,hk.trans (ka.2.trans k1)⟩ _ rfl rfl
     . exfalso;omega
   | some d=>
     have h86:=eA (x.src.getD (i0+n) 0);rw [hv] at h86;have hd16:=eX hv;repeat' first|apply j2|exact q7|exact j8 rfl|(apply j7;rfl;rfl)|(apply b6;rfl;rfl;omega)|(apply Y6;rfl;rfl;omega)|(apply j9;rfl;rfl;rfl)|(apply s6;rfl;rfl)|(apply A9;rfl;rfl;rfl)|(apply m6;rfl;rfl)|(apply A7;rfl;rfl)|(apply b7 (hc:=⟨(pO hx hL hH hne (by omega) hat hl hs).run⟩);rfl;rfl;(exact rfl);rfl;(exact j8 rfl);rintro H1 ⟨r1,k1⟩)|(apply q6 (hc:=h86);rfl;rfl;rfl)|(apply w8;focus (repeat (first | exact q8 | (apply v6;rfl) | (apply d6;rfl))))|apply j1|apply j3|apply j4|apply x3|apply v8|apply l0|(apply v7;rfl)|(with_reducible first|exact C2|apply C3|apply s4|apply s5)|(with_reducible (first|apply x6|apply x5);intro hc)
     . refine hgo d _ hs hv r1 k1.1 (hk.trans k1.2) _ ?_;repeat' first|exact q8|refine d5 rfl ?_
       all_goals (show WV.c (CV.int .i64 (16 * (v:Int)+(d:Int)))=_;congr 2)
     . exfalso;omega
theorem eF {H:q9} {li id j:Nat} {x:Sc} {c:UInt8} (hx:j5 x.src x.pos=x) (hL:H[li]?=some (ltO id j)) (hH:ScH id x H) (hne:li≠id) (hp:x.pos<=j) (hat:j<=x.src.length) (hl:x.src.length<2^30) :
 Shr Vv 59 [.ptr li 0,.c (bC c)] H (crW (E8 x.src x.pos c j)) (j22 li id H x (E8 x.src x.pos c j)):=by
 refine V7 qi7 ?_;by_cases h92:c=92
 . subst h92;cases hs:a6 x.src x.pos j with
   | some cp=>
     obtain ⟨code,p⟩:=cp;have e:E8 x.src x.pos 92 j=.bad code p:=by unfold E8;rw [if_neg (by simp),hs]
     rw [e];repeat' first|apply j2|exact q7|exact j8 rfl|(apply j7;rfl;rfl)|(apply j9;rfl;rfl;rfl)|(apply s6;rfl;rfl)|(apply A9;rfl;rfl;rfl)|(apply m6;rfl;rfl)|(apply A7;rfl;rfl)|(apply b7 (hc:=⟨(dO hx hL hH hne hp hat hl hs).run⟩);rfl;rfl;(exact rfl);rfl;(exact j8 rfl);rintro H1 ⟨r1,k1⟩)|(apply w8;focus (repeat (first | exact q8 | (apply v6;rfl) | (apply d6;rfl))))|apply j1|apply j3|apply j4|apply v8|apply w9|(apply v7;rfl)|(with_reducible first|exact G1|apply F9|apply s4|apply s5)|(with_reducible (first|apply f5|apply f6);intro hc)
     . exfalso;exact hc rfl
     . exact qY rfl rfl rfl ⟨r1,k1⟩
   | none=>
     have hlt:=wN hs;have e:E8 x.src x.pos 92 j=(if x.src.getD j 0=110 then .ok 10 (j+1) else if x.src.getD j 0=116 then .ok 9 (j+1) else if x.src.getD j 0=92\/x.src.getD j 0=39\/x.src.getD j 0=34 then .ok (x.src.getD j 0) (j+1) else if x.src.getD j 0=120 then hexS x.src x.pos 2 0 (j+1) else .bad 7 x.pos):=by unfold E8;rw [if_neg (by simp),hs]
     rw [e];have hnx:=pO hx hL hH hne hp hat hl hs;generalize x.src.getD j 0=d at *;have tn:∀ (n:Nat) (m:UInt8),m.toNat=n->(d=m↔(d.toNat:Int)=n):=fun n m hm=>⟨fun h=>by rw [h,hm],fun h=>UInt8.toNat_inj.1 (by omega)⟩;simp only [tn 110 110 rfl,tn 116 116 rfl,tn 92 92 rfl,tn 39 39 rfl,tn 34 34 rfl,tn 120 120 rfl];repeat' first|apply j2|exact q7|exact j8 rfl|(apply j7;rfl;rfl)|(apply j9;rfl;rfl;rfl)|(apply s6;rfl;rfl)|(apply A9;rfl;rfl;rfl)|(apply m6;rfl;rfl)|(apply s9;rfl;rfl)|(apply l5;rfl;rfl)|(apply A7;rfl;rfl)|(apply vM;rfl;rfl;(assumption);rfl)|(apply b7 (hc:=⟨hnx.run⟩);rfl;rfl;(exact rfl);rfl;(exact j8 rfl);rintro H1 ⟨r1,k1⟩)|(apply b7 (hc:=⟨(mJ (li:=li) hx k1.1 7 (by decide)).run⟩);rfl;rfl;(exact rfl);rfl;(exact q7);rintro H1 ⟨r1,k1⟩)|(apply w8;focus (repeat (first | exact q8 | (apply v6;rfl) | (apply d6;rfl))))|apply j1|apply j3|apply j4|apply x3|apply v8|apply w9|(apply m5;rfl;(with_reducible rfl))|(apply v7;rfl)|(with_reducible first|exact C2|apply C3|apply s4|apply s5)|(with_reducible (first|apply u7|apply g8|apply f5|apply f6);intro hc)
     . exfalso;exact hc rfl
     any_goals (repeat (first | rw [if_pos (by omega)] | rw [if_neg (by omega)]))
     all_goals first|(refine qY rfl rfl rfl ?_;exact And.intro r1 (And.intro k1.1 k1.2))|skip
     . refine kE (fun p:Nat×Nat=>[(0,.ptr li 0),(7,.c (.int .i64 p.2)),(33,.c (.int .i64 p.1))]) (fun p H'=>p.1<=2/\p.2<16 ^ p.1/\H'[li]?=some (ltO id (j+1+p.1))/\ScH id x H'/\Kp2 li id H H'/\hexS x.src x.pos (2 - p.1) p.2 (j+1+p.1)=hexS x.src x.pos 2 0 (j+1)/\j+1+p.1<=x.src.length) (fun p=>2 - p.1) (0,0) ?_ ⟨by decide,by decide,r1,k1.1,k1.2,rfl,by omega⟩ ?_
       . repeat' first|exact q8|refine d5 rfl ?_
       rintro ⟨n,v⟩ H2 ⟨hn,hv,g1,g2,g3,g4,g5⟩;dsimp only at hn hv g1 g2 g3 g4 g5;dsimp only;by_cases hn2:n<2
       . refine qo9 hx g1 g2 g3 hne (by omega) g5 hl hn2 hv ?_ ?_
         . intro d' H' h1 h2 h3 h4 h5 fr hk;have hd16:=eX h2;refine ⟨(n+1,16 * v+d'),hk,⟨by dsimp only;omega,?_,h3,h4,h5,?_,?_⟩,by dsimp only;omega⟩
           . dsimp only;rw [Nat.pow_succ];omega
           . dsimp only;rw [<-g4,show 2 - n=(2 - (n+1))+1 by omega,hexS,h1];simp only [h2];rfl
           . dsimp only;have:=wN h1;omega
         . intro code p H' h1 h2 fr h4 h5;rw [<-g4,h1];exact qY h4 h5 rfl h2
       . have hn22:n=2:=by omega
         subst hn22;have hv256:v<256:=by simpa using hv
         have e9:hexS x.src x.pos 2 0 (j+1)=.ok (UInt8.ofNat v) (j+1+2):=by rw [<-g4];rfl
         rw [e9];repeat' first|apply j2|exact q7|exact j8 rfl|(apply j7;rfl;rfl)|(apply j9;rfl;rfl;rfl)|(apply m6;rfl;rfl)|(apply wE;rfl)|(apply w8;focus (repeat (first | exact q8 | (apply v6;rfl) | (apply d6;rfl))))|apply j1|apply j3|apply j4|apply x3|apply v8|apply w9|apply l0|(apply v7;rfl)|(with_reducible (first|apply x6|apply x5);intro hc)
         . exfalso;omega
         . refine qY rfl rfl ?_ ?_
           . rw [zg9 ⟨by omega,by omega⟩];have:(UInt8.ofNat v).toNat=v:=by simp;omega
             simp only [crW,bC,this]
           . exact And.intro g1 (And.intro g2 g3)
     . refine qY rfl rfl rfl ?_;exact And.intro r1 (Kp2.trans (And.right (by assumption:ScH id x _/\Kp2 li id H _)) k1)
 . have e:E8 x.src x.pos c j=.ok c j:=by unfold E8;rw [if_pos h92]
   rw [e];repeat' first|apply j2|exact q7|exact j8 rfl|(apply j7;rfl;rfl)|(apply j9;rfl;rfl;rfl)|(apply m6;rfl;rfl)|(apply w8;focus (repeat (first | exact q8 | (apply v6;rfl) | (apply d6;rfl))))|apply j1|apply j3|apply j4|apply v8|apply w9|(apply v7;rfl)|(with_reducible (first|apply f5|apply f6);intro hc)
   . exact qY rfl rfl rfl ⟨hL,hH,Kp2.refl⟩
   . exact absurd (UInt8.toNat_inj.1 (by show c.toNat=92;omega)) h92
end Go.Proofs.TryzL
namespace Go.Proofs.Lz
section
variable {V:WEnv} {fr fr':WFr} {H H':q9} {N:f4} {dst:Option Nat}
def qc0 (p:Pl):List (Nat×WV)->List (Nat×WV)
 | []=>[]
 | (s,v)::r=>(s,blind p v)::qc0 p r
theorem jc8 {ek:Option Nat} {xs:List CV}:vT ek (.c (.frz ek xs))=some xs:=by
 cases xs with
 | nil=>rfl
 | cons x xs=>simp [vT,wW]
theorem uO {e:Nat} {ek:Option Nat} {bytes p:Nat} {s x:Opd} {xs new:List CV} {l:List (Nat×WV)} {a:List (Nat×Option (Nat×Nat))} (hs:(FL l a).rd s=.view (.sl p 0 0) true 0 e ek xs) (hx:(FL l a).rd x=.c (.frz ek new)) (hb:(xs.length+new.length) * bytes<=140737488355328/\xs.length+new.length<=140737488355328)
 (hq:Put (FL (X8 (inK [.sl p 0 0]) false l) a) dst (.own true e ek (xs++new)) fr') (h:N fr' H):OpP V (.app e ek bytes s x) dst (FL l a) H N:=
 q17 hs (by rw [hx];exact jc8) hb hq h
end
end Go.Proofs.Lz
namespace Go.Proofs.TryzL
open Go.Proofs.Lz
set_option maxHeartbeats 4000000
inductive QR where
 | bad (code at':Nat)
 | ok (t:List UInt8) (e:Nat)
theorem qf7 (s:List UInt8) (i:Nat):∀ n v j b e,hexS s i n v j=.ok b e->j<=e:=by
 intro n;induction n with
 | zero=>intro v j b e h;unfold hexS at h;injection h with _ h;omega
 | succ n ih=>
   intro v j b e h;unfold hexS at h;split at h
   . cases h
   . split at h
     . cases h
     . have:=ih _ _ _ _ h;omega
theorem xR {s:List UInt8} {i:Nat} {c:UInt8} {j:Nat} {b:UInt8} {e:Nat} (h:E8 s i c j=.ok b e):j<=e:=by
 unfold E8 at h;split at h
 . injection h with _ h;omega
 . split at h
   . cases h
   . dsimp only at h;repeat' split at h
     all_goals first | (injection h with _ h;omega) | cases h | (have:=qf7 _ _ _ _ _ _ _ h;omega)
theorem qi4 (s:List UInt8) (i:Nat):∀ n v j b e,j<=s.length->hexS s i n v j=.ok b e->e<=s.length:=by
 intro n;induction n with
 | zero=>intro v j b e hj h;unfold hexS at h;injection h with _ h;omega
 | succ n ih=>
   intro v j b e hj h;unfold hexS at h;split at h
   . cases h
   . rename_i hs;have:=wN hs;split at h
     . cases h
     . exact ih _ _ _ _ (by omega) h
theorem rO {s:List UInt8} {i:Nat} {c:UInt8} {j:Nat} {b:UInt8} {e:Nat} (hj:j<=s.length) (h:E8 s i c j=.ok b e):e<=s.length:=by
 unfold E8 at h;split at h
 . injection h with _ h;omega
 . split at h
   . cases h
   . rename_i hs;have:=wN hs;dsimp only at h;repeat' split at h
     all_goals first | (injection h with _ h;omega) | cases h | exact qi4 _ _ _ _ _ _ _ (by omega) h
def A6 (s:List UInt8) (i:Nat) (m:UInt8) (text:List UInt8) (j:Nat):QR:=
 match h:a6 s i j with
 | some (code,p)=>.bad code p
 | none=>if s.getD j 0=m then .ok text (j+1) else if m=39/\text.length=1 then .bad 7 i else match h2:E8 s i (s.getD j 0) (j+1) with
   | .bad code p=>.bad code p
   | .ok b e=>if 200<text.length+1 then .bad 3 i else A6 s i m (text++[b]) e
termination_by s.length - j
decreasing_by
 have:=wN h;have:=xR h2;omega
theorem mV {s:List UInt8} {i:Nat} {m:UInt8} {text:List UInt8} {j code p:Nat} (h:a6 s i j=some (code,p)):A6 s i m text j=.bad code p:=by
 rw [A6];split
 . rename_i h';rw [h] at h';injection h' with h';injection h' with a b;subst a;subst b;rfl
 . rename_i h';rw [h] at h';cases h'
theorem lR {s:List UInt8} {i:Nat} {m:UInt8} {text:List UInt8} {j:Nat} (h:a6 s i j=none):A6 s i m text j=(if s.getD j 0=m then .ok text (j+1) else if m=39/\text.length=1 then .bad 7 i else match E8 s i (s.getD j 0) (j+1) with
 | .bad code p=>.bad code p
 | .ok b e=>if 200<text.length+1 then .bad 3 i else A6 s i m (text++[b]) e):=by
 rw [A6];split
 . rename_i h';rw [h] at h';cases h'
 . split
   . rfl
   . split
     . rfl
     . split
       . rename_i h2;rw [h2]
       . rename_i h2;rw [h2]
def tW:List UInt8->WV
 | []=>.nils
 | c::r=>.own true 5 none ((c::r).map bC)
theorem zl5 (c b:UInt8) (r:List UInt8):tW (c::r++[b])=.own true 5 none ((c::r).map bC++[bC b]):=by
 simp [tW]
theorem ze0 {H:q9} {li id j e:Nat} {x:Sc} {c b:UInt8} (hx:j5 x.src x.pos=x) (hL:H[li]?=some (ltO id j)) (hH:ScH id x H) (hne:li≠id) (hp:x.pos<=j) (hat:j<=x.src.length) (hl:x.src.length<2^30) (h:E8 x.src x.pos c j=.ok b e) :
 Shr Vv 59 [.ptr li 0,.c (bC c)] H (.tup [.c (bC b),.c (.bool true)]) (fun H'=>H'[li]?=some (ltO id e)/\(ScH id x H'/\Kp2 li id H H')):=by
 have:=eF (c:=c) hx hL hH hne hp hat hl;rw [h] at this;exact this
theorem zj0 {H:q9} {li id j code p:Nat} {x:Sc} {c:UInt8} (hx:j5 x.src x.pos=x) (hL:H[li]?=some (ltO id j)) (hH:ScH id x H) (hne:li≠id) (hp:x.pos<=j) (hat:j<=x.src.length) (hl:x.src.length<2^30) (h:E8 x.src x.pos c j=.bad code p) :
 Shr Vv 59 [.ptr li 0,.c (bC c)] H (.tup [.c (.int .u8 0),.c (.bool false)]) (fun H'=>(∃ y,ScH id y H'/\O6 x.src code p [] y)/\Kp2 li id H H'):=by
 have:=eF (c:=c) hx hL hH hne hp hat hl;rw [h] at this;exact this
theorem R9 {a b:UInt8} (h:a≠b):¬ ((a.toNat:Int)=b.toNat):=fun e=>h (UInt8.toNat_inj.1 (by omega))
theorem ji4 {H H0:q9} {li id j:Nat} {x:Sc} {m:UInt8} {N K:f4} {B:Hs} {R:RP} (hx:j5 x.src x.pos=x) (hL:H[li]?=some (ltO id j)) (hH:ScH id x H) (hk:Kp2 li id H0 H) (hne:li≠id) (hp:x.pos<=j) (hat:j<=x.src.length) (hl:x.src.length<2^30) (ht:([]:List UInt8).length<=200)
 (hgo:∀ b e H',A6 x.src x.pos m ([]:List UInt8) j=A6 x.src x.pos m (([]:List UInt8)++[b]) e->j<e->e<=x.src.length->([]:List UInt8).length+1<=200->H'[li]?=some (ltO id e)->ScH id x H'->Kp2 li id H0 H'->∀ fr,KpL [0,2,4,5,6] fr [0,2,4,5,6] [(0,.ptr id 0),(2,.lbox (some 7) (.c T8)),(4,.c (bC m)),(5,.ptr li 0),(6,tW (([]:List UInt8)++[b]))]->N fr H')
 (hend:∀ H',A6 x.src x.pos m ([]:List UInt8) j=.ok ([]:List UInt8) (j+1)->j<x.src.length->H'[li]?=some (ltO id (j+1))->ScH id x H'->Kp2 li id H0 H'->K (FL [(0,.ptr id 0),(2,.lbox (some 7) (.c T8)),(4,.c (bC m)),(5,.ptr li 0),(6,tW ([]:List UInt8))] []) H')
 (hbad:∀ code p H',A6 x.src x.pos m ([]:List UInt8) j=.bad code p->Bad li id H0 x.src code p H'->∀ fr:WFr,fr.env 2=.lbox (some 7) (.c T8)->fr.env 3=.c (.bool false)->R.ret fr H') :
 WP Vv aE (FL [(0,.ptr id 0),(2,.lbox (some 7) (.c T8)),(4,.c (bC m)),(5,.ptr li 0),(6,tW ([]:List UInt8))] []) H N ((0,K)::B) R:=by
 cases hs:a6 x.src x.pos j with
 | some cp=>
   obtain ⟨code,p⟩:=cp;have e:=mV (m:=m) (text:=([]:List UInt8)) hs;repeat' first|apply j2|exact q7|exact j8 rfl|(apply j7;rfl;rfl)|(apply s6;rfl;rfl)|(apply l6;rfl;rfl;rfl)|(apply A9;rfl;rfl;rfl)|(apply m6;rfl;rfl)|(apply u1;rfl;rfl;rfl;rfl;exact u4 (by first | exact rfl | assumption | exact j0 (by assumption)))|(apply A7;rfl;rfl)|(apply b7 (hc:=⟨(dO hx hL hH hne hp hat hl hs).run⟩);rfl;rfl;(exact rfl);rfl;(exact j8 rfl);rintro H1 ⟨r1,k1⟩)|(apply w8;focus (repeat (first | exact q8 | (apply y6;rfl))))|apply j1|apply j3|apply j4|apply x3|apply w9|(apply v7;rfl)|(with_reducible first|exact G1|apply F9|apply s4|apply s5)
   all_goals exact hbad code p _ e ⟨r1,hk.trans k1⟩ _ rfl rfl
 | none=>
   have e:=lR (m:=m) (text:=([]:List UInt8)) hs;have hlt:=wN hs;have hnx:=pO hx hL hH hne hp hat hl hs;generalize hcc:x.src.getD j 0=c at *;by_cases hm:c=m
   . rw [if_pos hm] at e;subst hm;repeat' first|apply j2|exact q7|exact j8 rfl|(apply j7;rfl;rfl)|(apply j9;rfl;rfl;rfl)|(apply jI;rfl)|(apply s6;rfl;rfl)|(apply y9;rfl;(with_reducible rfl);rfl)|(apply y0;rfl;(with_reducible rfl);rfl)|(apply l6;rfl;rfl;rfl)|(apply C7;rfl;rfl)|(apply A9;rfl;rfl;rfl)|(apply m6;rfl;rfl)|(apply A7;rfl;rfl)|(apply b7 (hc:=⟨hnx.run⟩);rfl;rfl;(exact rfl);rfl;(exact j8 rfl);rintro H1 ⟨r1,k1⟩)|(apply w8;focus (repeat (first | exact q8 | (apply v6;rfl) | (apply F7;rfl) | (apply d6;rfl) | (apply y6;rfl))))|apply j1|apply j3|apply j4|apply x3|apply v8|apply l0|(apply T9;rfl)|(apply g9;rfl;(with_reducible rfl))|(apply v7;rfl)|(apply x8;rfl;(with_reducible rfl))|(apply b9;rfl;(with_reducible rfl))|(apply y7;rfl)|(with_reducible first|exact C2|apply C3|apply s4|apply s5)|(with_reducible (first|apply u7|apply g8);intro hc)
     any_goals (exfalso;omega)
     exact hend _ e hlt r1 k1.1 (hk.trans k1.2)
   . rw [if_neg hm] at e;have hmI:=R9 hm;rw [if_neg (by simp)] at e;cases hch:E8 x.src x.pos c (j+1) with
     | bad code p=>
       rw [hch] at e;repeat' first|apply j2|exact q7|exact j8 rfl|(apply j7;rfl;rfl)|(apply j9;rfl;rfl;rfl)|(apply jI;rfl)|(apply s6;rfl;rfl)|(apply y9;rfl;(with_reducible rfl);rfl)|(apply y0;rfl;(with_reducible rfl);rfl)|(apply l6;rfl;rfl;rfl)|(apply C7;rfl;rfl)|(apply A9;rfl;rfl;rfl)|(apply m6;rfl;rfl)|(apply u1;rfl;rfl;rfl;rfl;exact u4 (by first | exact rfl | assumption | exact j0 (by assumption)))|(apply A7;rfl;rfl)|(apply b7 (hc:=⟨hnx.run⟩);rfl;rfl;(exact rfl);rfl;(exact j8 rfl);rintro H1 ⟨r1,k1⟩)|(apply b7 (hc:=⟨(zj0 hx r1 k1.1 hne (by omega) (by omega) hl hch).run⟩);rfl;rfl;(exact rfl);rfl;(exact j8 rfl);rintro H1 ⟨r1,k1⟩)|(apply w8;focus (repeat (first | exact q8 | (apply v6;rfl) | (apply F7;rfl) | (apply d6;rfl) | (apply y6;rfl))))|apply j1|apply j3|apply j4|apply x3|apply v8|apply w9|apply l0|(apply T9;rfl)|(apply g9;rfl;(with_reducible rfl))|(apply v7;rfl)|(apply x8;rfl;(with_reducible rfl))|(apply b9;rfl;(with_reducible rfl))|(apply y7;rfl)|(with_reducible first|exact G1|exact C2|apply C3|apply F9|apply s4|apply s5)|(with_reducible (first|apply u7|apply g8);intro hc)
       any_goals (exfalso;omega)
       all_goals exact hbad code p _ e ⟨r1,hk.trans (Kp2.trans (And.right (by assumption:ScH id x _/\Kp2 li id H _)) k1)⟩ _ rfl rfl
     | ok b e'=>
       rw [hch] at e;dsimp only at e;rw [if_neg (by simp)] at e;have h1:=xR hch;have h2:=rO (by omega) hch;repeat' first|apply j2|exact q7|exact j8 rfl|exact dX rfl rfl|(apply j7;rfl;rfl)|(apply j9;rfl;rfl;rfl)|(apply jI;rfl)|(apply z29;rfl)|(apply s6;rfl;rfl)|(apply y9;rfl;(with_reducible rfl);rfl)|(apply y0;rfl;(with_reducible rfl);rfl)|(apply l6;rfl;rfl;rfl)|(apply zO;(iterate 6 rfl))|(apply C7;rfl;rfl)|(apply zC;rfl;rfl;rfl)|(apply P0;rfl;rfl;rfl)|(apply A9;rfl;rfl;rfl)|(apply m6;rfl;rfl)|(apply A7;rfl;rfl)|(apply kB;rfl;rfl;(omega))|(apply b7 (hc:=⟨hnx.run⟩);rfl;rfl;(exact rfl);rfl;(exact j8 rfl);rintro H1 ⟨r1,k1⟩)|(apply b7 (hc:=⟨(ze0 hx r1 k1.1 hne (by omega) (by omega) hl hch).run⟩);rfl;rfl;(exact rfl);rfl;(exact j8 rfl);rintro H1 ⟨r1,k1⟩)|(apply w8;focus (repeat (first | exact q8 | (apply v6;rfl) | (apply F7;rfl) | (apply D6;rfl;rfl) | (apply d6;rfl) | (apply y6;rfl))))|apply j1|apply j3|apply j4|apply x3|apply v8|apply l0|(apply T9;rfl)|(apply g9;rfl;(with_reducible rfl))|(apply v7;rfl)|(apply x8;rfl;(with_reducible rfl))|(apply b9;rfl;(with_reducible rfl))|(apply y7;rfl)|(with_reducible first|exact C2|apply C3|apply s4|apply s5)|(with_reducible (first|apply u7|apply g8|apply x6|apply x5);intro hc)
       any_goals (exfalso;omega)
       any_goals (exfalso;simp at hc;done)
       all_goals
        refine hgo b e' _ e (by omega) (by omega) (by simp) r1 k1.1 (hk.trans (Kp2.trans (And.right (by assumption:ScH id x _/\Kp2 li id H _)) k1.2)) _ ?_
       repeat' first|exact q8|refine d5 rfl ?_
theorem q41 {H H0:q9} {li id j:Nat} {x:Sc} {m:UInt8} {t0:UInt8} {tr:List UInt8} {N K:f4} {B:Hs} {R:RP} (hx:j5 x.src x.pos=x) (hL:H[li]?=some (ltO id j)) (hH:ScH id x H) (hk:Kp2 li id H0 H) (hne:li≠id) (hp:x.pos<=j) (hat:j<=x.src.length) (hl:x.src.length<2^30) (ht:(t0::tr).length<=200)
 (hgo:∀ b e H',A6 x.src x.pos m (t0::tr) j=A6 x.src x.pos m ((t0::tr)++[b]) e->j<e->e<=x.src.length->(t0::tr).length+1<=200->H'[li]?=some (ltO id e)->ScH id x H'->Kp2 li id H0 H'->∀ fr,KpL [0,2,4,5,6] fr [0,2,4,5,6] [(0,.ptr id 0),(2,.lbox (some 7) (.c T8)),(4,.c (bC m)),(5,.ptr li 0),(6,tW ((t0::tr)++[b]))]->N fr H')
 (hend:∀ H',A6 x.src x.pos m (t0::tr) j=.ok (t0::tr) (j+1)->j<x.src.length->H'[li]?=some (ltO id (j+1))->ScH id x H'->Kp2 li id H0 H'->K (FL [(0,.ptr id 0),(2,.lbox (some 7) (.c T8)),(4,.c (bC m)),(5,.ptr li 0),(6,tW (t0::tr))] []) H')
 (hbad:∀ code p H',A6 x.src x.pos m (t0::tr) j=.bad code p->Bad li id H0 x.src code p H'->∀ fr:WFr,fr.env 2=.lbox (some 7) (.c T8)->fr.env 3=.c (.bool false)->R.ret fr H') :
 WP Vv aE (FL [(0,.ptr id 0),(2,.lbox (some 7) (.c T8)),(4,.c (bC m)),(5,.ptr li 0),(6,tW (t0::tr))] []) H N ((0,K)::B) R:=by
 cases hs:a6 x.src x.pos j with
 | some cp=>
   obtain ⟨code,p⟩:=cp;have e:=mV (m:=m) (text:=(t0::tr)) hs;repeat' first|apply j2|exact q7|exact j8 rfl|(apply j7;rfl;rfl)|(apply s6;rfl;rfl)|(apply l6;rfl;rfl;rfl)|(apply A9;rfl;rfl;rfl)|(apply m6;rfl;rfl)|(apply u1;rfl;rfl;rfl;rfl;exact u4 (by first | exact rfl | assumption | exact j0 (by assumption)))|(apply A7;rfl;rfl)|(apply b7 (hc:=⟨(dO hx hL hH hne hp hat hl hs).run⟩);rfl;rfl;(exact rfl);rfl;(exact j8 rfl);rintro H1 ⟨r1,k1⟩)|(apply w8;focus (repeat (first | exact q8 | (apply y6;rfl))))|apply j1|apply j3|apply j4|apply x3|apply w9|(apply v7;rfl)|(with_reducible first|exact G1|apply F9|apply s4|apply s5)
   all_goals exact hbad code p _ e ⟨r1,hk.trans k1⟩ _ rfl rfl
 | none=>
   have e:=lR (m:=m) (text:=(t0::tr)) hs;have hlt:=wN hs;have hnx:=pO hx hL hH hne hp hat hl hs;generalize hcc:x.src.getD j 0=c at *;by_cases hm:c=m
   . rw [if_pos hm] at e;subst hm;repeat' first|apply j2|exact q7|exact j8 rfl|(apply j7;rfl;rfl)|(apply j9;rfl;rfl;rfl)|(apply Z3;rfl)|(apply s6;rfl;rfl)|(apply y9;rfl;(with_reducible rfl);rfl)|(apply y0;rfl;(with_reducible rfl);rfl)|(apply l6;rfl;rfl;rfl)|(apply P0;rfl;rfl;rfl)|(apply A9;rfl;rfl;rfl)|(apply m6;rfl;rfl)|(apply A7;rfl;rfl)|(apply b7 (hc:=⟨hnx.run⟩);rfl;rfl;(exact rfl);rfl;(exact j8 rfl);rintro H1 ⟨r1,k1⟩)|(apply w8;focus (repeat (first | exact q8 | (apply v6;rfl) | (apply D6;rfl;rfl) | (apply d6;rfl) | (apply y6;rfl))))|apply j1|apply j3|apply j4|apply x3|apply v8|apply l0|(apply T9;rfl)|(apply g9;rfl;(with_reducible rfl))|(apply v7;rfl)|(apply x8;rfl;(with_reducible rfl))|(apply b9;rfl;(with_reducible rfl))|(apply y7;rfl)|(with_reducible first|exact C2|apply C3|apply s4|apply s5)|(with_reducible (first|apply u7|apply g8);intro hc)
     any_goals (exfalso;omega)
     exact hend _ e hlt r1 k1.1 (hk.trans k1.2)
   . rw [if_neg hm] at e;have hmI:=R9 hm;have ht2:tr.length+1<=200:=ht;by_cases h39:m=39/\(t0::tr).length=1
     . rw [if_pos h39] at e;obtain ⟨rfl,htr⟩:=h39;repeat' first|apply j2|exact q7|exact j8 rfl|(apply j7;rfl;rfl)|(apply j9;rfl;rfl;rfl)|(apply Z3;rfl)|(apply s6;rfl;rfl)|(apply y9;rfl;(with_reducible rfl);rfl)|(apply y0;rfl;(with_reducible rfl);rfl)|(apply l6;rfl;rfl;rfl)|(apply P0;rfl;rfl;rfl)|(apply A9;rfl;rfl;rfl)|(apply m6;rfl;rfl)|(apply u1;rfl;rfl;rfl;rfl;exact u4 (by first | exact rfl | assumption | exact j0 (by assumption)))|(apply A7;rfl;rfl)|(apply b7 (hc:=⟨hnx.run⟩);rfl;rfl;(exact rfl);rfl;(exact j8 rfl);rintro H1 ⟨r1,k1⟩)|(apply b7 (hc:=⟨(mJ (li:=li) hx k1.1 7 (by decide)).run⟩);rfl;rfl;(exact rfl);rfl;(exact q7);rintro H1 ⟨r1,k1⟩)|(apply w8;focus (repeat (first | exact q8 | (apply v6;rfl) | (apply D6;rfl;rfl) | (apply d6;rfl) | (apply y6;rfl))))|apply j1|apply j3|apply j4|apply x3|apply v8|apply w9|apply l0|(apply T9;rfl)|(apply g9;rfl;(with_reducible rfl))|(apply v7;rfl)|(apply x8;rfl;(with_reducible rfl))|(apply b9;rfl;(with_reducible rfl))|(apply y7;rfl)|(with_reducible first|exact C2|apply C3|apply s4|apply s5)|(with_reducible (first|apply u7|apply g8);intro hc)
       any_goals (exfalso;omega)
       any_goals (exfalso;simp_all;done)
       all_goals exact hbad 7 x.pos _ e ⟨r1,hk.trans (Kp2.trans (And.right (by assumption:ScH id x _/\Kp2 li id H _)) k1)⟩ _ rfl rfl
     . rw [if_neg h39] at e;have h39':¬ (((m.toNat:Nat):Int)=(39:Int)/\(((t0::tr).length:Nat):Int)=(1:Int)):=fun h=>h39 ⟨UInt8.toNat_inj.1 (by have:=h.1;show m.toNat=39;omega),by have:=h.2;omega⟩;cases hch:E8 x.src x.pos c (j+1) with
       | bad code p=>
         rw [hch] at e;repeat' first|apply j2|exact q7|exact j8 rfl|(apply j7;rfl;rfl)|(apply j9;rfl;rfl;rfl)|(apply Z3;rfl)|(apply s6;rfl;rfl)|(apply y9;rfl;(with_reducible rfl);rfl)|(apply y0;rfl;(with_reducible rfl);rfl)|(apply l6;rfl;rfl;rfl)|(apply P0;rfl;rfl;rfl)|(apply A9;rfl;rfl;rfl)|(apply m6;rfl;rfl)|(apply u1;rfl;rfl;rfl;rfl;exact u4 (by first | exact rfl | assumption | exact j0 (by assumption)))|(apply A7;rfl;rfl)|(apply b7 (hc:=⟨hnx.run⟩);rfl;rfl;(exact rfl);rfl;(exact j8 rfl);rintro H1 ⟨r1,k1⟩)|(apply b7 (hc:=⟨(zj0 hx r1 k1.1 hne (by omega) (by omega) hl hch).run⟩);rfl;rfl;(exact rfl);rfl;(exact j8 rfl);rintro H1 ⟨r1,k1⟩)|(apply w8;focus (repeat (first | exact q8 | (apply v6;rfl) | (apply D6;rfl;rfl) | (apply d6;rfl) | (apply y6;rfl))))|apply j1|apply j3|apply j4|apply x3|apply v8|apply w9|apply l0|(apply T9;rfl)|(apply g9;rfl;(with_reducible rfl))|(apply v7;rfl)|(apply x8;rfl;(with_reducible rfl))|(apply b9;rfl;(with_reducible rfl))|(apply y7;rfl)|(with_reducible first|exact G1|exact C2|apply C3|apply F9|apply s4|apply s5)|(with_reducible (first|apply u7|apply g8);intro hc)
         any_goals (exfalso;omega)
         all_goals exact hbad code p _ e ⟨r1,hk.trans (Kp2.trans (And.right (by assumption:ScH id x _/\Kp2 li id H _)) k1)⟩ _ rfl rfl
       | ok b e'=>
         rw [hch] at e;dsimp only at e;have h1:=xR hch;have h2:=rO (by omega) hch;repeat' first|apply j2|exact q7|exact j8 rfl|exact dX rfl rfl|(apply j7;rfl;rfl)|(apply j9;rfl;rfl;rfl)|(apply Z3;rfl)|(apply z29;rfl)|(apply s6;rfl;rfl)|(apply y9;rfl;(with_reducible rfl);rfl)|(apply y0;rfl;(with_reducible rfl);rfl)|(apply l6;rfl;rfl;rfl)|(apply zO;(iterate 6 rfl))|(apply zC;rfl;rfl;rfl)|(apply P0;rfl;rfl;rfl)|(apply A9;rfl;rfl;rfl)|(apply m6;rfl;rfl)|(apply u1;rfl;rfl;rfl;rfl;exact u4 (by first | exact rfl | assumption | exact j0 (by assumption)))|(apply A7;rfl;rfl)|(apply uO;rfl;rfl;(simp only [List.length_map,List.length_cons,List.length_nil,List.length_append,List.length_replicate];omega))|(apply b7 (hc:=⟨hnx.run⟩);rfl;rfl;(exact rfl);rfl;(exact j8 rfl);rintro H1 ⟨r1,k1⟩)|(apply b7 (hc:=⟨(ze0 hx r1 k1.1 hne (by omega) (by omega) hl hch).run⟩);rfl;rfl;(exact rfl);rfl;(exact j8 rfl);rintro H1 ⟨r1,k1⟩)|(apply b7 (hc:=⟨(mJ (li:=li) hx k1.1 3 (by decide)).run⟩);rfl;rfl;(exact rfl);rfl;(exact q7);rintro H1 ⟨r1,k1⟩)|(apply w8;focus (repeat (first | exact q8 | (apply v6;rfl) | (apply D6;rfl;rfl) | (apply d6;rfl) | (apply y6;rfl))))|apply j1|apply j3|apply j4|apply x3|apply v8|apply w9|apply l0|(apply T9;rfl)|(apply g9;rfl;(with_reducible rfl))|(apply v7;rfl)|(apply x8;rfl;(with_reducible rfl))|(apply b9;rfl;(with_reducible rfl))|(apply y7;rfl)|(with_reducible first|exact C2|apply C3|apply s4|apply s5)|(with_reducible (first|apply u7|apply g8|apply x6|apply x5);intro hc)
         any_goals (exfalso;omega)
         all_goals by_cases h200:200<(t0::tr).length+1
         all_goals first | rw [if_pos h200] at e | rw [if_neg h200] at e
         any_goals (exfalso;simp at hc h200;omega)
         any_goals exact hbad 3 x.pos _ e ⟨r1,hk.trans (Kp2.trans (Kp2.trans (And.right (by assumption:ScH id x _/\Kp2 li id H _)) (And.right (by assumption:ScH id x _/\Kp2 li id _ _))) k1)⟩ _ rfl rfl
         all_goals
          refine hgo b e' _ e (by omega) (by omega) (by omega) r1 k1.1 (hk.trans (Kp2.trans (And.right (by assumption:ScH id x _/\Kp2 li id H _)) k1.2)) _ ?_;rw [zl5]
         repeat' first|exact q8|refine d5 rfl ?_
end Go.Proofs.TryzL
