/- Chapter 02: quoted literals, whole. -/
import Derived.Test.YtencoceemejcnaaGreatDoorLzVc7
set_option linter.unusedSimpArgs false
set_option linter.unusedVariables false
namespace Go.Proofs.TryzL
open Go.Proofs.Lz
set_option maxHeartbeats 4000000
inductive QR where
 | bad (code at':Nat)
 | ok (t:List UInt8) (e:Nat)
theorem wr7 (s:List UInt8) (i:Nat):∀ n v j b e,hexS s i n v j=.ok b e→j≤e:=by
 intro n
 induction n with
 | zero=>intro v j b e h;unfold hexS at h;injection h with _ h;omega
 | succ n ih=>
   intro v j b e h
   unfold hexS at h
   split at h
   · cases h
   · split at h
     · cases h
     · have:=ih _ _ _ _ h;omega
theorem qn1 {s:List UInt8} {i:Nat} {c:UInt8} {j:Nat} {b:UInt8} {e:Nat} (h:zo2 s i c j=.ok b e):j≤e:=by
 unfold zo2 at h
 split at h
 · injection h with _ h;omega
 · split at h
   · cases h
   · dsimp only at h
     repeat' split at h
     all_goals first | (injection h with _ h;omega) | cases h | (have:=wr7 _ _ _ _ _ _ _ h;omega)
theorem wi5 (s:List UInt8) (i:Nat):∀ n v j b e,j≤s.length→hexS s i n v j=.ok b e→e≤s.length:=by
 intro n
 induction n with
 | zero=>intro v j b e hj h;unfold hexS at h;injection h with _ h;omega
 | succ n ih=>
   intro v j b e hj h
   unfold hexS at h
   split at h
   · cases h
   · rename_i hs
     have:=zu4 hs
     split at h
     · cases h
     · exact ih _ _ _ _ (by omega) h
theorem w02 {s:List UInt8} {i:Nat} {c:UInt8} {j:Nat} {b:UInt8} {e:Nat} (hj:j≤s.length) (h:zo2 s i c j=.ok b e):e≤s.length:=by
 unfold zo2 at h
 split at h
 · injection h with _ h;omega
 · split at h
   · cases h
   · rename_i hs
     have:=zu4 hs
     dsimp only at h
     repeat' split at h
     all_goals first | (injection h with _ h;omega) | cases h | exact wi5 _ _ _ _ _ _ _ (by omega) h
def litS (s:List UInt8) (i:Nat) (m:UInt8) (text:List UInt8) (j:Nat):QR:=
 match h:zi7 s i j with
 | some (code,p)=>.bad code p
 | none=>if s.getD j 0=m then .ok text (j+1) else if m=39∧text.length=1 then .bad 7 i else match h2:zo2 s i (s.getD j 0) (j+1) with
   | .bad code p=>.bad code p
   | .ok b e=>if 200<text.length+1 then .bad 3 i else litS s i m (text++[b]) e
termination_by s.length - j
decreasing_by
 have:=zu4 h
 have:=qn1 h2
 omega
theorem qp8 {s:List UInt8} {i:Nat} {m:UInt8} {text:List UInt8} {j code p:Nat} (h:zi7 s i j=some (code,p)):litS s i m text j=.bad code p:=by
 rw [litS]
 split
 · rename_i h';rw [h] at h';injection h' with h';injection h' with a b;subst a;subst b;rfl
 · rename_i h';rw [h] at h';cases h'
theorem jp8 {s:List UInt8} {i:Nat} {m:UInt8} {text:List UInt8} {j:Nat} (h:zi7 s i j=none):litS s i m text j=(if s.getD j 0=m then .ok text (j+1) else if m=39∧text.length=1 then .bad 7 i else match zo2 s i (s.getD j 0) (j+1) with
 | .bad code p=>.bad code p
 | .ok b e=>if 200<text.length+1 then .bad 3 i else litS s i m (text++[b]) e):=by
 rw [litS]
 split
 · rename_i h';rw [h] at h';cases h'
 · split
   · rfl
   · split
     · rfl
     · split
       · rename_i h2;rw [h2]
       · rename_i h2;rw [h2]
def tW:List UInt8→WV
 | []=>.nils
 | c::r=>.own true 5 none ((c::r).map bC)
theorem wx3 (c b:UInt8) (r:List UInt8):tW (c::r++[b])=.own true 5 none ((c::r).map bC++[bC b]):=by
 simp [tW]
theorem jl6 {H:z18} {li id j e:Nat} {x:Sc} {c b:UInt8} (hx:scAt x.src x.pos=x) (hL:H[li]?=some (ltO id j)) (hH:ScH id x H) (hne:li≠id) (hp:x.pos≤j) (hat:j≤x.src.length) (hl:x.src.length<2^30) (h:zo2 x.src x.pos c j=.ok b e) :
 Shr Vv 59 [.ptr li 0,.c (bC c)] H (.tup [.c (bC b),.c (.bool true)]) (fun H'=>H'[li]?=some (ltO id e)∧(ScH id x H'∧Kp2 li id H H')):=by
 have:=we2 (c:=c) hx hL hH hne hp hat hl
 rw [h] at this
 exact this
theorem jb5 {H:z18} {li id j code p:Nat} {x:Sc} {c:UInt8} (hx:scAt x.src x.pos=x) (hL:H[li]?=some (ltO id j)) (hH:ScH id x H) (hne:li≠id) (hp:x.pos≤j) (hat:j≤x.src.length) (hl:x.src.length<2^30) (h:zo2 x.src x.pos c j=.bad code p) :
 Shr Vv 59 [.ptr li 0,.c (bC c)] H (.tup [.c (.int .u8 0),.c (.bool false)]) (fun H'=>(∃ y,ScH id y H'∧zf1 x.src code p [] y)∧Kp2 li id H H'):=by
 have:=we2 (c:=c) hx hL hH hne hp hat hl
 rw [h] at this
 exact this
theorem zz8 {a b:UInt8} (h:a≠b):¬ ((a.toNat:Int)=b.toNat):=fun e=>h (UInt8.toNat_inj.1 (by omega))
theorem ju0 {H H0:z18} {li id j:Nat} {x:Sc} {m:UInt8} {N K:Post} {B:Hs} {R:RP} (hx:scAt x.src x.pos=x) (hL:H[li]?=some (ltO id j)) (hH:ScH id x H) (hk:Kp2 li id H0 H) (hne:li≠id) (hp:x.pos≤j) (hat:j≤x.src.length) (hl:x.src.length<2^30) (ht:([]:List UInt8).length≤200)
 (hgo:∀ b e H',litS x.src x.pos m ([]:List UInt8) j=litS x.src x.pos m (([]:List UInt8)++[b]) e→j<e→e≤x.src.length→([]:List UInt8).length+1≤200→H'[li]?=some (ltO id e)→ScH id x H'→Kp2 li id H0 H'→∀ fr,KpL [0,2,4,5,6] fr [0,2,4,5,6] [(0,.ptr id 0),(2,.lbox (some 7) (.c q14)),(4,.c (bC m)),(5,.ptr li 0),(6,tW (([]:List UInt8)++[b]))]→N fr H')
 (hend:∀ H',litS x.src x.pos m ([]:List UInt8) j=.ok ([]:List UInt8) (j+1)→j<x.src.length→H'[li]?=some (ltO id (j+1))→ScH id x H'→Kp2 li id H0 H'→K (FL [(0,.ptr id 0),(2,.lbox (some 7) (.c q14)),(4,.c (bC m)),(5,.ptr li 0),(6,tW ([]:List UInt8))] []) H')
 (hbad:∀ code p H',litS x.src x.pos m ([]:List UInt8) j=.bad code p→Bad li id H0 x.src code p H'→∀ fr:WFr,fr.env 2=.lbox (some 7) (.c q14)→fr.env 3=.c (.bool false)→R.ret fr H') :
 WP Vv jy0 (FL [(0,.ptr id 0),(2,.lbox (some 7) (.c q14)),(4,.c (bC m)),(5,.ptr li 0),(6,tW ([]:List UInt8))] []) H N ((0,K)::B) R:=by
 cases hs:zi7 x.src x.pos j with
 | some cp=>
   obtain ⟨code,p⟩:=cp
   have e:=qp8 (m:=m) (text:=([]:List UInt8)) hs
   repeat' first
    | apply z01
    | exact z13
    | exact z19 rfl
    | (apply z15;rfl;rfl)
    | (apply z84;rfl;rfl)
    | (apply z78;(iterate 3 rfl))
    | (apply z63;(iterate 3 rfl))
    | (apply z24;rfl;rfl)
    | (apply z28;(iterate 4 rfl);exact z34 (by first | exact rfl | assumption | exact z06 (by assumption)))
    | (apply za4;rfl;rfl)
    | (apply z27 (hc:=⟨(q99 hx hL hH hne hp hat hl hs).run⟩);rfl;rfl;(exact rfl);rfl;(exact z19 rfl);rintro H1 ⟨r1,k1⟩)
    | (apply z04;focus (repeat (first | exact z23 | (apply z38;rfl))))
    | apply z02
    | apply z00
    | apply z03
    | apply z05
    | apply z09
    | (apply z12;rfl)
    | with_reducible exact ze7
    | with_reducible apply ze2
    | with_reducible apply z57
    | with_reducible apply z58
   all_goals exact hbad code p _ e ⟨r1,hk.trans k1⟩ _ rfl rfl
 | none=>
   have e:=jp8 (m:=m) (text:=([]:List UInt8)) hs
   have hlt:=zu4 hs
   have hnx:=qg9 hx hL hH hne hp hat hl hs
   generalize hcc:x.src.getD j 0=c at *
   by_cases hm:c=m
   · rw [if_pos hm] at e
     subst hm
     repeat' first
      | apply z01
      | exact z13
      | exact z19 rfl
      | (apply z15;rfl;rfl)
      | (apply z30;(iterate 3 rfl))
      | (apply zf6;rfl)
      | (apply z84;rfl;rfl)
      | (apply z17;rfl;(with_reducible rfl);rfl)
      | (apply z16;rfl;(with_reducible rfl);rfl)
      | (apply z78;(iterate 3 rfl))
      | (apply z66;rfl;rfl)
      | (apply z63;(iterate 3 rfl))
      | (apply z24;rfl;rfl)
      | (apply za4;rfl;rfl)
      | (apply z27 (hc:=⟨hnx.run⟩);rfl;rfl;(exact rfl);rfl;(exact z19 rfl);rintro H1 ⟨r1,k1⟩)
      | (apply z04;focus (repeat (first | exact z23 | (apply kq_c;rfl) | (apply zc5;rfl) | (apply z50;rfl) | (apply z38;rfl))))
      | apply z02
      | apply z00
      | apply z03
      | apply z05
      | apply z07
      | apply z56
      | (apply zb6;rfl)
      | (apply z32;rfl;(with_reducible rfl))
      | (apply z12;rfl)
      | (apply z47;rfl;(with_reducible rfl))
      | (apply z43;rfl;(with_reducible rfl))
      | (apply z39;rfl)
      | with_reducible exact zb5
      | with_reducible apply zb4
      | with_reducible apply z57
      | with_reducible apply z58
      | (with_reducible apply za1;intro hc)
      | (with_reducible apply z71;intro hc)
     any_goals (exfalso;omega)
     exact hend _ e hlt r1 k1.1 (hk.trans k1.2)
   · rw [if_neg hm] at e
     have hmI:=zz8 hm
     rw [if_neg (by simp)] at e
     cases hch:zo2 x.src x.pos c (j+1) with
     | bad code p=>
       rw [hch] at e
       repeat' first
        | apply z01
        | exact z13
        | exact z19 rfl
        | (apply z15;rfl;rfl)
        | (apply z30;(iterate 3 rfl))
        | (apply zf6;rfl)
        | (apply z84;rfl;rfl)
        | (apply z17;rfl;(with_reducible rfl);rfl)
        | (apply z16;rfl;(with_reducible rfl);rfl)
        | (apply z78;(iterate 3 rfl))
        | (apply z66;rfl;rfl)
        | (apply z63;(iterate 3 rfl))
        | (apply z24;rfl;rfl)
        | (apply z28;(iterate 4 rfl);exact z34 (by first | exact rfl | assumption | exact z06 (by assumption)))
        | (apply za4;rfl;rfl)
        | (apply z27 (hc:=⟨hnx.run⟩);rfl;rfl;(exact rfl);rfl;(exact z19 rfl);rintro H1 ⟨r1,k1⟩)
        | (apply z27 (hc:=⟨(jb5 hx r1 k1.1 hne (by omega) (by omega) hl hch).run⟩);rfl;rfl;(exact rfl);rfl;(exact z19 rfl);rintro H1 ⟨r1,k1⟩)
        | (apply z04;focus (repeat (first | exact z23 | (apply kq_c;rfl) | (apply zc5;rfl) | (apply z50;rfl) | (apply z38;rfl))))
        | apply z02
        | apply z00
        | apply z03
        | apply z05
        | apply z07
        | apply z09
        | apply z56
        | (apply zb6;rfl)
        | (apply z32;rfl;(with_reducible rfl))
        | (apply z12;rfl)
        | (apply z47;rfl;(with_reducible rfl))
        | (apply z43;rfl;(with_reducible rfl))
        | (apply z39;rfl)
        | with_reducible exact ze7
        | with_reducible exact zb5
        | with_reducible apply zb4
        | with_reducible apply ze2
        | with_reducible apply z57
        | with_reducible apply z58
        | (with_reducible apply za1;intro hc)
        | (with_reducible apply z71;intro hc)
       any_goals (exfalso;omega)
       all_goals exact hbad code p _ e ⟨r1,hk.trans (Kp2.trans (And.right (by assumption:ScH id x _∧Kp2 li id H _)) k1)⟩ _ rfl rfl
     | ok b e'=>
       rw [hch] at e
       dsimp only at e
       rw [if_neg (by simp)] at e
       have h1:=qn1 hch
       have h2:=w02 (by omega) hch
       repeat' first
        | apply z01
        | exact z13
        | exact z19 rfl
        | exact zd8 rfl rfl
        | (apply z15;rfl;rfl)
        | (apply z30;(iterate 3 rfl))
        | (apply zf6;rfl)
        | (apply qf8;rfl)
        | (apply z84;rfl;rfl)
        | (apply z17;rfl;(with_reducible rfl);rfl)
        | (apply z16;rfl;(with_reducible rfl);rfl)
        | (apply z78;(iterate 3 rfl))
        | (apply q04;(iterate 6 rfl))
        | (apply z66;rfl;rfl)
        | (apply zk9;(iterate 3 rfl))
        | (apply zb9;(iterate 3 rfl))
        | (apply z63;(iterate 3 rfl))
        | (apply z24;rfl;rfl)
        | (apply za4;rfl;rfl)
        | (apply zy0;rfl;rfl;(omega))
        | (apply z27 (hc:=⟨hnx.run⟩);rfl;rfl;(exact rfl);rfl;(exact z19 rfl);rintro H1 ⟨r1,k1⟩)
        | (apply z27 (hc:=⟨(jl6 hx r1 k1.1 hne (by omega) (by omega) hl hch).run⟩);rfl;rfl;(exact rfl);rfl;(exact z19 rfl);rintro H1 ⟨r1,k1⟩)
        | (apply z04;focus (repeat (first | exact z23 | (apply kq_c;rfl) | (apply zc5;rfl) | (apply ze1;rfl;rfl) | (apply z50;rfl) | (apply z38;rfl))))
        | apply z02
        | apply z00
        | apply z03
        | apply z05
        | apply z07
        | apply z56
        | (apply zb6;rfl)
        | (apply z32;rfl;(with_reducible rfl))
        | (apply z12;rfl)
        | (apply z47;rfl;(with_reducible rfl))
        | (apply z43;rfl;(with_reducible rfl))
        | (apply z39;rfl)
        | with_reducible exact zb5
        | with_reducible apply zb4
        | with_reducible apply z57
        | with_reducible apply z58
        | (with_reducible apply za1;intro hc)
        | (with_reducible apply z71;intro hc)
        | (with_reducible apply z69;intro hc)
        | (with_reducible apply z52;intro hc)
       any_goals (exfalso;omega)
       any_goals (exfalso;simp at hc;done)
       all_goals
        refine hgo b e' _ e (by omega) (by omega) (by simp) r1 k1.1 (hk.trans (Kp2.trans (And.right (by assumption:ScH id x _∧Kp2 li id H _)) k1.2)) _ ?_
       repeat' first
        | exact z23
        | refine z64 rfl ?_
theorem w12 {H H0:z18} {li id j:Nat} {x:Sc} {m:UInt8} {t0:UInt8} {tr:List UInt8} {N K:Post} {B:Hs} {R:RP} (hx:scAt x.src x.pos=x) (hL:H[li]?=some (ltO id j)) (hH:ScH id x H) (hk:Kp2 li id H0 H) (hne:li≠id) (hp:x.pos≤j) (hat:j≤x.src.length) (hl:x.src.length<2^30) (ht:(t0::tr).length≤200)
 (hgo:∀ b e H',litS x.src x.pos m (t0::tr) j=litS x.src x.pos m ((t0::tr)++[b]) e→j<e→e≤x.src.length→(t0::tr).length+1≤200→H'[li]?=some (ltO id e)→ScH id x H'→Kp2 li id H0 H'→∀ fr,KpL [0,2,4,5,6] fr [0,2,4,5,6] [(0,.ptr id 0),(2,.lbox (some 7) (.c q14)),(4,.c (bC m)),(5,.ptr li 0),(6,tW ((t0::tr)++[b]))]→N fr H')
 (hend:∀ H',litS x.src x.pos m (t0::tr) j=.ok (t0::tr) (j+1)→j<x.src.length→H'[li]?=some (ltO id (j+1))→ScH id x H'→Kp2 li id H0 H'→K (FL [(0,.ptr id 0),(2,.lbox (some 7) (.c q14)),(4,.c (bC m)),(5,.ptr li 0),(6,tW (t0::tr))] []) H')
 (hbad:∀ code p H',litS x.src x.pos m (t0::tr) j=.bad code p→Bad li id H0 x.src code p H'→∀ fr:WFr,fr.env 2=.lbox (some 7) (.c q14)→fr.env 3=.c (.bool false)→R.ret fr H') :
 WP Vv jy0 (FL [(0,.ptr id 0),(2,.lbox (some 7) (.c q14)),(4,.c (bC m)),(5,.ptr li 0),(6,tW (t0::tr))] []) H N ((0,K)::B) R:=by
 cases hs:zi7 x.src x.pos j with
 | some cp=>
   obtain ⟨code,p⟩:=cp
   have e:=qp8 (m:=m) (text:=(t0::tr)) hs
   repeat' first
    | apply z01
    | exact z13
    | exact z19 rfl
    | (apply z15;rfl;rfl)
    | (apply z84;rfl;rfl)
    | (apply z78;(iterate 3 rfl))
    | (apply z63;(iterate 3 rfl))
    | (apply z24;rfl;rfl)
    | (apply z28;(iterate 4 rfl);exact z34 (by first | exact rfl | assumption | exact z06 (by assumption)))
    | (apply za4;rfl;rfl)
    | (apply z27 (hc:=⟨(q99 hx hL hH hne hp hat hl hs).run⟩);rfl;rfl;(exact rfl);rfl;(exact z19 rfl);rintro H1 ⟨r1,k1⟩)
    | (apply z04;focus (repeat (first | exact z23 | (apply z38;rfl))))
    | apply z02
    | apply z00
    | apply z03
    | apply z05
    | apply z09
    | (apply z12;rfl)
    | with_reducible exact ze7
    | with_reducible apply ze2
    | with_reducible apply z57
    | with_reducible apply z58
   all_goals exact hbad code p _ e ⟨r1,hk.trans k1⟩ _ rfl rfl
 | none=>
   have e:=jp8 (m:=m) (text:=(t0::tr)) hs
   have hlt:=zu4 hs
   have hnx:=qg9 hx hL hH hne hp hat hl hs
   generalize hcc:x.src.getD j 0=c at *
   by_cases hm:c=m
   · rw [if_pos hm] at e
     subst hm
     repeat' first
      | apply z01
      | exact z13
      | exact z19 rfl
      | (apply z15;rfl;rfl)
      | (apply z30;(iterate 3 rfl))
      | (apply zd5;rfl)
      | (apply z84;rfl;rfl)
      | (apply z17;rfl;(with_reducible rfl);rfl)
      | (apply z16;rfl;(with_reducible rfl);rfl)
      | (apply z78;(iterate 3 rfl))
      | (apply zb9;(iterate 3 rfl))
      | (apply z63;(iterate 3 rfl))
      | (apply z24;rfl;rfl)
      | (apply za4;rfl;rfl)
      | (apply z27 (hc:=⟨hnx.run⟩);rfl;rfl;(exact rfl);rfl;(exact z19 rfl);rintro H1 ⟨r1,k1⟩)
      | (apply z04;focus (repeat (first | exact z23 | (apply kq_c;rfl) | (apply ze1;rfl;rfl) | (apply z50;rfl) | (apply z38;rfl))))
      | apply z02
      | apply z00
      | apply z03
      | apply z05
      | apply z07
      | apply z56
      | (apply zb6;rfl)
      | (apply z32;rfl;(with_reducible rfl))
      | (apply z12;rfl)
      | (apply z47;rfl;(with_reducible rfl))
      | (apply z43;rfl;(with_reducible rfl))
      | (apply z39;rfl)
      | with_reducible exact zb5
      | with_reducible apply zb4
      | with_reducible apply z57
      | with_reducible apply z58
      | (with_reducible apply za1;intro hc)
      | (with_reducible apply z71;intro hc)
     any_goals (exfalso;omega)
     exact hend _ e hlt r1 k1.1 (hk.trans k1.2)
   · rw [if_neg hm] at e
     have hmI:=zz8 hm
     have ht2:tr.length+1≤200:=ht
     by_cases h39:m=39∧(t0::tr).length=1
     · rw [if_pos h39] at e
       obtain ⟨rfl,htr⟩:=h39
       repeat' first
        | apply z01
        | exact z13
        | exact z19 rfl
        | (apply z15;rfl;rfl)
        | (apply z30;(iterate 3 rfl))
        | (apply zd5;rfl)
        | (apply z84;rfl;rfl)
        | (apply z17;rfl;(with_reducible rfl);rfl)
        | (apply z16;rfl;(with_reducible rfl);rfl)
        | (apply z78;(iterate 3 rfl))
        | (apply zb9;(iterate 3 rfl))
        | (apply z63;(iterate 3 rfl))
        | (apply z24;rfl;rfl)
        | (apply z28;(iterate 4 rfl);exact z34 (by first | exact rfl | assumption | exact z06 (by assumption)))
        | (apply za4;rfl;rfl)
        | (apply z27 (hc:=⟨hnx.run⟩);rfl;rfl;(exact rfl);rfl;(exact z19 rfl);rintro H1 ⟨r1,k1⟩)
        | (apply z27 (hc:=⟨(w71 (li:=li) hx k1.1 7 (by decide)).run⟩);rfl;rfl;(exact rfl);rfl;(exact z13);rintro H1 ⟨r1,k1⟩)
        | (apply z04;focus (repeat (first | exact z23 | (apply kq_c;rfl) | (apply ze1;rfl;rfl) | (apply z50;rfl) | (apply z38;rfl))))
        | apply z02
        | apply z00
        | apply z03
        | apply z05
        | apply z07
        | apply z09
        | apply z56
        | (apply zb6;rfl)
        | (apply z32;rfl;(with_reducible rfl))
        | (apply z12;rfl)
        | (apply z47;rfl;(with_reducible rfl))
        | (apply z43;rfl;(with_reducible rfl))
        | (apply z39;rfl)
        | with_reducible exact zb5
        | with_reducible apply zb4
        | with_reducible apply z57
        | with_reducible apply z58
        | (with_reducible apply za1;intro hc)
        | (with_reducible apply z71;intro hc)
       any_goals (exfalso;omega)
       any_goals (exfalso;simp_all;done)
       all_goals exact hbad 7 x.pos _ e ⟨r1,hk.trans (Kp2.trans (And.right (by assumption:ScH id x _∧Kp2 li id H _)) k1)⟩ _ rfl rfl
     · rw [if_neg h39] at e
       have h39':¬ (((m.toNat:Nat):Int)=(39:Int)∧(((t0::tr).length:Nat):Int)=(1:Int)):=fun h=>h39 ⟨UInt8.toNat_inj.1 (by have:=h.1;show m.toNat=39;omega),by have:=h.2;omega⟩
       cases hch:zo2 x.src x.pos c (j+1) with
       | bad code p=>
         rw [hch] at e
         repeat' first
          | apply z01
          | exact z13
          | exact z19 rfl
          | (apply z15;rfl;rfl)
          | (apply z30;(iterate 3 rfl))
          | (apply zd5;rfl)
          | (apply z84;rfl;rfl)
          | (apply z17;rfl;(with_reducible rfl);rfl)
          | (apply z16;rfl;(with_reducible rfl);rfl)
          | (apply z78;(iterate 3 rfl))
          | (apply zb9;(iterate 3 rfl))
          | (apply z63;(iterate 3 rfl))
          | (apply z24;rfl;rfl)
          | (apply z28;(iterate 4 rfl);exact z34 (by first | exact rfl | assumption | exact z06 (by assumption)))
          | (apply za4;rfl;rfl)
          | (apply z27 (hc:=⟨hnx.run⟩);rfl;rfl;(exact rfl);rfl;(exact z19 rfl);rintro H1 ⟨r1,k1⟩)
          | (apply z27 (hc:=⟨(jb5 hx r1 k1.1 hne (by omega) (by omega) hl hch).run⟩);rfl;rfl;(exact rfl);rfl;(exact z19 rfl);rintro H1 ⟨r1,k1⟩)
          | (apply z04;focus (repeat (first | exact z23 | (apply kq_c;rfl) | (apply ze1;rfl;rfl) | (apply z50;rfl) | (apply z38;rfl))))
          | apply z02
          | apply z00
          | apply z03
          | apply z05
          | apply z07
          | apply z09
          | apply z56
          | (apply zb6;rfl)
          | (apply z32;rfl;(with_reducible rfl))
          | (apply z12;rfl)
          | (apply z47;rfl;(with_reducible rfl))
          | (apply z43;rfl;(with_reducible rfl))
          | (apply z39;rfl)
          | with_reducible exact ze7
          | with_reducible exact zb5
          | with_reducible apply zb4
          | with_reducible apply ze2
          | with_reducible apply z57
          | with_reducible apply z58
          | (with_reducible apply za1;intro hc)
          | (with_reducible apply z71;intro hc)
         any_goals (exfalso;omega)
         all_goals exact hbad code p _ e ⟨r1,hk.trans (Kp2.trans (And.right (by assumption:ScH id x _∧Kp2 li id H _)) k1)⟩ _ rfl rfl
       | ok b e'=>
         rw [hch] at e
         dsimp only at e
         have h1:=qn1 hch
         have h2:=w02 (by omega) hch
         repeat' first
          | apply z01
          | exact z13
          | exact z19 rfl
          | exact zd8 rfl rfl
          | (apply z15;rfl;rfl)
          | (apply z30;(iterate 3 rfl))
          | (apply zd5;rfl)
          | (apply qf8;rfl)
          | (apply z84;rfl;rfl)
          | (apply z17;rfl;(with_reducible rfl);rfl)
          | (apply z16;rfl;(with_reducible rfl);rfl)
          | (apply z78;(iterate 3 rfl))
          | (apply q04;(iterate 6 rfl))
          | (apply zk9;(iterate 3 rfl))
          | (apply zb9;(iterate 3 rfl))
          | (apply z63;(iterate 3 rfl))
          | (apply z24;rfl;rfl)
          | (apply z28;(iterate 4 rfl);exact z34 (by first | exact rfl | assumption | exact z06 (by assumption)))
          | (apply za4;rfl;rfl)
          | (apply qj8;rfl;rfl;(simp only [List.length_map,List.length_cons,List.length_nil,List.length_append,List.length_replicate];omega))
          | (apply z27 (hc:=⟨hnx.run⟩);rfl;rfl;(exact rfl);rfl;(exact z19 rfl);rintro H1 ⟨r1,k1⟩)
          | (apply z27 (hc:=⟨(jl6 hx r1 k1.1 hne (by omega) (by omega) hl hch).run⟩);rfl;rfl;(exact rfl);rfl;(exact z19 rfl);rintro H1 ⟨r1,k1⟩)
          | (apply z27 (hc:=⟨(w71 (li:=li) hx k1.1 3 (by decide)).run⟩);rfl;rfl;(exact rfl);rfl;(exact z13);rintro H1 ⟨r1,k1⟩)
          | (apply z04;focus (repeat (first | exact z23 | (apply kq_c;rfl) | (apply ze1;rfl;rfl) | (apply z50;rfl) | (apply z38;rfl))))
          | apply z02
          | apply z00
          | apply z03
          | apply z05
          | apply z07
          | apply z09
          | apply z56
          | (apply zb6;rfl)
          | (apply z32;rfl;(with_reducible rfl))
          | (apply z12;rfl)
          | (apply z47;rfl;(with_reducible rfl))
          | (apply z43;rfl;(with_reducible rfl))
          | (apply z39;rfl)
          | with_reducible exact zb5
          | with_reducible apply zb4
          | with_reducible apply z57
          | with_reducible apply z58
          | (with_reducible apply za1;intro hc)
          | (with_reducible apply z71;intro hc)
          | (with_reducible apply z69;intro hc)
          | (with_reducible apply z52;intro hc)
         any_goals (exfalso;omega)
         all_goals by_cases h200:200<(t0::tr).length+1
         all_goals first | rw [if_pos h200] at e | rw [if_neg h200] at e
         any_goals (exfalso;simp at hc h200;omega)
         any_goals exact hbad 3 x.pos _ e ⟨r1,hk.trans (Kp2.trans (Kp2.trans (And.right (by assumption:ScH id x _∧Kp2 li id H _)) (And.right (by assumption:ScH id x _∧Kp2 li id _ _))) k1)⟩ _ rfl rfl
         all_goals
          refine hgo b e' _ e (by omega) (by omega) (by omega) r1 k1.1 (hk.trans (Kp2.trans (And.right (by assumption:ScH id x _∧Kp2 li id H _)) k1.2)) _ ?_
          rw [wx3]
         repeat' first
          | exact z23
          | refine z64 rfl ?_
end Go.Proofs.TryzL
namespace Go.Proofs.TryzL
open Go.Proofs.Lz
set_option maxHeartbeats 4000000
def quoU (i:Nat) (m:UInt8):QR→U
 | .bad code p=>.bad code p []
 | .ok t e=>if m=39 then (match t with
   | []=>.bad 7 i []
   | b::_=>.tok 6 [] [] b.toNat e) else .tok 7 [] t 0 e
def litU (s:List UInt8) (i:Nat) (m:UInt8):U:=quoU i m (litS s i m [] (i+1))
theorem qb2 {id:Nat} {H H':z18} {o:WO} (h:Kp2 H.length id (H++[o]) H'):KpH id H H':=by
 intro i o' hi ho
 have hlt:i<H.length:=(List.getElem?_eq_some_iff.1 ho).1
 exact h i o' hi (by omega) (by rw [List.getElem?_append_left hlt];exact ho)
theorem w37 {id:Nat} {H H':z18} {o:WO} {s:List UInt8} {code p:Nat} (h:Bad H.length id (H++[o]) s code p H'):j07 id H s (.bad code p []) H':=⟨h.1,qb2 h.2⟩
theorem w67:∀ t:List UInt8,zf4 (t.map bC)=some t:=by
 intro t
 induction t with
 | nil=>rfl
 | cons c t ih=>
   have:zf4 (bC c::t.map bC)=some (c::t):=by
    simp [zf4,bC,ih]
   exact this
theorem jc2 {H:z18} {id:Nat} {x:Sc} {m:UInt8} (hx:scAt x.src x.pos=x) (hH:ScH id x H) (hc:x.src[x.pos]?=some m) (hm:m=39∨m=34) (hl:x.src.length<2^30) :
 Shr Vv 29 [.ptr id 0] H (resU (litU x.src x.pos m)) (j07 id H x.src (litU x.src x.pos m)):=by
 refine zh9 v65 ?_
 have hlt:x.pos<x.src.length:=(List.getElem?_eq_some_iff.1 hc).1
 have hid:id<H.length:=(List.getElem?_eq_some_iff.1 hH).1
 have hne:H.length≠id:=by omega
 have hH0:H[id]?=some (.var (some 8) (scC x)):=hH
 have hg:x.src[x.pos]?=some m:=hc
 unfold litU
 repeat' first
  | apply z01
  | exact z13
  | exact z19 rfl
  | (apply z15;rfl;rfl)
  | (apply z99;rfl;rfl;omega)
  | (apply z68;(iterate 3 rfl);assumption)
  | (apply jp2;(iterate 3 rfl))
  | (apply z66;rfl;rfl)
  | (apply z24;rfl;rfl)
  | (apply z14;rfl;rfl)
  | (apply z29;rfl;rfl)
  | (apply z88;rfl;rfl;first | exact z65 (by first | exact rfl | assumption | exact z06 (by assumption)) | exact z73 (by first | exact rfl | assumption | exact z06 (by assumption)))
  | (apply z22;rfl;rfl;(assumption);rfl)
  | (apply qq6;(iterate 4 rfl))
  | apply z02
  | apply z00
  | apply z03
  | apply z05
  | apply z25
  | apply z54
  | (apply z62;(exact rfl))
  | (apply z48;rfl)
  | (apply z55;rfl)
  | (apply dand;rfl)
 refine zk7 (fun p:List UInt8×Nat=>[(0,.ptr id 0),(2,.lbox (some 7) (.c q14)),(4,.c (bC m)),(5,.ptr H.length 0),(6,tW p.1)]) (fun p H'=>p.1.length≤200∧x.pos<p.2∧p.2≤x.src.length∧H'[H.length]?=some (ltO id p.2)∧ScH id x H'∧Kp2 H.length id (H++[ltO id (x.pos+1)]) H'∧litS x.src x.pos m p.1 p.2=litS x.src x.pos m [] (x.pos+1)) (fun p=>x.src.length - p.2) ([],x.pos+1) ?_ ⟨by simp,by omega,by dsimp only;omega,?_,?_,Kp2.refl,rfl⟩ ?_
 · repeat' first
    | exact z23
    | refine z64 rfl ?_
 · dsimp only
   rw [List.getElem?_append_right (by omega)]
   simp
   rfl
 · show _=_
   rw [List.getElem?_append_left hid]
   exact hH
 rintro ⟨text,j⟩ H2 ⟨h200,g1,g2,g3,g4,g5,g6⟩
 dsimp only at h200 g1 g2 g3 g4 g5 g6
 dsimp only
 have hgo:∀ b e H',litS x.src x.pos m text j=litS x.src x.pos m (text++[b]) e→j<e→e≤x.src.length→text.length+1≤200→H'[H.length]?=some (ltO id e)→ScH id x H'→Kp2 H.length id (H++[ltO id (x.pos+1)]) H'→∀ fr,KpL [0,2,4,5,6] fr [0,2,4,5,6] [(0,.ptr id 0),(2,.lbox (some 7) (.c q14)),(4,.c (bC m)),(5,.ptr H.length 0),(6,tW (text++[b]))]→(∃ s':List UInt8×Nat,KpL [0,2,4,5,6] fr [0,2,4,5,6] [(0,.ptr id 0),(2,.lbox (some 7) (.c q14)),(4,.c (bC m)),(5,.ptr H.length 0),(6,tW s'.1)]∧(s'.1.length≤200∧x.pos<s'.2∧s'.2≤x.src.length∧H'[H.length]?=some (ltO id s'.2)∧ScH id x H'∧Kp2 H.length id (H++[ltO id (x.pos+1)]) H'∧litS x.src x.pos m s'.1 s'.2=litS x.src x.pos m [] (x.pos+1))∧x.src.length - s'.2<x.src.length - j):=by
  intro b e H' h1 h2 h3 h4 h5 h6 h7 fr hk
  exact ⟨(text++[b],e),hk,⟨by simpa using h4,by dsimp only;omega,h3,h5,h6,h7,by rw [← h1];exact g6⟩,by dsimp only;omega⟩
 have hbad:∀ code p H',litS x.src x.pos m text j=.bad code p→Bad H.length id (H++[ltO id (x.pos+1)]) x.src code p H'→∀ fr:WFr,fr.env 2=.lbox (some 7) (.c q14)→fr.env 3=.c (.bool false)→finS H.length [.cell 2 (some 7),.tmp 3] (resU (quoU x.pos m (litS x.src x.pos m [] (x.pos+1)))) (j07 id H x.src (quoU x.pos m (litS x.src x.pos m [] (x.pos+1)))) fr H':=by
  intro code p H' h1 h2 fr h3 h4
  rw [← g6,h1]
  exact zt5 h3 h4 rfl (w37 h2)
 cases text with
 | nil=>
   refine ju0 hx g3 g4 g5 hne (by omega) g2 hl h200 hgo ?_ hbad
   intro H' h1 h2 h3 h4 h5
   have e9:litS x.src x.pos m [] (x.pos+1)=.ok [] (j+1):=by rw [← g6,h1]
   rw [e9]
   unfold tW
   have hs4:H'[id]?=some (.var (some 8) (scC x)):=h4
   rcases hm with rfl | rfl
   · repeat' first
      | apply z01
      | exact z13
      | exact z19 rfl
      | (apply z15;rfl;rfl)
      | (apply zp2;rfl;rfl;omega)
      | (apply z30;(iterate 3 rfl))
      | (apply zf6;rfl)
      | (apply z17;rfl;(with_reducible rfl);rfl)
      | (apply z16;rfl;(with_reducible rfl);rfl)
      | (apply z78;(iterate 3 rfl))
      | (apply z66;rfl;rfl)
      | (apply z24;rfl;rfl)
      | (apply z14;rfl;rfl)
      | (apply z29;rfl;rfl)
      | (apply z28;(iterate 4 rfl);exact z34 (by first | exact rfl | assumption | exact z06 (by assumption)))
      | (apply z22;rfl;rfl;(assumption);rfl)
      | (apply z27 (hc:=⟨(qi6 hx h4 7 (by decide)).run⟩);rfl;rfl;(exact rfl);rfl;(exact z13);rintro H1 ⟨r1,k1⟩)
      | (apply z04;focus (repeat (first | exact z23 | (apply kq_c;rfl) | (apply zc5;rfl) | (apply z50;rfl) | (apply z38;rfl))))
      | apply z02
      | apply z00
      | apply z03
      | apply z07
      | apply z09
      | apply z25
      | (apply z32;rfl;(with_reducible rfl))
      | (apply z12;rfl)
      | (apply z47;rfl;(with_reducible rfl))
      | (apply z43;rfl;(with_reducible rfl))
      | (apply z39;rfl)
      | (apply z62;(exact rfl))
      | (with_reducible apply za1;intro hc)
      | (with_reducible apply z71;intro hc)
      | (apply z48;rfl)
      | (apply z55;rfl)
      | (apply zv1)
      | (apply dand;rfl)
     any_goals (exfalso;contradiction)
     all_goals exact zt5 rfl rfl rfl ⟨r1,qb2 (h5.trans k1.two)⟩
   · have hb0:zf4 ([]:List CV)=some []:=rfl
     repeat' first
      | apply z01
      | exact z13
      | exact z19 rfl
      | (apply z15;rfl;rfl)
      | (apply zp2;rfl;rfl;omega)
      | (apply q15;rfl;assumption)
      | (apply z30;(iterate 3 rfl))
      | (apply zf6;rfl)
      | (apply z17;rfl;(with_reducible rfl);rfl)
      | (apply z16;rfl;(with_reducible rfl);rfl)
      | (apply z78;(iterate 3 rfl))
      | (apply z66;rfl;rfl)
      | (apply z24;rfl;rfl)
      | (apply z14;rfl;rfl)
      | (apply z29;rfl;rfl)
      | (apply z28;(iterate 4 rfl);exact z34 (by first | exact rfl | assumption | exact z06 (by assumption)))
      | (apply z22;rfl;rfl;(assumption);rfl)
      | (apply z27 (hc:=⟨(ja4 (li:=H.length) (j:=j+1) hx h4 h3 hne (by omega) (by omega) hl).run⟩);rfl;rfl;(exact rfl);rfl;(exact z19 rfl);rintro H1 ⟨r1,k1⟩)
      | (apply z04;focus (repeat (first | exact z23 | (apply kq_c;rfl) | (apply zc5;rfl) | (apply z50;rfl) | (apply z38;rfl))))
      | apply z02
      | apply z00
      | apply z03
      | apply z07
      | apply z09
      | apply z25
      | apply z54
      | (apply z32;rfl;(with_reducible rfl))
      | (apply z12;rfl)
      | (apply z47;rfl;(with_reducible rfl))
      | (apply z43;rfl;(with_reducible rfl))
      | (apply z39;rfl)
      | (apply z62;(exact rfl))
      | (with_reducible apply za1;intro hc)
      | (with_reducible apply z71;intro hc)
      | (apply z48;rfl)
      | (apply z55;rfl)
      | (apply zv1)
      | (apply dand;rfl)
     any_goals (exfalso;contradiction)
     all_goals exact zt5 rfl rfl rfl ⟨⟨_,k1.1,rfl⟩,qb2 (h5.trans k1.2.two)⟩
 | cons t0 tr=>
   refine w12 hx g3 g4 g5 hne (by omega) g2 hl h200 hgo ?_ hbad
   intro H' h1 h2 h3 h4 h5
   have e9:litS x.src x.pos m [] (x.pos+1)=.ok (t0::tr) (j+1):=by rw [← g6,h1]
   rw [e9]
   unfold tW
   have hs4:H'[id]?=some (.var (some 8) (scC x)):=h4
   have hb:=w67 (t0::tr)
   have ht0:(t0::tr)[0]?=some t0:=rfl
   have ht1:=t0.toNat_lt
   have hlen:¬ (((t0::tr).length:Nat):Int)=0:=by simp;omega
   rcases hm with rfl | rfl
   · repeat' first
      | apply z01
      | exact z13
      | exact z19 rfl
      | (apply z15;rfl;rfl)
      | (apply zp2;rfl;rfl;omega)
      | (apply q15;rfl;assumption)
      | (apply z30;(iterate 3 rfl))
      | (apply zd5;rfl)
      | (apply z17;rfl;(with_reducible rfl);rfl)
      | (apply z16;rfl;(with_reducible rfl);rfl)
      | (apply z78;(iterate 3 rfl))
      | (apply zb9;(iterate 3 rfl))
      | (apply z24;rfl;rfl)
      | (apply z14;rfl;rfl)
      | (apply z29;rfl;rfl)
      | (apply z28;(iterate 4 rfl);exact z34 (by first | exact rfl | assumption | exact z06 (by assumption)))
      | (apply zt4;rfl;omega)
      | (apply z22;rfl;rfl;(assumption);rfl)
      | (apply qf2;(iterate 3 rfl);assumption)
      | (apply q90;(iterate 3 rfl))
      | (apply z27 (hc:=⟨(ja4 (li:=H.length) (j:=j+1) hx h4 h3 hne (by omega) (by omega) hl).run⟩);rfl;rfl;(exact rfl);rfl;(exact z19 rfl);rintro H1 ⟨r1,k1⟩)
      | (apply z04;focus (repeat (first | exact z23 | (apply kq_c;rfl) | (apply ze1;rfl;rfl) | (apply z50;rfl) | (apply z38;rfl))))
      | apply z02
      | apply z00
      | apply z03
      | apply z07
      | apply z09
      | apply z25
      | apply z54
      | (apply z32;rfl;(with_reducible rfl))
      | (apply z12;rfl)
      | (apply z47;rfl;(with_reducible rfl))
      | (apply z43;rfl;(with_reducible rfl))
      | (apply z39;rfl)
      | (apply z62;(exact rfl))
      | (with_reducible apply za1;intro hc)
      | (with_reducible apply z71;intro hc)
      | (apply z48;rfl)
      | (apply z55;rfl)
      | (apply zv1)
      | (apply dand;rfl)
     any_goals (exfalso;contradiction)
     all_goals exact zt5 rfl rfl rfl ⟨⟨_,k1.1,rfl⟩,qb2 (h5.trans k1.2.two)⟩
   · repeat' first
      | apply z01
      | exact z13
      | exact z19 rfl
      | (apply z15;rfl;rfl)
      | (apply zp2;rfl;rfl;omega)
      | (apply q15;rfl;assumption)
      | (apply z30;(iterate 3 rfl))
      | (apply zd5;rfl)
      | (apply z17;rfl;(with_reducible rfl);rfl)
      | (apply z16;rfl;(with_reducible rfl);rfl)
      | (apply z78;(iterate 3 rfl))
      | (apply zb9;(iterate 3 rfl))
      | (apply z24;rfl;rfl)
      | (apply z14;rfl;rfl)
      | (apply z29;rfl;rfl)
      | (apply z28;(iterate 4 rfl);exact z34 (by first | exact rfl | assumption | exact z06 (by assumption)))
      | (apply zt4;rfl;omega)
      | (apply z22;rfl;rfl;(assumption);rfl)
      | (apply qf2;(iterate 3 rfl);assumption)
      | (apply q90;(iterate 3 rfl))
      | (apply z27 (hc:=⟨(ja4 (li:=H.length) (j:=j+1) hx h4 h3 hne (by omega) (by omega) hl).run⟩);rfl;rfl;(exact rfl);rfl;(exact z19 rfl);rintro H1 ⟨r1,k1⟩)
      | (apply z04;focus (repeat (first | exact z23 | (apply kq_c;rfl) | (apply ze1;rfl;rfl) | (apply z50;rfl) | (apply z38;rfl))))
      | apply z02
      | apply z00
      | apply z03
      | apply z07
      | apply z09
      | apply z25
      | apply z54
      | (apply z32;rfl;(with_reducible rfl))
      | (apply z12;rfl)
      | (apply z47;rfl;(with_reducible rfl))
      | (apply z43;rfl;(with_reducible rfl))
      | (apply z39;rfl)
      | (apply z62;(exact rfl))
      | (with_reducible apply za1;intro hc)
      | (with_reducible apply z71;intro hc)
      | (apply z48;rfl)
      | (apply z55;rfl)
      | (apply zv1)
      | (apply dand;rfl)
     any_goals (exfalso;contradiction)
     all_goals exact zt5 rfl rfl rfl ⟨⟨_,k1.1,rfl⟩,qb2 (h5.trans k1.2.two)⟩
end Go.Proofs.TryzL
