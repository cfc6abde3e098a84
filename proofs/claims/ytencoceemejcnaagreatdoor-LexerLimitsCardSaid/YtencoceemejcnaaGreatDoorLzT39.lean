/- Chapter 02: quoted literals. -/
import Derived.Test.YtencoceemejcnaaGreatDoorLzVc7
set_option linter.unusedSimpArgs false
set_option linter.unusedVariables false
namespace Go.Proofs.TryzL
open Go.Proofs.Lz
set_option maxHeartbeats 4000000
inductive QR where
 | bad (code at':Nat)
 | ok (t:List UInt8) (e:Nat)
theorem wd8 (s:List UInt8) (i:Nat):∀ n v j b e,hexS s i n v j=.ok b e→j≤e:=by
 intro n
 induction n with
 | zero=>intro v j b e h;unfold hexS at h;injection h with _ h;omega
 | succ n ih=>
   intro v j b e h
   unfold hexS at h
   split at h
   · cases h
   · split at h
     · cases h
     · have:=ih _ _ _ _ h;omega
theorem qj7 {s:List UInt8} {i:Nat} {c:UInt8} {j:Nat} {b:UInt8} {e:Nat} (h:zs0 s i c j=.ok b e):j≤e:=by
 unfold zs0 at h
 split at h
 · injection h with _ h;omega
 · split at h
   · cases h
   · dsimp only at h
     repeat' split at h
     all_goals first | (injection h with _ h;omega) | cases h | (have:=wd8 _ _ _ _ _ _ _ h;omega)
theorem wb5 (s:List UInt8) (i:Nat):∀ n v j b e,j≤s.length→hexS s i n v j=.ok b e→e≤s.length:=by
 intro n
 induction n with
 | zero=>intro v j b e hj h;unfold hexS at h;injection h with _ h;omega
 | succ n ih=>
   intro v j b e hj h
   unfold hexS at h
   split at h
   · cases h
   · rename_i hs
     have:=zv3 hs
     split at h
     · cases h
     · exact ih _ _ _ _ (by omega) h
theorem jn5 {s:List UInt8} {i:Nat} {c:UInt8} {j:Nat} {b:UInt8} {e:Nat} (hj:j≤s.length) (h:zs0 s i c j=.ok b e):e≤s.length:=by
 unfold zs0 at h
 split at h
 · injection h with _ h;omega
 · split at h
   · cases h
   · rename_i hs
     have:=zv3 hs
     dsimp only at h
     repeat' split at h
     all_goals first | (injection h with _ h;omega) | cases h | exact wb5 _ _ _ _ _ _ _ (by omega) h
def litS (s:List UInt8) (i:Nat) (m:UInt8) (text:List UInt8) (j:Nat):QR:=
 match h:zi8 s i j with
 | some (code,p)=>.bad code p
 | none=>if s.getD j 0=m then .ok text (j+1) else if m=39∧text.length=1 then .bad 7 i else match h2:zs0 s i (s.getD j 0) (j+1) with
   | .bad code p=>.bad code p
   | .ok b e=>if 200<text.length+1 then .bad 3 i else litS s i m (text++[b]) e
termination_by s.length - j
decreasing_by
 have:=zv3 h
 have:=qj7 h2
 omega
theorem qn5 {s:List UInt8} {i:Nat} {m:UInt8} {text:List UInt8} {j code p:Nat} (h:zi8 s i j=some (code,p)):litS s i m text j=.bad code p:=by
 rw [litS]
 split
 · rename_i h';rw [h] at h';injection h' with h';injection h' with a b;subst a;subst b;rfl
 · rename_i h';rw [h] at h';cases h'
theorem jp6 {s:List UInt8} {i:Nat} {m:UInt8} {text:List UInt8} {j:Nat} (h:zi8 s i j=none):litS s i m text j=(if s.getD j 0=m then .ok text (j+1) else if m=39∧text.length=1 then .bad 7 i else match zs0 s i (s.getD j 0) (j+1) with
 | .bad code p=>.bad code p
 | .ok b e=>if 200<text.length+1 then .bad 3 i else litS s i m (text++[b]) e):=by
 rw [litS]
 split
 · rename_i h';rw [h] at h';cases h'
 · split
   · rfl
   · split
     · rfl
     · split
       · rename_i h2;rw [h2]
       · rename_i h2;rw [h2]
def tW:List UInt8→WV
 | []=>.nils
 | c::r=>.own true 5 none ((c::r).map bC)
theorem wk9 (c b:UInt8) (r:List UInt8):tW (c::r++[b])=.own true 5 none ((c::r).map bC++[bC b]):=by
 simp [tW]
theorem jf8 {H:z07} {li id j e:Nat} {x:Sc} {c b:UInt8} (hx:scAt x.src x.pos=x) (hL:H[li]?=some (ltO id j)) (hH:ScH id x H) (hne:li≠id) (hp:x.pos≤j) (hat:j≤x.src.length) (hl:x.src.length<2^30) (h:zs0 x.src x.pos c j=.ok b e) :
 Shr Vv 59 [.ptr li 0,.c (bC c)] H (.tup [.c (bC b),.c (.bool true)]) (fun H'=>H'[li]?=some (ltO id e)∧(ScH id x H'∧Kp2 li id H H')):=by
 have:=w50 (c:=c) hx hL hH hne hp hat hl
 rw [h] at this
 exact this
theorem j73 {H:z07} {li id j code p:Nat} {x:Sc} {c:UInt8} (hx:scAt x.src x.pos=x) (hL:H[li]?=some (ltO id j)) (hH:ScH id x H) (hne:li≠id) (hp:x.pos≤j) (hat:j≤x.src.length) (hl:x.src.length<2^30) (h:zs0 x.src x.pos c j=.bad code p) :
 Shr Vv 59 [.ptr li 0,.c (bC c)] H (.tup [.c (.int .u8 0),.c (.bool false)]) (fun H'=>(∃ y,ScH id y H'∧zc8 x.src code p [] y)∧Kp2 li id H H'):=by
 have:=w50 (c:=c) hx hL hH hne hp hat hl
 rw [h] at this
 exact this
theorem zx4 {a b:UInt8} (h:a≠b):¬ ((a.toNat:Int)=b.toNat):=fun e=>h (UInt8.toNat_inj.1 (by omega))
theorem jg3 {H H0:z07} {li id j:Nat} {x:Sc} {m:UInt8} {N K:Post} {B:Hs} {R:RP} (hx:scAt x.src x.pos=x) (hL:H[li]?=some (ltO id j)) (hH:ScH id x H) (hk:Kp2 li id H0 H) (hne:li≠id) (hp:x.pos≤j) (hat:j≤x.src.length) (hl:x.src.length<2^30) (ht:([]:List UInt8).length≤200)
 (hgo:∀ b e H',litS x.src x.pos m ([]:List UInt8) j=litS x.src x.pos m (([]:List UInt8)++[b]) e→j<e→e≤x.src.length→([]:List UInt8).length+1≤200→H'[li]?=some (ltO id e)→ScH id x H'→Kp2 li id H0 H'→∀ fr,KpL [0,2,4,5,6] fr [0,2,4,5,6] [(0,.ptr id 0),(2,.lbox (some 7) (.c zz0)),(4,.c (bC m)),(5,.ptr li 0),(6,tW (([]:List UInt8)++[b]))]→N fr H')
 (hend:∀ H',litS x.src x.pos m ([]:List UInt8) j=.ok ([]:List UInt8) (j+1)→j<x.src.length→H'[li]?=some (ltO id (j+1))→ScH id x H'→Kp2 li id H0 H'→K (FL [(0,.ptr id 0),(2,.lbox (some 7) (.c zz0)),(4,.c (bC m)),(5,.ptr li 0),(6,tW ([]:List UInt8))] []) H')
 (hbad:∀ code p H',litS x.src x.pos m ([]:List UInt8) j=.bad code p→Bad li id H0 x.src code p H'→∀ fr:WFr,fr.env 2=.lbox (some 7) (.c zz0)→fr.env 3=.c (.bool false)→R.ret fr H') :
 WP Vv jm0 (FL [(0,.ptr id 0),(2,.lbox (some 7) (.c zz0)),(4,.c (bC m)),(5,.ptr li 0),(6,tW ([]:List UInt8))] []) H N ((0,K)::B) R:=by
 cases hs:zi8 x.src x.pos j with
 | some cp=>
   obtain ⟨code,p⟩:=cp
   have e:=qn5 (m:=m) (text:=([]:List UInt8)) hs
   repeat' first
    | apply z01
    | exact z13
    | exact z18 rfl
    | (apply z17;rfl;rfl)
    | (apply z93;rfl;rfl)
    | (apply z61;(iterate 3 rfl))
    | (apply z50;(iterate 3 rfl))
    | (apply z22;rfl;rfl)
    | (apply z27;(iterate 4 rfl);exact z30 (by first | exact rfl | assumption | exact z23 (by assumption)))
    | (apply z87;rfl;rfl)
    | (apply z25 (hc:=⟨(q73 hx hL hH hne hp hat hl hs).run⟩);rfl;rfl;(exact rfl);rfl;(exact z18 rfl);rintro H1 ⟨r1,k1⟩)
    | (apply z03;focus (repeat (first | exact z29 | (apply z39;rfl))))
    | apply z02
    | apply z00
    | apply z04
    | apply z08
    | apply z19
    | (apply z15;rfl)
    | with_reducible exact zf3
    | with_reducible apply zf1
    | with_reducible apply z65
    | with_reducible apply z64
   all_goals exact hbad code p _ e ⟨r1,hk.trans k1⟩ _ rfl rfl
 | none=>
   have e:=jp6 (m:=m) (text:=([]:List UInt8)) hs
   have hlt:=zv3 hs
   have hnx:=q86 hx hL hH hne hp hat hl hs
   generalize hcc:x.src.getD j 0=c at *
   by_cases hm:c=m
   · rw [if_pos hm] at e
     subst hm
     repeat' first
      | apply z01
      | exact z13
      | exact z18 rfl
      | (apply z17;rfl;rfl)
      | (apply z34;(iterate 3 rfl))
      | (apply zg6;rfl)
      | (apply z93;rfl;rfl)
      | (apply z16;rfl;(with_reducible rfl);rfl)
      | (apply z14;rfl;(with_reducible rfl);rfl)
      | (apply z61;(iterate 3 rfl))
      | (apply z56;rfl;rfl)
      | (apply z50;(iterate 3 rfl))
      | (apply z22;rfl;rfl)
      | (apply z87;rfl;rfl)
      | (apply z25 (hc:=⟨hnx.run⟩);rfl;rfl;(exact rfl);rfl;(exact z18 rfl);rintro H1 ⟨r1,k1⟩)
      | (apply z03;focus (repeat (first | exact z29 | (apply kq_c;rfl) | (apply za3;rfl) | (apply z49;rfl) | (apply z39;rfl))))
      | apply z02
      | apply z00
      | apply z04
      | apply z08
      | apply z12
      | apply z58
      | (apply zb7;rfl)
      | (apply z38;rfl;(with_reducible rfl))
      | (apply z15;rfl)
      | (apply z52;rfl;(with_reducible rfl))
      | (apply z43;rfl;(with_reducible rfl))
      | (apply z40;rfl)
      | with_reducible exact zb1
      | with_reducible apply zb2
      | with_reducible apply z65
      | with_reducible apply z64
      | (with_reducible apply za1;intro hc)
      | (with_reducible apply z69;intro hc)
     any_goals (exfalso;omega)
     exact hend _ e hlt r1 k1.1 (hk.trans k1.2)
   · rw [if_neg hm] at e
     have hmI:=zx4 hm
     rw [if_neg (by simp)] at e
     cases hch:zs0 x.src x.pos c (j+1) with
     | bad code p=>
       rw [hch] at e
       repeat' first
        | apply z01
        | exact z13
        | exact z18 rfl
        | (apply z17;rfl;rfl)
        | (apply z34;(iterate 3 rfl))
        | (apply zg6;rfl)
        | (apply z93;rfl;rfl)
        | (apply z16;rfl;(with_reducible rfl);rfl)
        | (apply z14;rfl;(with_reducible rfl);rfl)
        | (apply z61;(iterate 3 rfl))
        | (apply z56;rfl;rfl)
        | (apply z50;(iterate 3 rfl))
        | (apply z22;rfl;rfl)
        | (apply z27;(iterate 4 rfl);exact z30 (by first | exact rfl | assumption | exact z23 (by assumption)))
        | (apply z87;rfl;rfl)
        | (apply z25 (hc:=⟨hnx.run⟩);rfl;rfl;(exact rfl);rfl;(exact z18 rfl);rintro H1 ⟨r1,k1⟩)
        | (apply z25 (hc:=⟨(j73 hx r1 k1.1 hne (by omega) (by omega) hl hch).run⟩);rfl;rfl;(exact rfl);rfl;(exact z18 rfl);rintro H1 ⟨r1,k1⟩)
        | (apply z03;focus (repeat (first | exact z29 | (apply kq_c;rfl) | (apply za3;rfl) | (apply z49;rfl) | (apply z39;rfl))))
        | apply z02
        | apply z00
        | apply z04
        | apply z08
        | apply z12
        | apply z19
        | apply z58
        | (apply zb7;rfl)
        | (apply z38;rfl;(with_reducible rfl))
        | (apply z15;rfl)
        | (apply z52;rfl;(with_reducible rfl))
        | (apply z43;rfl;(with_reducible rfl))
        | (apply z40;rfl)
        | with_reducible exact zf3
        | with_reducible exact zb1
        | with_reducible apply zb2
        | with_reducible apply zf1
        | with_reducible apply z65
        | with_reducible apply z64
        | (with_reducible apply za1;intro hc)
        | (with_reducible apply z69;intro hc)
       any_goals (exfalso;omega)
       all_goals exact hbad code p _ e ⟨r1,hk.trans (Kp2.trans (And.right (by assumption:ScH id x _∧Kp2 li id H _)) k1)⟩ _ rfl rfl
     | ok b e'=>
       rw [hch] at e
       dsimp only at e
       rw [if_neg (by simp)] at e
       have h1:=qj7 hch
       have h2:=jn5 (by omega) hch
       repeat' first
        | apply z01
        | exact z13
        | exact z18 rfl
        | exact zj3 rfl rfl
        | (apply z17;rfl;rfl)
        | (apply z34;(iterate 3 rfl))
        | (apply zg6;rfl)
        | (apply qc0;rfl)
        | (apply z93;rfl;rfl)
        | (apply z16;rfl;(with_reducible rfl);rfl)
        | (apply z14;rfl;(with_reducible rfl);rfl)
        | (apply z61;(iterate 3 rfl))
        | (apply j87;(iterate 6 rfl))
        | (apply z56;rfl;rfl)
        | (apply zc5;(iterate 3 rfl))
        | (apply z99;(iterate 3 rfl))
        | (apply z50;(iterate 3 rfl))
        | (apply z22;rfl;rfl)
        | (apply z87;rfl;rfl)
        | (apply q46;rfl;rfl;(omega))
        | (apply z25 (hc:=⟨hnx.run⟩);rfl;rfl;(exact rfl);rfl;(exact z18 rfl);rintro H1 ⟨r1,k1⟩)
        | (apply z25 (hc:=⟨(jf8 hx r1 k1.1 hne (by omega) (by omega) hl hch).run⟩);rfl;rfl;(exact rfl);rfl;(exact z18 rfl);rintro H1 ⟨r1,k1⟩)
        | (apply z03;focus (repeat (first | exact z29 | (apply kq_c;rfl) | (apply za3;rfl) | (apply zb8;rfl;rfl) | (apply z49;rfl) | (apply z39;rfl))))
        | apply z02
        | apply z00
        | apply z04
        | apply z08
        | apply z12
        | apply z58
        | (apply zb7;rfl)
        | (apply z38;rfl;(with_reducible rfl))
        | (apply z15;rfl)
        | (apply z52;rfl;(with_reducible rfl))
        | (apply z43;rfl;(with_reducible rfl))
        | (apply z40;rfl)
        | with_reducible exact zb1
        | with_reducible apply zb2
        | with_reducible apply z65
        | with_reducible apply z64
        | (with_reducible apply za1;intro hc)
        | (with_reducible apply z69;intro hc)
        | (with_reducible apply z81;intro hc)
        | (with_reducible apply z60;intro hc)
       any_goals (exfalso;omega)
       any_goals (exfalso;simp at hc;done)
       all_goals
        refine hgo b e' _ e (by omega) (by omega) (by simp) r1 k1.1 (hk.trans (Kp2.trans (And.right (by assumption:ScH id x _∧Kp2 li id H _)) k1.2)) _ ?_
       repeat' first
        | exact z29
        | refine z66 rfl ?_
theorem jf7 {H H0:z07} {li id j:Nat} {x:Sc} {m:UInt8} {t0:UInt8} {tr:List UInt8} {N K:Post} {B:Hs} {R:RP} (hx:scAt x.src x.pos=x) (hL:H[li]?=some (ltO id j)) (hH:ScH id x H) (hk:Kp2 li id H0 H) (hne:li≠id) (hp:x.pos≤j) (hat:j≤x.src.length) (hl:x.src.length<2^30) (ht:(t0::tr).length≤200)
 (hgo:∀ b e H',litS x.src x.pos m (t0::tr) j=litS x.src x.pos m ((t0::tr)++[b]) e→j<e→e≤x.src.length→(t0::tr).length+1≤200→H'[li]?=some (ltO id e)→ScH id x H'→Kp2 li id H0 H'→∀ fr,KpL [0,2,4,5,6] fr [0,2,4,5,6] [(0,.ptr id 0),(2,.lbox (some 7) (.c zz0)),(4,.c (bC m)),(5,.ptr li 0),(6,tW ((t0::tr)++[b]))]→N fr H')
 (hend:∀ H',litS x.src x.pos m (t0::tr) j=.ok (t0::tr) (j+1)→j<x.src.length→H'[li]?=some (ltO id (j+1))→ScH id x H'→Kp2 li id H0 H'→K (FL [(0,.ptr id 0),(2,.lbox (some 7) (.c zz0)),(4,.c (bC m)),(5,.ptr li 0),(6,tW (t0::tr))] []) H')
 (hbad:∀ code p H',litS x.src x.pos m (t0::tr) j=.bad code p→Bad li id H0 x.src code p H'→∀ fr:WFr,fr.env 2=.lbox (some 7) (.c zz0)→fr.env 3=.c (.bool false)→R.ret fr H') :
 WP Vv jm0 (FL [(0,.ptr id 0),(2,.lbox (some 7) (.c zz0)),(4,.c (bC m)),(5,.ptr li 0),(6,tW (t0::tr))] []) H N ((0,K)::B) R:=by
 cases hs:zi8 x.src x.pos j with
 | some cp=>
   obtain ⟨code,p⟩:=cp
   have e:=qn5 (m:=m) (text:=(t0::tr)) hs
   repeat' first
    | apply z01
    | exact z13
    | exact z18 rfl
    | (apply z17;rfl;rfl)
    | (apply z93;rfl;rfl)
    | (apply z61;(iterate 3 rfl))
    | (apply z50;(iterate 3 rfl))
    | (apply z22;rfl;rfl)
    | (apply z27;(iterate 4 rfl);exact z30 (by first | exact rfl | assumption | exact z23 (by assumption)))
    | (apply z87;rfl;rfl)
    | (apply z25 (hc:=⟨(q73 hx hL hH hne hp hat hl hs).run⟩);rfl;rfl;(exact rfl);rfl;(exact z18 rfl);rintro H1 ⟨r1,k1⟩)
    | (apply z03;focus (repeat (first | exact z29 | (apply z39;rfl))))
    | apply z02
    | apply z00
    | apply z04
    | apply z08
    | apply z19
    | (apply z15;rfl)
    | with_reducible exact zf3
    | with_reducible apply zf1
    | with_reducible apply z65
    | with_reducible apply z64
   all_goals exact hbad code p _ e ⟨r1,hk.trans k1⟩ _ rfl rfl
 | none=>
   have e:=jp6 (m:=m) (text:=(t0::tr)) hs
   have hlt:=zv3 hs
   have hnx:=q86 hx hL hH hne hp hat hl hs
   generalize hcc:x.src.getD j 0=c at *
   by_cases hm:c=m
   · rw [if_pos hm] at e
     subst hm
     repeat' first
      | apply z01
      | exact z13
      | exact z18 rfl
      | (apply z17;rfl;rfl)
      | (apply z34;(iterate 3 rfl))
      | (apply z98;rfl)
      | (apply z93;rfl;rfl)
      | (apply z16;rfl;(with_reducible rfl);rfl)
      | (apply z14;rfl;(with_reducible rfl);rfl)
      | (apply z61;(iterate 3 rfl))
      | (apply z99;(iterate 3 rfl))
      | (apply z50;(iterate 3 rfl))
      | (apply z22;rfl;rfl)
      | (apply z87;rfl;rfl)
      | (apply z25 (hc:=⟨hnx.run⟩);rfl;rfl;(exact rfl);rfl;(exact z18 rfl);rintro H1 ⟨r1,k1⟩)
      | (apply z03;focus (repeat (first | exact z29 | (apply kq_c;rfl) | (apply zb8;rfl;rfl) | (apply z49;rfl) | (apply z39;rfl))))
      | apply z02
      | apply z00
      | apply z04
      | apply z08
      | apply z12
      | apply z58
      | (apply zb7;rfl)
      | (apply z38;rfl;(with_reducible rfl))
      | (apply z15;rfl)
      | (apply z52;rfl;(with_reducible rfl))
      | (apply z43;rfl;(with_reducible rfl))
      | (apply z40;rfl)
      | with_reducible exact zb1
      | with_reducible apply zb2
      | with_reducible apply z65
      | with_reducible apply z64
      | (with_reducible apply za1;intro hc)
      | (with_reducible apply z69;intro hc)
     any_goals (exfalso;omega)
     exact hend _ e hlt r1 k1.1 (hk.trans k1.2)
   · rw [if_neg hm] at e
     have hmI:=zx4 hm
     have ht2:tr.length+1≤200:=ht
     by_cases h39:m=39∧(t0::tr).length=1
     · rw [if_pos h39] at e
       obtain ⟨rfl,htr⟩:=h39
       repeat' first
        | apply z01
        | exact z13
        | exact z18 rfl
        | (apply z17;rfl;rfl)
        | (apply z34;(iterate 3 rfl))
        | (apply z98;rfl)
        | (apply z93;rfl;rfl)
        | (apply z16;rfl;(with_reducible rfl);rfl)
        | (apply z14;rfl;(with_reducible rfl);rfl)
        | (apply z61;(iterate 3 rfl))
        | (apply z99;(iterate 3 rfl))
        | (apply z50;(iterate 3 rfl))
        | (apply z22;rfl;rfl)
        | (apply z27;(iterate 4 rfl);exact z30 (by first | exact rfl | assumption | exact z23 (by assumption)))
        | (apply z87;rfl;rfl)
        | (apply z25 (hc:=⟨hnx.run⟩);rfl;rfl;(exact rfl);rfl;(exact z18 rfl);rintro H1 ⟨r1,k1⟩)
        | (apply z25 (hc:=⟨(ju5 (li:=li) hx k1.1 7 (by decide)).run⟩);rfl;rfl;(exact rfl);rfl;(exact z13);rintro H1 ⟨r1,k1⟩)
        | (apply z03;focus (repeat (first | exact z29 | (apply kq_c;rfl) | (apply zb8;rfl;rfl) | (apply z49;rfl) | (apply z39;rfl))))
        | apply z02
        | apply z00
        | apply z04
        | apply z08
        | apply z12
        | apply z19
        | apply z58
        | (apply zb7;rfl)
        | (apply z38;rfl;(with_reducible rfl))
        | (apply z15;rfl)
        | (apply z52;rfl;(with_reducible rfl))
        | (apply z43;rfl;(with_reducible rfl))
        | (apply z40;rfl)
        | with_reducible exact zb1
        | with_reducible apply zb2
        | with_reducible apply z65
        | with_reducible apply z64
        | (with_reducible apply za1;intro hc)
        | (with_reducible apply z69;intro hc)
       any_goals (exfalso;omega)
       any_goals (exfalso;simp_all;done)
       all_goals exact hbad 7 x.pos _ e ⟨r1,hk.trans (Kp2.trans (And.right (by assumption:ScH id x _∧Kp2 li id H _)) k1)⟩ _ rfl rfl
     · rw [if_neg h39] at e
       have h39':¬ (((m.toNat:Nat):Int)=(39:Int)∧(((t0::tr).length:Nat):Int)=(1:Int)):=fun h=>h39 ⟨UInt8.toNat_inj.1 (by have:=h.1;show m.toNat=39;omega),by have:=h.2;omega⟩
       cases hch:zs0 x.src x.pos c (j+1) with
       | bad code p=>
         rw [hch] at e
         repeat' first
          | apply z01
          | exact z13
          | exact z18 rfl
          | (apply z17;rfl;rfl)
          | (apply z34;(iterate 3 rfl))
          | (apply z98;rfl)
          | (apply z93;rfl;rfl)
          | (apply z16;rfl;(with_reducible rfl);rfl)
          | (apply z14;rfl;(with_reducible rfl);rfl)
          | (apply z61;(iterate 3 rfl))
          | (apply z99;(iterate 3 rfl))
          | (apply z50;(iterate 3 rfl))
          | (apply z22;rfl;rfl)
          | (apply z27;(iterate 4 rfl);exact z30 (by first | exact rfl | assumption | exact z23 (by assumption)))
          | (apply z87;rfl;rfl)
          | (apply z25 (hc:=⟨hnx.run⟩);rfl;rfl;(exact rfl);rfl;(exact z18 rfl);rintro H1 ⟨r1,k1⟩)
          | (apply z25 (hc:=⟨(j73 hx r1 k1.1 hne (by omega) (by omega) hl hch).run⟩);rfl;rfl;(exact rfl);rfl;(exact z18 rfl);rintro H1 ⟨r1,k1⟩)
          | (apply z03;focus (repeat (first | exact z29 | (apply kq_c;rfl) | (apply zb8;rfl;rfl) | (apply z49;rfl) | (apply z39;rfl))))
          | apply z02
          | apply z00
          | apply z04
          | apply z08
          | apply z12
          | apply z19
          | apply z58
          | (apply zb7;rfl)
          | (apply z38;rfl;(with_reducible rfl))
          | (apply z15;rfl)
          | (apply z52;rfl;(with_reducible rfl))
          | (apply z43;rfl;(with_reducible rfl))
          | (apply z40;rfl)
          | with_reducible exact zf3
          | with_reducible exact zb1
          | with_reducible apply zb2
          | with_reducible apply zf1
          | with_reducible apply z65
          | with_reducible apply z64
          | (with_reducible apply za1;intro hc)
          | (with_reducible apply z69;intro hc)
         any_goals (exfalso;omega)
         all_goals exact hbad code p _ e ⟨r1,hk.trans (Kp2.trans (And.right (by assumption:ScH id x _∧Kp2 li id H _)) k1)⟩ _ rfl rfl
       | ok b e'=>
         rw [hch] at e
         dsimp only at e
         have h1:=qj7 hch
         have h2:=jn5 (by omega) hch
         repeat' first
          | apply z01
          | exact z13
          | exact z18 rfl
          | exact zj3 rfl rfl
          | (apply z17;rfl;rfl)
          | (apply z34;(iterate 3 rfl))
          | (apply z98;rfl)
          | (apply qc0;rfl)
          | (apply z93;rfl;rfl)
          | (apply z16;rfl;(with_reducible rfl);rfl)
          | (apply z14;rfl;(with_reducible rfl);rfl)
          | (apply z61;(iterate 3 rfl))
          | (apply j87;(iterate 6 rfl))
          | (apply zc5;(iterate 3 rfl))
          | (apply z99;(iterate 3 rfl))
          | (apply z50;(iterate 3 rfl))
          | (apply z22;rfl;rfl)
          | (apply z27;(iterate 4 rfl);exact z30 (by first | exact rfl | assumption | exact z23 (by assumption)))
          | (apply z87;rfl;rfl)
          | (apply qh0;rfl;rfl;(simp only [List.length_map,List.length_cons,List.length_nil,List.length_append,List.length_replicate];omega))
          | (apply z25 (hc:=⟨hnx.run⟩);rfl;rfl;(exact rfl);rfl;(exact z18 rfl);rintro H1 ⟨r1,k1⟩)
          | (apply z25 (hc:=⟨(jf8 hx r1 k1.1 hne (by omega) (by omega) hl hch).run⟩);rfl;rfl;(exact rfl);rfl;(exact z18 rfl);rintro H1 ⟨r1,k1⟩)
          | (apply z25 (hc:=⟨(ju5 (li:=li) hx k1.1 3 (by decide)).run⟩);rfl;rfl;(exact rfl);rfl;(exact z13);rintro H1 ⟨r1,k1⟩)
          | (apply z03;focus (repeat (first | exact z29 | (apply kq_c;rfl) | (apply zb8;rfl;rfl) | (apply z49;rfl) | (apply z39;rfl))))
          | apply z02
          | apply z00
          | apply z04
          | apply z08
          | apply z12
          | apply z19
          | apply z58
          | (apply zb7;rfl)
          | (apply z38;rfl;(with_reducible rfl))
          | (apply z15;rfl)
          | (apply z52;rfl;(with_reducible rfl))
          | (apply z43;rfl;(with_reducible rfl))
          | (apply z40;rfl)
          | with_reducible exact zb1
          | with_reducible apply zb2
          | with_reducible apply z65
          | with_reducible apply z64
          | (with_reducible apply za1;intro hc)
          | (with_reducible apply z69;intro hc)
          | (with_reducible apply z81;intro hc)
          | (with_reducible apply z60;intro hc)
         any_goals (exfalso;omega)
         all_goals by_cases h200:200<(t0::tr).length+1
         all_goals first | rw [if_pos h200] at e | rw [if_neg h200] at e
         any_goals (exfalso;simp at hc h200;omega)
         any_goals exact hbad 3 x.pos _ e ⟨r1,hk.trans (Kp2.trans (Kp2.trans (And.right (by assumption:ScH id x _∧Kp2 li id H _)) (And.right (by assumption:ScH id x _∧Kp2 li id _ _))) k1)⟩ _ rfl rfl
         all_goals
          refine hgo b e' _ e (by omega) (by omega) (by omega) r1 k1.1 (hk.trans (Kp2.trans (And.right (by assumption:ScH id x _∧Kp2 li id H _)) k1.2)) _ ?_
          rw [wk9]
         repeat' first
          | exact z29
          | refine z66 rfl ?_
end Go.Proofs.TryzL
