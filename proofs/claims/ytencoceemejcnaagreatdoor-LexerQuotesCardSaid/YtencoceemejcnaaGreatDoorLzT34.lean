/- Chapter 02: the lexer's names. -/
import Derived.Test.YtencoceemejcnaaGreatDoorLzSeat02c
set_option linter.unusedSimpArgs false
set_option linter.unusedVariables false
namespace Go.Proofs.TryzL
open Go.Proofs.Lz
def plc (s:List UInt8):Nat→Nat×Nat
 | 0=>(1,1)
 | n+1=>match s[n]? with
   | none=>plc s n
   | some c=>if c=10 then ((plc s n).1+1,1) else if c=9 then ((plc s n).1,(plc s n).2+(8 - ((plc s n).2 - 1) % 8)) else ((plc s n).1,(plc s n).2+1)
theorem ws5 (s:List UInt8):∀ n,(plc s n).1≤n+1∧(plc s n).2≤8 * n+1∧1≤(plc s n).2∧1≤(plc s n).1:=by
 intro n
 induction n with
 | zero=>simp [plc]
 | succ n ih=>
   unfold plc
   split
   · omega
   · split
     · simp;omega
     · split
       · simp;omega
       · simp;omega
def scAt (s:List UInt8) (i:Nat):Sc:=⟨s,i,(plc s i).1,(plc s i).2,0,[],0,0⟩
theorem wj0 (s:List UInt8) (i:Nat):ScOk (scAt s i):=by
 obtain ⟨h1,h2,h3,_⟩:=ws5 s i
 exact ⟨h1,h2,h3⟩
theorem wj5 {s:List UInt8} {i:Nat} (h:i<s.length):zl3 (scAt s i)=scAt s (i+1):=by
 unfold zl3 scAt
 simp only [plc,List.getElem?_eq_getElem h]
 split
 · rfl
 · split<;>rfl
theorem wv7 {s:List UInt8} {i:Nat}:∀ n,i+n≤s.length→q15 n (scAt s i)=scAt s (i+n):=by
 intro n
 induction n generalizing i with
 | zero=>intro _;rfl
 | succ n ih=>
   intro h
   show q15 n (zl3 (scAt s i))=_
   rw [wj5 (by omega),ih (by omega)]
   congr 1;omega
inductive U where
 | bad (code at':Nat) (nm:List UInt8)
 | skip (e:Nat)
 | tok (op:Int) (qual text:List UInt8) (n:Int) (e:Nat)
def zc9 (s:List UInt8) (code at':Nat) (nm:List UInt8) (x:Sc):Prop:=x.code=code∧x.name=nm∧x.fl=(plc s at').1∧x.fc=(plc s at').2
def nmOp (t:List UInt8):Int:=if z86 t=5 then 9 else if z86 t=6 then 10 else if z86 t=2 then 2 else if z86 t=1 then 1 else if z86 t=4 then 4 else 3
def zk4 (i:Nat) (q t:List UInt8) (e:Nat):U:=if 64<q.length then .bad 3 i (q.take 64) else if 64<t.length then .bad 3 i (t.take 64) else .tok (nmOp t) q t 0 e
def q11 (s:List UInt8) (j:Nat):List UInt8:=match s[j]? with
 | none=>[]
 | some c=>if upperB c||lowerB c then (if z86 (z74 z98 s j)=5 then [] else z74 z98 s j) else if qg9 (z74 symB s j)||decide (z86 (z74 symB s j)=6) then [] else z74 symB s j
def zs9 (s:List UInt8) (i:Nat):U:=
 let t:=z74 z98 s i
 if (∃ c,s[i]?=some c∧upperB c=true)∧s[i+t.length]?=some 46∧q11 s (i+t.length+1)≠[] then zk4 i t (q11 s (i+t.length+1)) (i+t.length+1+(q11 s (i+t.length+1)).length) else zk4 i [] t (i+t.length)
def numU (s:List UInt8) (i:Nat):U:=match numF (z74 z84 s i) 0 with
 | none=>.bad 6 i []
 | some n=>.tok 5 [] [] n (i+(z74 z84 s i).length)
theorem zg3 {p:UInt8→Bool} {s:List UInt8} {i:Nat} (h:i≤s.length):i+(z74 p s i).length≤s.length:=by
 unfold z74
 have:=(List.takeWhile_prefix p (l:=s.drop i)).length_le
 simp at this
 omega
theorem qt3 {p:UInt8→Bool} {s:List UInt8} {i:Nat} {c:UInt8} (h:s[i]?=some c) (hp:p c=true):z74 p s i=c::z74 p s (i+1):=by
 unfold z74
 obtain ⟨hi,rfl⟩:=List.getElem?_eq_some_iff.1 h
 rw [List.drop_eq_getElem_cons hi,List.takeWhile_cons,if_pos hp]
theorem j75 {s:List UInt8} {j:Nat} (h:j≤s.length):j+(q11 s j).length≤s.length:=by
 unfold q11
 split
 · simpa using h
 · split
   · split
     · simpa using h
     · exact zg3 h
   · split
     · simpa using h
     · exact zg3 h
def zz8:CV:=tokA 0 [] [] 0 false 0 0
def resU:U→WV
 | .tok op q t n _=>.tup [.c (tokA op q t n false 0 0),.c (.bool true)]
 | _=>.tup [.c zz8,.c (.bool false)]
def okU (s:List UInt8):U→Sc→Prop
 | .tok _ _ _ _ e,x=>x=scAt s e
 | .bad code a nm,x=>zc9 s code a nm x
 | .skip _,_=>False
def ScH (id:Nat) (x:Sc) (H:z06):Prop:=H[id]?=some (.var (some 8) (scC x))
theorem j55 (s:List UInt8) (i code:Nat) (nm:List UInt8) (hc:code≠0):zc9 s code i nm (q61 code nm (scAt s i)):=by
 unfold q61 scAt zc9
 simp
end Go.Proofs.TryzL
namespace Go.Proofs.TryzL
open Go.Proofs.Lz
set_option maxHeartbeats 4000000
theorem qd5 (t:List UInt8) (hl:t.length<2^31):Rets Vv 33 [.c (.str t)] (.c (tokA (nmOp t) [] t 0 false 0 0)):=by
 refine z83 wx6 ?_
 repeat' first
  | apply z01
  | exact z13
  | exact z19 rfl
  | (apply z17;rfl;rfl)
  | (apply z30;(iterate 3 rfl))
  | (apply z66;(iterate 3 rfl))
  | (apply z07;rfl;rfl)
  | (apply zj5;rfl;rfl;first | exact zb7 (by first | exact rfl | assumption | exact z25 (by assumption)) | exact ze6 (by first | exact rfl | assumption | exact z25 (by assumption)))
  | (apply z29;(iterate 4 rfl);exact z32 (by first | exact rfl | assumption | exact z25 (by assumption)))
  | (apply z08;rfl;rfl;(assumption);rfl)
  | (apply z95;(iterate 4 rfl);(first | assumption | exact rfl);rfl;rfl;intro H1 hH1 kH1)
  | (apply jj4;rfl;rfl)
  | (apply z05 (hc:=q51 t hl);rfl;rfl;rfl)
  | (apply z04;focus (repeat (first | exact z28 | (apply kq_c;rfl) | (apply z49;rfl) | (apply z43;rfl))))
  | apply z02
  | apply z00
  | apply z03
  | apply z09
  | apply z15
  | (apply z14;rfl)
  | (with_reducible apply za2;intro hc;try (exfalso;omega))
  | (with_reducible apply z73;intro hc;try (exfalso;omega))
  | (apply wx2;rfl)
 all_goals (unfold nmOp tokA;repeat (first | rw [if_pos (by omega)] | rw [if_neg (by omega)]))
theorem w82 {H:z06} {id j:Nat} {x:Sc} (hH:ScH id x H) (hj:j≤x.src.length) (hl:x.src.length<2^60):Shr Vv 31 [.ptr id 0,.c (.int .i64 j),.c (.fn 56 [] [])] H (.c (.str (z74 z98 x.src j))) (fun H'=>ScH id x H'∧KpH id H H'):=by
 obtain ⟨H',h,rfl⟩:=(wk1 hH hj hl).run
 exact ⟨_,h,hH,fun _ _ _ h=>h⟩
theorem qh4 {H:z06} {id j:Nat} {x:Sc} (hH:ScH id x H) (hj:j≤x.src.length) (hl:x.src.length<2^60):Shr Vv 31 [.ptr id 0,.c (.int .i64 j),.c (.fn 30 [] [])] H (.c (.str (z74 symB x.src j))) (fun H'=>ScH id x H'∧KpH id H H'):=by
 obtain ⟨H',h,rfl⟩:=(wd4 hH hj hl).run
 exact ⟨_,h,hH,fun _ _ _ h=>h⟩
theorem ws6 {H:z06} {id j:Nat} {x:Sc} (hH:ScH id x H) (hj:j≤x.src.length) (hl:x.src.length<2^60):Shr Vv 31 [.ptr id 0,.c (.int .i64 j),.c (.fn 27 [] [])] H (.c (.str (z74 z84 x.src j))) (fun H'=>ScH id x H'∧KpH id H H'):=by
 obtain ⟨H',h,rfl⟩:=(wc2 hH hj hl).run
 exact ⟨_,h,hH,fun _ _ _ h=>h⟩
theorem j09 {H:z06} {id:Nat} {x:Sc} {j:Nat} (hH:ScH id x H) (hj:j≤x.src.length) (hl:x.src.length<2^30) :
 Shr Vv 57 [.ptr id 0,.c (.int .i64 j)] H (.c (.str (q11 x.src j))) (fun H'=>ScH id x H'∧KpH id H H'):=by
 refine zm1 v09 ?_
 have hq:ScH id x H∧KpH id H H:=⟨hH,fun _ _ _ h=>h⟩
 have hH:H[id]?=some (.var (some 8) (scC x)):=hH
 have hl60:x.src.length<2^60:=by omega
 cases hc0:x.src[j]? with
 | none=>
   have hlen:x.src.length≤j:=List.getElem?_eq_none_iff.1 hc0
   repeat' first
    | apply z01
    | exact z13
    | exact z19 rfl
    | (apply z17;rfl;rfl)
    | (apply z30;(iterate 3 rfl))
    | (apply z42;rfl)
    | (apply z60;(iterate 3 rfl);exact List.getElem?_eq_getElem (by omega))
    | (apply z23;rfl;rfl)
    | (apply z07;rfl;rfl)
    | (apply z27;rfl;rfl)
    | (apply z08;rfl;rfl;(assumption);rfl)
    | (apply z04;focus (repeat (first | exact z28 | (apply kq_c;rfl) | (apply z49;rfl))))
    | apply z02
    | apply z00
    | apply z03
    | apply z12
    | apply z15
    | (apply z14;rfl)
    | (with_reducible apply z78;intro hc)
    | (with_reducible apply z57;intro hc)
   · refine zo4 rfl ?_ hq
     simp [q11,hc0]
   · exfalso
     omega
 | some c=>
   have hlt:j<x.src.length:=(List.getElem?_eq_some_iff.1 hc0).1
   have l1:=zg3 (p:=z98) (s:=x.src) hj
   have l2:=zg3 (p:=symB) (s:=x.src) hj
   repeat' first
    | apply z01
    | exact z13
    | exact z19 rfl
    | (apply z17;rfl;rfl)
    | (apply z30;(iterate 3 rfl))
    | (apply z42;rfl)
    | (apply z18;rfl;(with_reducible rfl);rfl)
    | (apply z16;rfl;(with_reducible rfl);rfl)
    | (apply z60;(iterate 3 rfl);assumption)
    | (apply z23;rfl;rfl)
    | (apply z07;rfl;rfl)
    | (apply z27;rfl;rfl)
    | (apply z08;rfl;rfl;(assumption);rfl)
    | (apply z05 (hc:=zd1 c);rfl;rfl;rfl)
    | (apply z05 (hc:=zh9 c);rfl;rfl;rfl)
    | (apply z24 (hc:=⟨(w82 hH hj hl60).run⟩);rfl;rfl;(exact rfl);rfl;(exact z13);rintro H1 ⟨r1,k1⟩)
    | (apply z24 (hc:=⟨(qh4 hH hj hl60).run⟩);rfl;rfl;(exact rfl);rfl;(exact z13);rintro H1 ⟨r1,k1⟩)
    | (apply z05 (hc:=q51 (z74 z98 x.src j) (by omega));rfl;rfl;rfl)
    | (apply z05 (hc:=q51 (z74 symB x.src j) (by omega));rfl;rfl;rfl)
    | (apply z05 (hc:=jb7 (z74 symB x.src j) (by omega));rfl;rfl;rfl)
    | (apply z04;focus (repeat (first | exact z28 | (apply kq_c;rfl) | (apply z49;rfl))))
    | apply z02
    | apply z00
    | apply z03
    | apply z12
    | apply z15
    | (apply z39;rfl;(with_reducible rfl))
    | (apply z14;rfl)
    | (apply z50;rfl;(with_reducible rfl))
    | (apply z41;rfl;(with_reducible rfl))
    | (apply z40;rfl)
    | (with_reducible apply za2;intro hc)
    | (with_reducible apply z73;intro hc)
    | (with_reducible apply z78;intro hc)
    | (with_reducible apply z57;intro hc)
    | (with_reducible apply zh7;intro hc)
   all_goals first | (exfalso;omega) | skip
   all_goals (refine zo4 rfl ?_ ⟨r1,k1⟩;congr 1;unfold q11;rw [hc0];simp [*]<;>omega)
end Go.Proofs.TryzL
namespace Go.Proofs.TryzL
open Go.Proofs.Lz
set_option maxHeartbeats 4000000
theorem adv {H:z06} {id n:Nat} {x:Sc} (hx:scAt x.src x.pos=x) (hH:ScH id x H) (hn:x.pos+n≤x.src.length) (hl:x.src.length<2^50) :
 Shr Vv 34 [.ptr id 0,.c (.int .i64 n)] H (.tup []) (fun H'=>ScH id (scAt x.src (x.pos+n)) H'∧KpH id H H'):=by
 obtain ⟨H',h,h1,h2⟩:=(jp8 (n:=n) hH (by rw [← hx];exact wj0 _ _) hn hl).run
 refine ⟨H',h,?_,h2⟩
 have:=wv7 (s:=x.src) (i:=x.pos) n hn
 rw [hx] at this
 rw [← this];exact h1
theorem zr1 {H:z06} {id:Nat} {x:Sc} {t:List UInt8} (hH:ScH id x H) (h:t.length≤64):Shr Vv 32 [.ptr id 0,.c (.str t)] H (.c (.bool true)) (fun H'=>ScH id x H'∧KpH id H H'):=by
 obtain ⟨H',h1,h2,h3⟩:=(jt3 hH (t:=t) (by omega)).run
 rw [decide_eq_true h] at h1
 rw [if_pos h] at h2
 exact ⟨H',h1,h2,h3⟩
theorem zz9 {H:z06} {id:Nat} {x:Sc} {t:List UInt8} (hH:ScH id x H) (h:¬ t.length≤64) (hl:t.length<2^60):Shr Vv 32 [.ptr id 0,.c (.str t)] H (.c (.bool false)) (fun H'=>ScH id (q61 3 (t.take 64) x) H'∧KpH id H H'):=by
 obtain ⟨H',h1,h2,h3⟩:=(jt3 hH (t:=t) hl).run
 rw [decide_eq_false h] at h1
 rw [if_neg h] at h2
 exact ⟨H',h1,h2,h3⟩
def qy5 (id:Nat) (H:z06) (s:List UInt8) (u:U):z06→Prop:=fun H'=>(∃ y,ScH id y H'∧okU s u y)∧KpH id H H'
theorem qz4 {x:Sc} (hx:scAt x.src x.pos=x) {code:Nat} {nm:List UInt8} (hc:code≠0):zc9 x.src code x.pos nm (q61 code nm x):=by
 have:=j55 x.src x.pos code nm hc
 rwa [hx] at this
theorem name26 {H:z06} {id:Nat} {x:Sc} {c:UInt8} (hx:scAt x.src x.pos=x) (hH:ScH id x H) (hc:x.src[x.pos]?=some c) (hcl:(upperB c||lowerB c)=true) (hl:x.src.length<2^30) :
 Shr Vv 26 [.ptr id 0] H (resU (zs9 x.src x.pos)) (qy5 id H x.src (zs9 x.src x.pos)):=by
 refine zm1 v05 ?_
 have hlt:x.pos<x.src.length:=(List.getElem?_eq_some_iff.1 hc).1
 have hid:z98 c=true:=by unfold z98;rw [hcl];rfl
 have hl50:x.src.length<2^50:=by omega
 have hl60:x.src.length<2^60:=by omega
 have hple:x.pos≤x.src.length:=by omega
 have l1:=zg3 (p:=z98) (s:=x.src) hple
 have t0:(z74 z98 x.src x.pos)[0]?=some c:=by rw [qt3 hc hid];rfl
 have hH0:H[id]?=some (.var (some 8) (scC x)):=hH
 have hN:zs9 x.src x.pos=if upperB c=true∧x.src[x.pos+(z74 z98 x.src x.pos).length]?=some 46∧q11 x.src (x.pos+(z74 z98 x.src x.pos).length+1)≠[] then zk4 x.pos (z74 z98 x.src x.pos) (q11 x.src (x.pos+(z74 z98 x.src x.pos).length+1)) (x.pos+(z74 z98 x.src x.pos).length+1+(q11 x.src (x.pos+(z74 z98 x.src x.pos).length+1)).length) else zk4 x.pos [] (z74 z98 x.src x.pos) (x.pos+(z74 z98 x.src x.pos).length):=by
  unfold zs9
  simp only [hc,Option.some.injEq,exists_eq_left']
 rw [hN]
 generalize ht:z74 z98 x.src x.pos=t at *
 have hrun:=w82 hH hple hl60
 rw [ht] at hrun
 by_cases h64:t.length≤64
 · by_cases hdot:upperB c=true∧x.src[x.pos+t.length]?=some 46
   · have hd:=hdot.2
     have hup:=hdot.1
     have hj:x.pos+t.length+1≤x.src.length:=by have:=(List.getElem?_eq_some_iff.1 hd).1;omega
     have l3:=j75 hj
     generalize hq:q11 x.src (x.pos+t.length+1)=q at *
     have hqr:∀ {H1:z06},ScH id x H1→Shr Vv 57 [.ptr id 0,.c (.int .i64 (x.pos+t.length+1:Nat))] H1 (.c (.str q)) (fun H'=>ScH id x H'∧KpH id H1 H'):=fun r=>by
      have:=j09 (j:=x.pos+t.length+1) r hj hl
      rwa [hq] at this
     by_cases hqn:q=[]
     · rw [if_neg (fun h=>h.2.2 hqn)]
       have hw:zk4 x.pos [] t (x.pos+t.length)=.tok (nmOp t) [] t 0 (x.pos+t.length):=by
        unfold zk4;rw [if_neg (by simp),if_neg (by omega)]
       rw [hw]
       repeat' first
        | apply z01
        | exact z13
        | exact z19 rfl
        | (apply z17;rfl;rfl)
        | (apply za3;rfl;rfl;omega)
        | (apply z30;(iterate 3 rfl))
        | (apply z42;rfl)
        | (apply z94;rfl;rfl)
        | (apply z18;rfl;(with_reducible rfl);rfl)
        | (apply z16;rfl;(with_reducible rfl);rfl)
        | (apply z60;(iterate 3 rfl);assumption)
        | (apply z23;rfl;rfl)
        | (apply z07;rfl;rfl)
        | (apply z27;rfl;rfl)
        | (apply zj5;rfl;rfl;first | exact zb7 (by first | exact rfl | assumption | exact z25 (by assumption)) | exact ze6 (by first | exact rfl | assumption | exact z25 (by assumption)))
        | (apply z29;(iterate 4 rfl);exact z32 (by first | exact rfl | assumption | exact z25 (by assumption)))
        | (apply z08;rfl;rfl;(assumption);rfl)
        | (apply z24 (hc:=⟨hrun.run⟩);rfl;rfl;(exact rfl);rfl;(exact z13);rintro H1 ⟨r1,k1⟩)
        | (apply z24 (hc:=⟨(zr1 r1 h64).run⟩);rfl;rfl;(exact rfl);rfl;(exact z13);rintro H1 ⟨r1,k1⟩)
        | (apply z05 (hc:=zd1 c);rfl;rfl;rfl)
        | (apply z05 (hc:=qd5 t (by omega));rfl;rfl;rfl)
        | (apply z24 (hc:=⟨(hqr r1).run⟩);rfl;rfl;(exact rfl);rfl;(exact z13);rintro H1 ⟨r1,k1⟩)
        | (apply z24 (hc:=⟨(adv (n:=t.length) hx r1 l1 hl50).run⟩);rfl;rfl;(exact rfl);rfl;(exact z19 rfl);rintro H1 ⟨r1,k1⟩)
        | (apply z04;focus (repeat (first | exact z28 | (apply kq_c;rfl) | (apply z49;rfl) | (apply z43;rfl))))
        | apply z02
        | apply z00
        | apply z03
        | apply z12
        | apply z15
        | (apply z35;rfl;(with_reducible rfl))
        | (apply z14;rfl)
        | (apply z50;rfl;(with_reducible rfl))
        | (apply z48;rfl;(with_reducible rfl))
        | (apply z40;rfl)
        | with_reducible exact zb1
        | with_reducible apply zb0
        | with_reducible apply z64
        | with_reducible apply z63
        | (with_reducible apply za2;intro hc)
        | (with_reducible apply zs8;intro hc)
        | (with_reducible apply z73;intro hc)
        | (with_reducible apply zi5;intro hc)
        | (with_reducible apply z78;intro hc)
        | (with_reducible apply z57;intro hc)
        | (with_reducible apply zh7;intro hc)
       all_goals first
        | (exfalso;contradiction)
        | (exfalso;omega)
        | (exfalso;simp_all;done)
        | exact zs7 rfl rfl rfl ⟨⟨_,r1,rfl⟩,by repeat (first | assumption | refine KpH.trans ?_ (by assumption))⟩
     · rw [if_pos ⟨hup,hd,hqn⟩]
       by_cases hq64:q.length≤64
       · have hw:zk4 x.pos t q (x.pos+t.length+1+q.length)=.tok (nmOp q) t q 0 (x.pos+t.length+1+q.length):=by
          unfold zk4;rw [if_neg (by omega),if_neg (by omega)]
         rw [hw]
         have e:x.pos+(t.length+1+q.length)=x.pos+t.length+1+q.length:=by omega
         repeat' first
          | apply z01
          | exact z13
          | exact z19 rfl
          | (apply z17;rfl;rfl)
          | (apply za0;(iterate 3 rfl))
          | (apply za3;rfl;rfl;omega)
          | (apply z30;(iterate 3 rfl))
          | (apply z42;rfl)
          | (apply z94;rfl;rfl)
          | (apply z18;rfl;(with_reducible rfl);rfl)
          | (apply z16;rfl;(with_reducible rfl);rfl)
          | (apply z60;(iterate 3 rfl);assumption)
          | (apply zi1;rfl;exact qw2 rfl)
          | (apply z23;rfl;rfl)
          | (apply z07;rfl;rfl)
          | (apply z27;rfl;rfl)
          | (apply zj5;rfl;rfl;first | exact zb7 (by first | exact rfl | assumption | exact z25 (by assumption)) | exact ze6 (by first | exact rfl | assumption | exact z25 (by assumption)))
          | (apply z29;(iterate 4 rfl);exact z32 (by first | exact rfl | assumption | exact z25 (by assumption)))
          | (apply zr2;(iterate 8 rfl);exact q96 (by first | exact rfl | assumption | exact z25 (by assumption)))
          | (apply z08;rfl;rfl;(assumption);rfl)
          | (apply z24 (hc:=⟨hrun.run⟩);rfl;rfl;(exact rfl);rfl;(exact z13);rintro H1 ⟨r1,k1⟩)
          | (apply z24 (hc:=⟨(zr1 r1 h64).run⟩);rfl;rfl;(exact rfl);rfl;(exact z13);rintro H1 ⟨r1,k1⟩)
          | (apply z24 (hc:=⟨(zr1 r1 hq64).run⟩);rfl;rfl;(exact rfl);rfl;(exact z13);rintro H1 ⟨r1,k1⟩)
          | (apply z05 (hc:=zd1 c);rfl;rfl;rfl)
          | (apply z05 (hc:=qd5 q (by omega));rfl;rfl;rfl)
          | (apply z24 (hc:=⟨(hqr r1).run⟩);rfl;rfl;(exact rfl);rfl;(exact z13);rintro H1 ⟨r1,k1⟩)
          | (apply z24 (hc:=⟨(adv (n:=t.length+1+q.length) hx r1 (by omega) hl50).run⟩);rfl;rfl;(exact rfl);rfl;(exact z19 rfl);rintro H1 ⟨r1,k1⟩)
          | (apply z04;focus (repeat (first | exact z28 | (apply kq_c;rfl) | (apply z49;rfl) | (apply z43;rfl))))
          | apply z02
          | apply z00
          | apply z03
          | apply z12
          | apply z15
          | (apply z35;rfl;(with_reducible rfl))
          | (apply z14;rfl)
          | (apply z50;rfl;(with_reducible rfl))
          | (apply z48;rfl;(with_reducible rfl))
          | (apply z40;rfl)
          | with_reducible exact zb1
          | with_reducible apply zb0
          | with_reducible apply z64
          | with_reducible apply z63
          | (with_reducible apply za2;intro hc)
          | (with_reducible apply zs8;intro hc)
          | (with_reducible apply z73;intro hc)
          | (with_reducible apply zi5;intro hc)
          | (with_reducible apply z78;intro hc)
          | (with_reducible apply z57;intro hc)
          | (with_reducible apply zh7;intro hc)
         all_goals first
          | (exfalso;contradiction)
          | (exfalso;omega)
          | (exfalso;simp_all;done)
          | (rw [e] at r1;exact zs7 rfl rfl rfl ⟨⟨_,r1,rfl⟩,by repeat (first | assumption | refine KpH.trans ?_ (by assumption))⟩)
       · have hw:zk4 x.pos t q (x.pos+t.length+1+q.length)=.bad 3 x.pos (q.take 64):=by
          unfold zk4;rw [if_neg (by omega),if_pos (by omega)]
         rw [hw]
         repeat' first
          | apply z01
          | exact z13
          | exact z19 rfl
          | (apply z17;rfl;rfl)
          | (apply za3;rfl;rfl;omega)
          | (apply z30;(iterate 3 rfl))
          | (apply z42;rfl)
          | (apply z94;rfl;rfl)
          | (apply z18;rfl;(with_reducible rfl);rfl)
          | (apply z16;rfl;(with_reducible rfl);rfl)
          | (apply z60;(iterate 3 rfl);assumption)
          | (apply z66;(iterate 3 rfl))
          | (apply z23;rfl;rfl)
          | (apply z07;rfl;rfl)
          | (apply z27;rfl;rfl)
          | (apply zj5;rfl;rfl;first | exact zb7 (by first | exact rfl | assumption | exact z25 (by assumption)) | exact ze6 (by first | exact rfl | assumption | exact z25 (by assumption)))
          | (apply z29;(iterate 4 rfl);exact z32 (by first | exact rfl | assumption | exact z25 (by assumption)))
          | (apply z08;rfl;rfl;(assumption);rfl)
          | (apply z24 (hc:=⟨hrun.run⟩);rfl;rfl;(exact rfl);rfl;(exact z13);rintro H1 ⟨r1,k1⟩)
          | (apply z24 (hc:=⟨(zr1 r1 h64).run⟩);rfl;rfl;(exact rfl);rfl;(exact z13);rintro H1 ⟨r1,k1⟩)
          | (apply z24 (hc:=⟨(zz9 r1 hq64 (by omega)).run⟩);rfl;rfl;(exact rfl);rfl;(exact z13);rintro H1 ⟨r1,k1⟩)
          | (apply z05 (hc:=zd1 c);rfl;rfl;rfl)
          | (apply z24 (hc:=⟨(hqr r1).run⟩);rfl;rfl;(exact rfl);rfl;(exact z13);rintro H1 ⟨r1,k1⟩)
          | (apply z04;focus (repeat (first | exact z28 | (apply kq_c;rfl) | (apply z49;rfl) | (apply z43;rfl))))
          | apply z02
          | apply z00
          | apply z03
          | apply z12
          | apply z15
          | (apply z35;rfl;(with_reducible rfl))
          | (apply z14;rfl)
          | (apply z50;rfl;(with_reducible rfl))
          | (apply z48;rfl;(with_reducible rfl))
          | (apply z40;rfl)
          | with_reducible exact zf2
          | with_reducible exact zb1
          | with_reducible apply zb0
          | with_reducible apply zf5
          | with_reducible apply z64
          | with_reducible apply z63
          | (with_reducible apply za2;intro hc)
          | (with_reducible apply zs8;intro hc)
          | (with_reducible apply z73;intro hc)
          | (with_reducible apply zi5;intro hc)
          | (with_reducible apply z78;intro hc)
          | (with_reducible apply z57;intro hc)
          | (with_reducible apply zh7;intro hc)
         all_goals first
          | (exfalso;contradiction)
          | (exfalso;omega)
          | (exfalso;simp_all;done)
          | exact zs7 rfl rfl rfl ⟨⟨_,r1,qz4 hx (by decide)⟩,by repeat (first | assumption | refine KpH.trans ?_ (by assumption))⟩
   · rw [if_neg (fun h=>hdot ⟨h.1,h.2.1⟩)]
     have hw:zk4 x.pos [] t (x.pos+t.length)=.tok (nmOp t) [] t 0 (x.pos+t.length):=by
      unfold zk4;rw [if_neg (by simp),if_neg (by omega)]
     rw [hw]
     have hdot2:upperB c=true→∀ d,x.src[x.pos+t.length]?=some d→d≠46:=fun h d hd e=>hdot ⟨h,by rw [hd,e]⟩
     repeat' first
      | apply z01
      | exact z13
      | exact z19 rfl
      | (apply z17;rfl;rfl)
      | (apply za3;rfl;rfl;omega)
      | (apply z30;(iterate 3 rfl))
      | (apply z42;rfl)
      | (apply z94;rfl;rfl)
      | (apply z18;rfl;(with_reducible rfl);rfl)
      | (apply z16;rfl;(with_reducible rfl);rfl)
      | (apply z60;(iterate 3 rfl);assumption)
      | (apply z60;(iterate 3 rfl);exact List.getElem?_eq_getElem (by omega))
      | (apply z23;rfl;rfl)
      | (apply z07;rfl;rfl)
      | (apply z27;rfl;rfl)
      | (apply zj5;rfl;rfl;first | exact zb7 (by first | exact rfl | assumption | exact z25 (by assumption)) | exact ze6 (by first | exact rfl | assumption | exact z25 (by assumption)))
      | (apply z29;(iterate 4 rfl);exact z32 (by first | exact rfl | assumption | exact z25 (by assumption)))
      | (apply z08;rfl;rfl;(assumption);rfl)
      | (apply z24 (hc:=⟨hrun.run⟩);rfl;rfl;(exact rfl);rfl;(exact z13);rintro H1 ⟨r1,k1⟩)
      | (apply z24 (hc:=⟨(zr1 r1 h64).run⟩);rfl;rfl;(exact rfl);rfl;(exact z13);rintro H1 ⟨r1,k1⟩)
      | (apply z05 (hc:=zd1 c);rfl;rfl;rfl)
      | (apply z05 (hc:=qd5 t (by omega));rfl;rfl;rfl)
      | (apply z24 (hc:=⟨(adv (n:=t.length) hx r1 l1 hl50).run⟩);rfl;rfl;(exact rfl);rfl;(exact z19 rfl);rintro H1 ⟨r1,k1⟩)
      | (apply z04;focus (repeat (first | exact z28 | (apply kq_c;rfl) | (apply z49;rfl) | (apply z43;rfl))))
      | apply z02
      | apply z00
      | apply z03
      | apply z12
      | apply z15
      | (apply z35;rfl;(with_reducible rfl))
      | (apply z14;rfl)
      | (apply z50;rfl;(with_reducible rfl))
      | (apply z48;rfl;(with_reducible rfl))
      | (apply z40;rfl)
      | with_reducible exact zb1
      | with_reducible apply zb0
      | with_reducible apply z64
      | with_reducible apply z63
      | (with_reducible apply za2;intro hc)
      | (with_reducible apply z73;intro hc)
      | (with_reducible apply z78;intro hc)
      | (with_reducible apply z57;intro hc)
      | (with_reducible apply zh7;intro hc)
     all_goals first
      | exact zs7 rfl rfl rfl ⟨⟨_,r1,rfl⟩,by repeat (first | assumption | refine KpH.trans ?_ (by assumption))⟩
      | (exfalso;exact hdot2 (by assumption) _ (List.getElem?_eq_getElem (by omega)) (UInt8.toNat_inj.1 (by have h46:(46:UInt8).toNat=46:=rfl;omega)))
 · have hw:∀ q e,zk4 x.pos t q e=.bad 3 x.pos (t.take 64):=by intro q e;unfold zk4;rw [if_pos (by omega)]
   have hw2:∀ e,zk4 x.pos [] t e=.bad 3 x.pos (t.take 64):=by intro e;unfold zk4;rw [if_neg (by simp),if_pos (by omega)]
   rw [hw,hw2,ite_self]
   repeat' first
    | apply z01
    | exact z13
    | exact z19 rfl
    | (apply z17;rfl;rfl)
    | (apply z94;rfl;rfl)
    | (apply z66;(iterate 3 rfl))
    | (apply z23;rfl;rfl)
    | (apply z07;rfl;rfl)
    | (apply z27;rfl;rfl)
    | (apply zj5;rfl;rfl;first | exact zb7 (by first | exact rfl | assumption | exact z25 (by assumption)) | exact ze6 (by first | exact rfl | assumption | exact z25 (by assumption)))
    | (apply z29;(iterate 4 rfl);exact z32 (by first | exact rfl | assumption | exact z25 (by assumption)))
    | (apply z08;rfl;rfl;(assumption);rfl)
    | (apply z24 (hc:=⟨hrun.run⟩);rfl;rfl;(exact rfl);rfl;(exact z13);rintro H1 ⟨r1,k1⟩)
    | (apply z24 (hc:=⟨(zz9 r1 h64 (by omega)).run⟩);rfl;rfl;(exact rfl);rfl;(exact z13);rintro H1 ⟨r1,k1⟩)
    | (apply z04;focus (repeat (first | exact z28 | (apply z43;rfl))))
    | apply z02
    | apply z00
    | apply z03
    | apply z15
    | (apply z14;rfl)
    | with_reducible exact zf2
    | with_reducible apply zf5
    | with_reducible apply z64
    | with_reducible apply z63
   exact zs7 rfl rfl rfl ⟨⟨_,r1,qz4 hx (by decide)⟩,by repeat (first | assumption | refine KpH.trans ?_ (by assumption))⟩
end Go.Proofs.TryzL
