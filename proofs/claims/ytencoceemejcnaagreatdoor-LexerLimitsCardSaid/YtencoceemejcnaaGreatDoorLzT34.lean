/- Chapter 02: the lexer's names. -/
import Derived.Test.YtencoceemejcnaaGreatDoorLzT30
import Derived.Test.YtencoceemejcnaaGreatDoorLzT3
set_option linter.unusedSimpArgs false
set_option linter.unusedVariables false
namespace Go.Proofs.TryzL
open Go.Proofs.Lz
set_option maxHeartbeats 4000000
def wg6:Option (WV×z07)→Bool
 | some (.c (.bool b),_)=>b
 | _=>false
theorem jc1 {f:Nat} (n:Nat) (h:wg6 (wF Vv n f [] [])=true):Rets Vv f [] (.c (.bool true)):=by
 cases hw:wF Vv n f [] [] with
 | none=>rw [hw] at h;cases h
 | some p=>
   obtain ⟨v,H⟩:=p
   rw [hw] at h
   have hv:=jx8 hw
   cases v with
   | c u=>
     cases u with
     | bool b=>
       have hb:b=true:=h
       subst hb
       exact ⟨_,H,hv,rfl⟩
     | _=>cases h
   | _=>cases h
theorem zy5:Rets Vv 10 [] (.c (.bool true)):=jc1 40 (by kernel_rfl)
structure TokI (t:Tok):Prop where
 n:-9223372036854775808≤t.n∧t.n≤9223372036854775807
 line:-9223372036854775808≤t.line∧t.line≤9223372036854775807
 col:-9223372036854775808≤t.col∧t.col≤9223372036854775807
end Go.Proofs.TryzL
set_option maxRecDepth 100000
namespace Go.Proofs.YtencoceemejcnaaGreatDoor
open Go.ChangeShapes Go.WideShapes Go.ChangeAt Go.RowKit Go.Proofs.Lz
open Go.Proofs.TryzL
theorem wi2 {m:Int} (h:(Lit.int .i64 m).wf=true):-9223372036854775808≤m∧m≤9223372036854775807:=by
 simpa [Lit.wf,IntKind.min,IntKind.max,IntKind.signed,IntKind.bits] using h
theorem ek3:ekOf Tryz.prog 3=some none:=by kernel_rfl
theorem jp0 {zs:List CV} {x:CV} (h2:zr8 Tryz.prog 6 3 zs) (h4:zc0 none zs=some x):∃ m:Int,x=.int .i64 m∧-9223372036854775808≤m∧m≤9223372036854775807:=by
 unfold zr8 at h2
 rw [Tryz.underlying3] at h2
 obtain ⟨m,rfl,hm⟩:=h2
 simp only [zc0,List.getElem?_cons_zero,Option.some.injEq] at h4
 exact ⟨m,h4.symm,wi2 hm⟩
theorem qw3 {P:Program} {n:Nat} {t:TypeId} {ts:List TypeId} {xs:List CV} (h:q50 P n (t::ts) xs):∃ x ys,xs=x::ys∧je4 P n t x∧q50 P n ts ys:=by
 cases xs with
 | nil=>exact h.elim
 | cons x ys=>exact ⟨x,ys,rfl,h⟩
theorem w28 {P:Program} {n:Nat} {xs:List CV} (h:q50 P n [] xs):xs=[]:=by
 cases xs with
 | nil=>rfl
 | cons x ys=>exact h.elim
theorem qq7 {P:Program} {n:Nat} {t:TypeId} {x:CV} {e:Option Nat} (he:ekOf P t=some e) (h:je4 P n t x):∃ zs,zr8 P n t zs∧zc0 e zs=some x:=by
 obtain ⟨zs,ek,h1,h2,_,h4⟩:=h
 rw [he] at h1
 injection h1 with h1
 subst h1
 exact ⟨zs,h2,h4⟩
theorem w99 {x:CV} (h:je4 Tryz.prog 6 3 x):∃ m:Int,x=.int .i64 m∧-9223372036854775808≤m∧m≤9223372036854775807:=by
 obtain ⟨zs,h2,h4⟩:=qq7 ek3 h
 exact jp0 h2 h4
theorem ek9:ekOf Tryz.prog 9=some none:=by kernel_rfl
theorem js3 {zs:List CV} {x:CV} (h2:zr8 Tryz.prog 6 9 zs) (h4:zc0 none zs=some x):∃ s:List UInt8,x=.str s∧s.length≤9223372036854775807:=by
 unfold zr8 at h2
 rw [Tryz.underlying9] at h2
 obtain ⟨s,rfl,hs⟩:=h2
 simp only [zc0,List.getElem?_cons_zero,Option.some.injEq] at h4
 exact ⟨s,h4.symm,by simpa [maxLen] using hs⟩
theorem we1 {x:CV} (h:je4 Tryz.prog 6 9 x):∃ s:List UInt8,x=.str s∧s.length≤9223372036854775807:=by
 obtain ⟨zs,h2,h4⟩:=qq7 ek9 h
 exact js3 h2 h4
end Go.Proofs.YtencoceemejcnaaGreatDoor
namespace Go.Proofs.TryzL
open Go.Proofs.Lz
def plc (s:List UInt8):Nat→Nat×Nat
 | 0=>(1,1)
 | n+1=>match s[n]? with
   | none=>plc s n
   | some c=>if c=10 then ((plc s n).1+1,1) else if c=9 then ((plc s n).1,(plc s n).2+(8 - ((plc s n).2 - 1) % 8)) else ((plc s n).1,(plc s n).2+1)
theorem w42 (s:List UInt8):∀ n,(plc s n).1≤n+1∧(plc s n).2≤8 * n+1∧1≤(plc s n).2∧1≤(plc s n).1:=by
 intro n
 induction n with
 | zero=>simp [plc]
 | succ n ih=>
   unfold plc
   split
   · omega
   · split
     · simp;omega
     · split
       · simp;omega
       · simp;omega
def scAt (s:List UInt8) (i:Nat):Sc:=⟨s,i,(plc s i).1,(plc s i).2,0,[],0,0⟩
theorem wc9 (s:List UInt8) (i:Nat):ScOk (scAt s i):=by
 obtain ⟨h1,h2,h3,_⟩:=w42 s i
 exact ⟨h1,h2,h3⟩
theorem we9 {s:List UInt8} {i:Nat} (h:i<s.length):zk6 (scAt s i)=scAt s (i+1):=by
 unfold zk6 scAt
 simp only [plc,List.getElem?_eq_getElem h]
 split
 · rfl
 · split<;>rfl
theorem wn7 {s:List UInt8} {i:Nat}:∀ n,i+n≤s.length→q08 n (scAt s i)=scAt s (i+n):=by
 intro n
 induction n generalizing i with
 | zero=>intro _;rfl
 | succ n ih=>
   intro h
   show q08 n (zk6 (scAt s i))=_
   rw [we9 (by omega),ih (by omega)]
   congr 1;omega
inductive U where
 | bad (code at':Nat) (nm:List UInt8)
 | skip (e:Nat)
 | tok (op:Int) (qual text:List UInt8) (n:Int) (e:Nat)
def zc8 (s:List UInt8) (code at':Nat) (nm:List UInt8) (x:Sc):Prop:=x.code=code∧x.name=nm∧x.fl=(plc s at').1∧x.fc=(plc s at').2
def nmOp (t:List UInt8):Int:=if zy1 t=5 then 9 else if zy1 t=6 then 10 else if zy1 t=2 then 2 else if zy1 t=1 then 1 else if zy1 t=4 then 4 else 3
def zl8 (i:Nat) (q t:List UInt8) (e:Nat):U:=if 64<q.length then .bad 3 i (q.take 64) else if 64<t.length then .bad 3 i (t.take 64) else .tok (nmOp t) q t 0 e
def q67 (s:List UInt8) (j:Nat):List UInt8:=match s[j]? with
 | none=>[]
 | some c=>if upperB c||lowerB c then (if zy1 (z82 zb0 s j)=5 then [] else z82 zb0 s j) else if j29 (z82 symB s j)||decide (zy1 (z82 symB s j)=6) then [] else z82 symB s j
def zx6 (s:List UInt8) (i:Nat):U:=
 let t:=z82 zb0 s i
 if (∃ c,s[i]?=some c∧upperB c=true)∧s[i+t.length]?=some 46∧q67 s (i+t.length+1)≠[] then zl8 i t (q67 s (i+t.length+1)) (i+t.length+1+(q67 s (i+t.length+1)).length) else zl8 i [] t (i+t.length)
def numU (s:List UInt8) (i:Nat):U:=match numF (z82 z94 s i) 0 with
 | none=>.bad 6 i []
 | some n=>.tok 5 [] [] n (i+(z82 z94 s i).length)
theorem zg3 {p:UInt8→Bool} {s:List UInt8} {i:Nat} (h:i≤s.length):i+(z82 p s i).length≤s.length:=by
 unfold z82
 have:=(List.takeWhile_prefix p (l:=s.drop i)).length_le
 simp at this
 omega
theorem qr5 {p:UInt8→Bool} {s:List UInt8} {i:Nat} {c:UInt8} (h:s[i]?=some c) (hp:p c=true):z82 p s i=c::z82 p s (i+1):=by
 unfold z82
 obtain ⟨hi,rfl⟩:=List.getElem?_eq_some_iff.1 h
 rw [List.drop_eq_getElem_cons hi,List.takeWhile_cons,if_pos hp]
theorem j63 {s:List UInt8} {j:Nat} (h:j≤s.length):j+(q67 s j).length≤s.length:=by
 unfold q67
 split
 · simpa using h
 · split
   · split
     · simpa using h
     · exact zg3 h
   · split
     · simpa using h
     · exact zg3 h
def zz0:CV:=tokA 0 [] [] 0 false 0 0
def resU:U→WV
 | .tok op q t n _=>.tup [.c (tokA op q t n false 0 0),.c (.bool true)]
 | _=>.tup [.c zz0,.c (.bool false)]
def okU (s:List UInt8):U→Sc→Prop
 | .tok _ _ _ _ e,x=>x=scAt s e
 | .bad code a nm,x=>zc8 s code a nm x
 | .skip _,_=>False
def ScH (id:Nat) (x:Sc) (H:z07):Prop:=H[id]?=some (.var (some 8) (scC x))
theorem j08 (s:List UInt8) (i code:Nat) (nm:List UInt8) (hc:code≠0):zc8 s code i nm (q61 code nm (scAt s i)):=by
 unfold q61 scAt zc8
 simp
end Go.Proofs.TryzL
namespace Go.Proofs.TryzL
open Go.Proofs.Lz
set_option maxHeartbeats 4000000
theorem qc6 (t:List UInt8) (hl:t.length<2^31):Rets Vv 33 [.c (.str t)] (.c (tokA (nmOp t) [] t 0 false 0 0)):=by
 refine z92 wu3 ?_
 repeat' first
  | apply z01
  | exact z13
  | exact z18 rfl
  | (apply z17;rfl;rfl)
  | (apply z34;(iterate 3 rfl))
  | (apply z61;(iterate 3 rfl))
  | (apply z06;rfl;rfl)
  | (apply zf7;rfl;rfl;first | exact za2 (by first | exact rfl | assumption | exact z23 (by assumption)) | exact zb6 (by first | exact rfl | assumption | exact z23 (by assumption)))
  | (apply z27;(iterate 4 rfl);exact z30 (by first | exact rfl | assumption | exact z23 (by assumption)))
  | (apply z09;rfl;rfl;(assumption);rfl)
  | (apply z95;(iterate 4 rfl);(first | assumption | exact rfl);rfl;rfl;intro H1 hH1 kH1)
  | (apply jq8;rfl;rfl)
  | (apply z05 (hc:=q41 t hl);rfl;rfl;rfl)
  | (apply z03;focus (repeat (first | exact z29 | (apply kq_c;rfl) | (apply z49;rfl) | (apply z39;rfl))))
  | apply z02
  | apply z00
  | apply z04
  | apply z08
  | apply z19
  | (apply z15;rfl)
  | (with_reducible apply za1;intro hc;try (exfalso;omega))
  | (with_reducible apply z69;intro hc;try (exfalso;omega))
  | (apply wq4;rfl)
 all_goals (unfold nmOp tokA;repeat (first | rw [if_pos (by omega)] | rw [if_neg (by omega)]))
theorem w55 {H:z07} {id j:Nat} {x:Sc} (hH:ScH id x H) (hj:j≤x.src.length) (hl:x.src.length<2^60):Shr Vv 31 [.ptr id 0,.c (.int .i64 j),.c (.fn 56 [] [])] H (.c (.str (z82 zb0 x.src j))) (fun H'=>ScH id x H'∧KpH id H H'):=by
 obtain ⟨H',h,rfl⟩:=(wg1 hH hj hl).run
 exact ⟨_,h,hH,fun _ _ _ h=>h⟩
theorem qh8 {H:z07} {id j:Nat} {x:Sc} (hH:ScH id x H) (hj:j≤x.src.length) (hl:x.src.length<2^60):Shr Vv 31 [.ptr id 0,.c (.int .i64 j),.c (.fn 30 [] [])] H (.c (.str (z82 symB x.src j))) (fun H'=>ScH id x H'∧KpH id H H'):=by
 obtain ⟨H',h,rfl⟩:=(wc3 hH hj hl).run
 exact ⟨_,h,hH,fun _ _ _ h=>h⟩
theorem wj0 {H:z07} {id j:Nat} {x:Sc} (hH:ScH id x H) (hj:j≤x.src.length) (hl:x.src.length<2^60):Shr Vv 31 [.ptr id 0,.c (.int .i64 j),.c (.fn 27 [] [])] H (.c (.str (z82 z94 x.src j))) (fun H'=>ScH id x H'∧KpH id H H'):=by
 obtain ⟨H',h,rfl⟩:=(w93 hH hj hl).run
 exact ⟨_,h,hH,fun _ _ _ h=>h⟩
theorem qx4 {H:z07} {id:Nat} {x:Sc} {j:Nat} (hH:ScH id x H) (hj:j≤x.src.length) (hl:x.src.length<2^30) :
 Shr Vv 57 [.ptr id 0,.c (.int .i64 j)] H (.c (.str (q67 x.src j))) (fun H'=>ScH id x H'∧KpH id H H'):=by
 refine zm8 ws3 ?_
 have hq:ScH id x H∧KpH id H H:=⟨hH,fun _ _ _ h=>h⟩
 have hH:H[id]?=some (.var (some 8) (scC x)):=hH
 have hl60:x.src.length<2^60:=by omega
 cases hc0:x.src[j]? with
 | none=>
   have hlen:x.src.length≤j:=List.getElem?_eq_none_iff.1 hc0
   repeat' first
    | apply z01
    | exact z13
    | exact z18 rfl
    | (apply z17;rfl;rfl)
    | (apply z34;(iterate 3 rfl))
    | (apply z44;rfl)
    | (apply z62;(iterate 3 rfl);exact List.getElem?_eq_getElem (by omega))
    | (apply z22;rfl;rfl)
    | (apply z06;rfl;rfl)
    | (apply z28;rfl;rfl)
    | (apply z09;rfl;rfl;(assumption);rfl)
    | (apply z03;focus (repeat (first | exact z29 | (apply kq_c;rfl) | (apply z49;rfl))))
    | apply z02
    | apply z00
    | apply z04
    | apply z12
    | apply z19
    | (apply z15;rfl)
    | (with_reducible apply z81;intro hc)
    | (with_reducible apply z60;intro hc)
   · refine zn6 rfl ?_ hq
     simp [q67,hc0]
   · exfalso
     omega
 | some c=>
   have hlt:j<x.src.length:=(List.getElem?_eq_some_iff.1 hc0).1
   have l1:=zg3 (p:=zb0) (s:=x.src) hj
   have l2:=zg3 (p:=symB) (s:=x.src) hj
   repeat' first
    | apply z01
    | exact z13
    | exact z18 rfl
    | (apply z17;rfl;rfl)
    | (apply z34;(iterate 3 rfl))
    | (apply z44;rfl)
    | (apply z16;rfl;(with_reducible rfl);rfl)
    | (apply z14;rfl;(with_reducible rfl);rfl)
    | (apply z62;(iterate 3 rfl);assumption)
    | (apply z22;rfl;rfl)
    | (apply z06;rfl;rfl)
    | (apply z28;rfl;rfl)
    | (apply z09;rfl;rfl;(assumption);rfl)
    | (apply z05 (hc:=zc9 c);rfl;rfl;rfl)
    | (apply z05 (hc:=zh8 c);rfl;rfl;rfl)
    | (apply z25 (hc:=⟨(w55 hH hj hl60).run⟩);rfl;rfl;(exact rfl);rfl;(exact z13);rintro H1 ⟨r1,k1⟩)
    | (apply z25 (hc:=⟨(qh8 hH hj hl60).run⟩);rfl;rfl;(exact rfl);rfl;(exact z13);rintro H1 ⟨r1,k1⟩)
    | (apply z05 (hc:=q41 (z82 zb0 x.src j) (by omega));rfl;rfl;rfl)
    | (apply z05 (hc:=q41 (z82 symB x.src j) (by omega));rfl;rfl;rfl)
    | (apply z05 (hc:=j58 (z82 symB x.src j) (by omega));rfl;rfl;rfl)
    | (apply z03;focus (repeat (first | exact z29 | (apply kq_c;rfl) | (apply z49;rfl))))
    | apply z02
    | apply z00
    | apply z04
    | apply z12
    | apply z19
    | (apply z41;rfl;(with_reducible rfl))
    | (apply z15;rfl)
    | (apply z52;rfl;(with_reducible rfl))
    | (apply z42;rfl;(with_reducible rfl))
    | (apply z40;rfl)
    | (with_reducible apply za1;intro hc)
    | (with_reducible apply z69;intro hc)
    | (with_reducible apply z81;intro hc)
    | (with_reducible apply z60;intro hc)
    | (with_reducible apply zf9;intro hc)
   all_goals first | (exfalso;omega) | skip
   all_goals (refine zn6 rfl ?_ ⟨r1,k1⟩;congr 1;unfold q67;rw [hc0];simp [*]<;>omega)
end Go.Proofs.TryzL
namespace Go.Proofs.TryzL
open Go.Proofs.Lz
set_option maxHeartbeats 4000000
theorem adv {H:z07} {id n:Nat} {x:Sc} (hx:scAt x.src x.pos=x) (hH:ScH id x H) (hn:x.pos+n≤x.src.length) (hl:x.src.length<2^50) :
 Shr Vv 34 [.ptr id 0,.c (.int .i64 n)] H (.tup []) (fun H'=>ScH id (scAt x.src (x.pos+n)) H'∧KpH id H H'):=by
 obtain ⟨H',h,h1,h2⟩:=(ji3 (n:=n) hH (by rw [← hx];exact wc9 _ _) hn hl).run
 refine ⟨H',h,?_,h2⟩
 have:=wn7 (s:=x.src) (i:=x.pos) n hn
 rw [hx] at this
 rw [← this];exact h1
theorem zq9 {H:z07} {id:Nat} {x:Sc} {t:List UInt8} (hH:ScH id x H) (h:t.length≤64):Shr Vv 32 [.ptr id 0,.c (.str t)] H (.c (.bool true)) (fun H'=>ScH id x H'∧KpH id H H'):=by
 obtain ⟨H',h1,h2,h3⟩:=(jh8 hH (t:=t) (by omega)).run
 rw [decide_eq_true h] at h1
 rw [if_pos h] at h2
 exact ⟨H',h1,h2,h3⟩
theorem q06 {H:z07} {id:Nat} {x:Sc} {t:List UInt8} (hH:ScH id x H) (h:¬ t.length≤64) (hl:t.length<2^60):Shr Vv 32 [.ptr id 0,.c (.str t)] H (.c (.bool false)) (fun H'=>ScH id (q61 3 (t.take 64) x) H'∧KpH id H H'):=by
 obtain ⟨H',h1,h2,h3⟩:=(jh8 hH (t:=t) hl).run
 rw [decide_eq_false h] at h1
 rw [if_neg h] at h2
 exact ⟨H',h1,h2,h3⟩
def qu4 (id:Nat) (H:z07) (s:List UInt8) (u:U):z07→Prop:=fun H'=>(∃ y,ScH id y H'∧okU s u y)∧KpH id H H'
theorem qz4 {x:Sc} (hx:scAt x.src x.pos=x) {code:Nat} {nm:List UInt8} (hc:code≠0):zc8 x.src code x.pos nm (q61 code nm x):=by
 have:=j08 x.src x.pos code nm hc
 rwa [hx] at this
theorem name26 {H:z07} {id:Nat} {x:Sc} {c:UInt8} (hx:scAt x.src x.pos=x) (hH:ScH id x H) (hc:x.src[x.pos]?=some c) (hcl:(upperB c||lowerB c)=true) (hl:x.src.length<2^30) :
 Shr Vv 26 [.ptr id 0] H (resU (zx6 x.src x.pos)) (qu4 id H x.src (zx6 x.src x.pos)):=by
 refine zm8 wq5 ?_
 have hlt:x.pos<x.src.length:=(List.getElem?_eq_some_iff.1 hc).1
 have hid:zb0 c=true:=by unfold zb0;rw [hcl];rfl
 have hl50:x.src.length<2^50:=by omega
 have hl60:x.src.length<2^60:=by omega
 have hple:x.pos≤x.src.length:=by omega
 have l1:=zg3 (p:=zb0) (s:=x.src) hple
 have t0:(z82 zb0 x.src x.pos)[0]?=some c:=by rw [qr5 hc hid];rfl
 have hH0:H[id]?=some (.var (some 8) (scC x)):=hH
 have hN:zx6 x.src x.pos=if upperB c=true∧x.src[x.pos+(z82 zb0 x.src x.pos).length]?=some 46∧q67 x.src (x.pos+(z82 zb0 x.src x.pos).length+1)≠[] then zl8 x.pos (z82 zb0 x.src x.pos) (q67 x.src (x.pos+(z82 zb0 x.src x.pos).length+1)) (x.pos+(z82 zb0 x.src x.pos).length+1+(q67 x.src (x.pos+(z82 zb0 x.src x.pos).length+1)).length) else zl8 x.pos [] (z82 zb0 x.src x.pos) (x.pos+(z82 zb0 x.src x.pos).length):=by
  unfold zx6
  simp only [hc,Option.some.injEq,exists_eq_left']
 rw [hN]
 generalize ht:z82 zb0 x.src x.pos=t at *
 have hrun:=w55 hH hple hl60
 rw [ht] at hrun
 by_cases h64:t.length≤64
 · by_cases hdot:upperB c=true∧x.src[x.pos+t.length]?=some 46
   · have hd:=hdot.2
     have hup:=hdot.1
     have hj:x.pos+t.length+1≤x.src.length:=by have:=(List.getElem?_eq_some_iff.1 hd).1;omega
     have l3:=j63 hj
     generalize hq:q67 x.src (x.pos+t.length+1)=q at *
     have hqr:∀ {H1:z07},ScH id x H1→Shr Vv 57 [.ptr id 0,.c (.int .i64 (x.pos+t.length+1:Nat))] H1 (.c (.str q)) (fun H'=>ScH id x H'∧KpH id H1 H'):=fun r=>by
      have:=qx4 (j:=x.pos+t.length+1) r hj hl
      rwa [hq] at this
     by_cases hqn:q=[]
     · rw [if_neg (fun h=>h.2.2 hqn)]
       have hw:zl8 x.pos [] t (x.pos+t.length)=.tok (nmOp t) [] t 0 (x.pos+t.length):=by
        unfold zl8;rw [if_neg (by simp),if_neg (by omega)]
       rw [hw]
       repeat' first
        | apply z01
        | exact z13
        | exact z18 rfl
        | (apply z17;rfl;rfl)
        | (apply z96;rfl;rfl;omega)
        | (apply z34;(iterate 3 rfl))
        | (apply z44;rfl)
        | (apply z93;rfl;rfl)
        | (apply z16;rfl;(with_reducible rfl);rfl)
        | (apply z14;rfl;(with_reducible rfl);rfl)
        | (apply z62;(iterate 3 rfl);assumption)
        | (apply z22;rfl;rfl)
        | (apply z06;rfl;rfl)
        | (apply z28;rfl;rfl)
        | (apply zf7;rfl;rfl;first | exact za2 (by first | exact rfl | assumption | exact z23 (by assumption)) | exact zb6 (by first | exact rfl | assumption | exact z23 (by assumption)))
        | (apply z27;(iterate 4 rfl);exact z30 (by first | exact rfl | assumption | exact z23 (by assumption)))
        | (apply z09;rfl;rfl;(assumption);rfl)
        | (apply z25 (hc:=⟨hrun.run⟩);rfl;rfl;(exact rfl);rfl;(exact z13);rintro H1 ⟨r1,k1⟩)
        | (apply z25 (hc:=⟨(zq9 r1 h64).run⟩);rfl;rfl;(exact rfl);rfl;(exact z13);rintro H1 ⟨r1,k1⟩)
        | (apply z05 (hc:=zc9 c);rfl;rfl;rfl)
        | (apply z05 (hc:=qc6 t (by omega));rfl;rfl;rfl)
        | (apply z25 (hc:=⟨(hqr r1).run⟩);rfl;rfl;(exact rfl);rfl;(exact z13);rintro H1 ⟨r1,k1⟩)
        | (apply z25 (hc:=⟨(adv (n:=t.length) hx r1 l1 hl50).run⟩);rfl;rfl;(exact rfl);rfl;(exact z18 rfl);rintro H1 ⟨r1,k1⟩)
        | (apply z03;focus (repeat (first | exact z29 | (apply kq_c;rfl) | (apply z49;rfl) | (apply z39;rfl))))
        | apply z02
        | apply z00
        | apply z04
        | apply z12
        | apply z19
        | (apply z38;rfl;(with_reducible rfl))
        | (apply z15;rfl)
        | (apply z52;rfl;(with_reducible rfl))
        | (apply z43;rfl;(with_reducible rfl))
        | (apply z40;rfl)
        | with_reducible exact zb1
        | with_reducible apply zb2
        | with_reducible apply z65
        | with_reducible apply z64
        | (with_reducible apply za1;intro hc)
        | (with_reducible apply zx3;intro hc)
        | (with_reducible apply z69;intro hc)
        | (with_reducible apply zk8;intro hc)
        | (with_reducible apply z81;intro hc)
        | (with_reducible apply z60;intro hc)
        | (with_reducible apply zf9;intro hc)
       all_goals first
        | (exfalso;contradiction)
        | (exfalso;omega)
        | (exfalso;simp_all;done)
        | exact zr4 rfl rfl rfl ⟨⟨_,r1,rfl⟩,by repeat (first | assumption | refine KpH.trans ?_ (by assumption))⟩
     · rw [if_pos ⟨hup,hd,hqn⟩]
       by_cases hq64:q.length≤64
       · have hw:zl8 x.pos t q (x.pos+t.length+1+q.length)=.tok (nmOp q) t q 0 (x.pos+t.length+1+q.length):=by
          unfold zl8;rw [if_neg (by omega),if_neg (by omega)]
         rw [hw]
         have e:x.pos+(t.length+1+q.length)=x.pos+t.length+1+q.length:=by omega
         repeat' first
          | apply z01
          | exact z13
          | exact z18 rfl
          | (apply z17;rfl;rfl)
          | (apply z83;(iterate 3 rfl))
          | (apply z96;rfl;rfl;omega)
          | (apply z34;(iterate 3 rfl))
          | (apply z44;rfl)
          | (apply z93;rfl;rfl)
          | (apply z16;rfl;(with_reducible rfl);rfl)
          | (apply z14;rfl;(with_reducible rfl);rfl)
          | (apply z62;(iterate 3 rfl);assumption)
          | (apply za7;rfl;exact q58 rfl)
          | (apply z22;rfl;rfl)
          | (apply z06;rfl;rfl)
          | (apply z28;rfl;rfl)
          | (apply zf7;rfl;rfl;first | exact za2 (by first | exact rfl | assumption | exact z23 (by assumption)) | exact zb6 (by first | exact rfl | assumption | exact z23 (by assumption)))
          | (apply z27;(iterate 4 rfl);exact z30 (by first | exact rfl | assumption | exact z23 (by assumption)))
          | (apply zp6;(iterate 8 rfl);exact qe3 (by first | exact rfl | assumption | exact z23 (by assumption)))
          | (apply z09;rfl;rfl;(assumption);rfl)
          | (apply z25 (hc:=⟨hrun.run⟩);rfl;rfl;(exact rfl);rfl;(exact z13);rintro H1 ⟨r1,k1⟩)
          | (apply z25 (hc:=⟨(zq9 r1 h64).run⟩);rfl;rfl;(exact rfl);rfl;(exact z13);rintro H1 ⟨r1,k1⟩)
          | (apply z25 (hc:=⟨(zq9 r1 hq64).run⟩);rfl;rfl;(exact rfl);rfl;(exact z13);rintro H1 ⟨r1,k1⟩)
          | (apply z05 (hc:=zc9 c);rfl;rfl;rfl)
          | (apply z05 (hc:=qc6 q (by omega));rfl;rfl;rfl)
          | (apply z25 (hc:=⟨(hqr r1).run⟩);rfl;rfl;(exact rfl);rfl;(exact z13);rintro H1 ⟨r1,k1⟩)
          | (apply z25 (hc:=⟨(adv (n:=t.length+1+q.length) hx r1 (by omega) hl50).run⟩);rfl;rfl;(exact rfl);rfl;(exact z18 rfl);rintro H1 ⟨r1,k1⟩)
          | (apply z03;focus (repeat (first | exact z29 | (apply kq_c;rfl) | (apply z49;rfl) | (apply z39;rfl))))
          | apply z02
          | apply z00
          | apply z04
          | apply z12
          | apply z19
          | (apply z38;rfl;(with_reducible rfl))
          | (apply z15;rfl)
          | (apply z52;rfl;(with_reducible rfl))
          | (apply z43;rfl;(with_reducible rfl))
          | (apply z40;rfl)
          | with_reducible exact zb1
          | with_reducible apply zb2
          | with_reducible apply z65
          | with_reducible apply z64
          | (with_reducible apply za1;intro hc)
          | (with_reducible apply zx3;intro hc)
          | (with_reducible apply z69;intro hc)
          | (with_reducible apply zk8;intro hc)
          | (with_reducible apply z81;intro hc)
          | (with_reducible apply z60;intro hc)
          | (with_reducible apply zf9;intro hc)
         all_goals first
          | (exfalso;contradiction)
          | (exfalso;omega)
          | (exfalso;simp_all;done)
          | (rw [e] at r1;exact zr4 rfl rfl rfl ⟨⟨_,r1,rfl⟩,by repeat (first | assumption | refine KpH.trans ?_ (by assumption))⟩)
       · have hw:zl8 x.pos t q (x.pos+t.length+1+q.length)=.bad 3 x.pos (q.take 64):=by
          unfold zl8;rw [if_neg (by omega),if_pos (by omega)]
         rw [hw]
         repeat' first
          | apply z01
          | exact z13
          | exact z18 rfl
          | (apply z17;rfl;rfl)
          | (apply z96;rfl;rfl;omega)
          | (apply z34;(iterate 3 rfl))
          | (apply z44;rfl)
          | (apply z93;rfl;rfl)
          | (apply z16;rfl;(with_reducible rfl);rfl)
          | (apply z14;rfl;(with_reducible rfl);rfl)
          | (apply z62;(iterate 3 rfl);assumption)
          | (apply z61;(iterate 3 rfl))
          | (apply z22;rfl;rfl)
          | (apply z06;rfl;rfl)
          | (apply z28;rfl;rfl)
          | (apply zf7;rfl;rfl;first | exact za2 (by first | exact rfl | assumption | exact z23 (by assumption)) | exact zb6 (by first | exact rfl | assumption | exact z23 (by assumption)))
          | (apply z27;(iterate 4 rfl);exact z30 (by first | exact rfl | assumption | exact z23 (by assumption)))
          | (apply z09;rfl;rfl;(assumption);rfl)
          | (apply z25 (hc:=⟨hrun.run⟩);rfl;rfl;(exact rfl);rfl;(exact z13);rintro H1 ⟨r1,k1⟩)
          | (apply z25 (hc:=⟨(zq9 r1 h64).run⟩);rfl;rfl;(exact rfl);rfl;(exact z13);rintro H1 ⟨r1,k1⟩)
          | (apply z25 (hc:=⟨(q06 r1 hq64 (by omega)).run⟩);rfl;rfl;(exact rfl);rfl;(exact z13);rintro H1 ⟨r1,k1⟩)
          | (apply z05 (hc:=zc9 c);rfl;rfl;rfl)
          | (apply z25 (hc:=⟨(hqr r1).run⟩);rfl;rfl;(exact rfl);rfl;(exact z13);rintro H1 ⟨r1,k1⟩)
          | (apply z03;focus (repeat (first | exact z29 | (apply kq_c;rfl) | (apply z49;rfl) | (apply z39;rfl))))
          | apply z02
          | apply z00
          | apply z04
          | apply z12
          | apply z19
          | (apply z38;rfl;(with_reducible rfl))
          | (apply z15;rfl)
          | (apply z52;rfl;(with_reducible rfl))
          | (apply z43;rfl;(with_reducible rfl))
          | (apply z40;rfl)
          | with_reducible exact zf3
          | with_reducible exact zb1
          | with_reducible apply zb2
          | with_reducible apply zf1
          | with_reducible apply z65
          | with_reducible apply z64
          | (with_reducible apply za1;intro hc)
          | (with_reducible apply zx3;intro hc)
          | (with_reducible apply z69;intro hc)
          | (with_reducible apply zk8;intro hc)
          | (with_reducible apply z81;intro hc)
          | (with_reducible apply z60;intro hc)
          | (with_reducible apply zf9;intro hc)
         all_goals first
          | (exfalso;contradiction)
          | (exfalso;omega)
          | (exfalso;simp_all;done)
          | exact zr4 rfl rfl rfl ⟨⟨_,r1,qz4 hx (by decide)⟩,by repeat (first | assumption | refine KpH.trans ?_ (by assumption))⟩
   · rw [if_neg (fun h=>hdot ⟨h.1,h.2.1⟩)]
     have hw:zl8 x.pos [] t (x.pos+t.length)=.tok (nmOp t) [] t 0 (x.pos+t.length):=by
      unfold zl8;rw [if_neg (by simp),if_neg (by omega)]
     rw [hw]
     have hdot2:upperB c=true→∀ d,x.src[x.pos+t.length]?=some d→d≠46:=fun h d hd e=>hdot ⟨h,by rw [hd,e]⟩
     repeat' first
      | apply z01
      | exact z13
      | exact z18 rfl
      | (apply z17;rfl;rfl)
      | (apply z96;rfl;rfl;omega)
      | (apply z34;(iterate 3 rfl))
      | (apply z44;rfl)
      | (apply z93;rfl;rfl)
      | (apply z16;rfl;(with_reducible rfl);rfl)
      | (apply z14;rfl;(with_reducible rfl);rfl)
      | (apply z62;(iterate 3 rfl);assumption)
      | (apply z62;(iterate 3 rfl);exact List.getElem?_eq_getElem (by omega))
      | (apply z22;rfl;rfl)
      | (apply z06;rfl;rfl)
      | (apply z28;rfl;rfl)
      | (apply zf7;rfl;rfl;first | exact za2 (by first | exact rfl | assumption | exact z23 (by assumption)) | exact zb6 (by first | exact rfl | assumption | exact z23 (by assumption)))
      | (apply z27;(iterate 4 rfl);exact z30 (by first | exact rfl | assumption | exact z23 (by assumption)))
      | (apply z09;rfl;rfl;(assumption);rfl)
      | (apply z25 (hc:=⟨hrun.run⟩);rfl;rfl;(exact rfl);rfl;(exact z13);rintro H1 ⟨r1,k1⟩)
      | (apply z25 (hc:=⟨(zq9 r1 h64).run⟩);rfl;rfl;(exact rfl);rfl;(exact z13);rintro H1 ⟨r1,k1⟩)
      | (apply z05 (hc:=zc9 c);rfl;rfl;rfl)
      | (apply z05 (hc:=qc6 t (by omega));rfl;rfl;rfl)
      | (apply z25 (hc:=⟨(adv (n:=t.length) hx r1 l1 hl50).run⟩);rfl;rfl;(exact rfl);rfl;(exact z18 rfl);rintro H1 ⟨r1,k1⟩)
      | (apply z03;focus (repeat (first | exact z29 | (apply kq_c;rfl) | (apply z49;rfl) | (apply z39;rfl))))
      | apply z02
      | apply z00
      | apply z04
      | apply z12
      | apply z19
      | (apply z38;rfl;(with_reducible rfl))
      | (apply z15;rfl)
      | (apply z52;rfl;(with_reducible rfl))
      | (apply z43;rfl;(with_reducible rfl))
      | (apply z40;rfl)
      | with_reducible exact zb1
      | with_reducible apply zb2
      | with_reducible apply z65
      | with_reducible apply z64
      | (with_reducible apply za1;intro hc)
      | (with_reducible apply z69;intro hc)
      | (with_reducible apply z81;intro hc)
      | (with_reducible apply z60;intro hc)
      | (with_reducible apply zf9;intro hc)
     all_goals first
      | exact zr4 rfl rfl rfl ⟨⟨_,r1,rfl⟩,by repeat (first | assumption | refine KpH.trans ?_ (by assumption))⟩
      | (exfalso;exact hdot2 (by assumption) _ (List.getElem?_eq_getElem (by omega)) (UInt8.toNat_inj.1 (by have h46:(46:UInt8).toNat=46:=rfl;omega)))
 · have hw:∀ q e,zl8 x.pos t q e=.bad 3 x.pos (t.take 64):=by intro q e;unfold zl8;rw [if_pos (by omega)]
   have hw2:∀ e,zl8 x.pos [] t e=.bad 3 x.pos (t.take 64):=by intro e;unfold zl8;rw [if_neg (by simp),if_pos (by omega)]
   rw [hw,hw2,ite_self]
   repeat' first
    | apply z01
    | exact z13
    | exact z18 rfl
    | (apply z17;rfl;rfl)
    | (apply z93;rfl;rfl)
    | (apply z61;(iterate 3 rfl))
    | (apply z22;rfl;rfl)
    | (apply z06;rfl;rfl)
    | (apply z28;rfl;rfl)
    | (apply zf7;rfl;rfl;first | exact za2 (by first | exact rfl | assumption | exact z23 (by assumption)) | exact zb6 (by first | exact rfl | assumption | exact z23 (by assumption)))
    | (apply z27;(iterate 4 rfl);exact z30 (by first | exact rfl | assumption | exact z23 (by assumption)))
    | (apply z09;rfl;rfl;(assumption);rfl)
    | (apply z25 (hc:=⟨hrun.run⟩);rfl;rfl;(exact rfl);rfl;(exact z13);rintro H1 ⟨r1,k1⟩)
    | (apply z25 (hc:=⟨(q06 r1 h64 (by omega)).run⟩);rfl;rfl;(exact rfl);rfl;(exact z13);rintro H1 ⟨r1,k1⟩)
    | (apply z03;focus (repeat (first | exact z29 | (apply z39;rfl))))
    | apply z02
    | apply z00
    | apply z04
    | apply z19
    | (apply z15;rfl)
    | with_reducible exact zf3
    | with_reducible apply zf1
    | with_reducible apply z65
    | with_reducible apply z64
   exact zr4 rfl rfl rfl ⟨⟨_,r1,qz4 hx (by decide)⟩,by repeat (first | assumption | refine KpH.trans ?_ (by assumption))⟩
end Go.Proofs.TryzL
