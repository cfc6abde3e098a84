/- Chapter 02: the lexer's names. -/
import Derived.Test.YtencoceemejcnaaGreatDoorLzT30
import Derived.Test.YtencoceemejcnaaGreatDoorLzT5
set_option linter.unusedSimpArgs false
set_option linter.unusedVariables false
namespace Go.Proofs.TryzL
open Go.Proofs.Lz
set_option maxHeartbeats 4000000
def wp7:Option (WV×z18)→Bool
 | some (.c (.bool b),_)=>b
 | _=>false
theorem jf4 {f:Nat} (n:Nat) (h:wp7 (wF Vv n f [] [])=true):Rets Vv f [] (.c (.bool true)):=by
 cases hw:wF Vv n f [] [] with
 | none=>rw [hw] at h;cases h
 | some p=>
   obtain ⟨v,H⟩:=p
   rw [hw] at h
   have hv:=w40 hw
   cases v with
   | c u=>
     cases u with
     | bool b=>
       have hb:b=true:=h
       subst hb
       exact ⟨_,H,hv,rfl⟩
     | _=>cases h
   | _=>cases h
theorem j08:Rets Vv 10 [] (.c (.bool true)):=jf4 40 (by kernel_rfl)
def qj5 (t:Tok):Bool:=decide (t.text.length≤300)&&decide (t.qual.length≤300)
def fewB (l:List Tok):Bool:=l.all qj5&&decide (l.length≤300)
theorem va5 (l:List Tok) (hl:l.length≤9223372036854775807):Rets Vv 14 [.c (tks l)] (.c (.bool (fewB l))):=by
 refine z67 v54 ?_
 unfold tks
 repeat' first
  | apply z01
  | exact z13
  | (apply z15;rfl;rfl)
  | (apply zb8;rfl)
  | apply z02
  | apply z00
  | apply z03
  | apply z05
 refine zd2 (fun n:Nat=>[(0,.c (.frz (some 7) (l.map tokC))),(5,.c (.frz (some 7) (l.map tokC))),(6,.c (.int .i64 l.length)),(7,.c (.int .i64 n))]) (fun n=>n≤l.length∧(l.take n).all qj5=true) (fun n=>l.length - n) 0 ?_ ⟨Nat.zero_le _,tk0⟩ ?_
 · repeat' first
    | exact z23
    | refine z64 rfl ?_
 rintro n ⟨hn,hall⟩
 by_cases hnl:n<l.length
 · repeat' first
    | apply z01
    | exact z13
    | exact zd4 rfl
    | (apply z15;rfl;rfl)
    | (apply zl1;rfl;rfl)
    | (apply z45;(iterate 3 rfl))
    | (apply z99;rfl;rfl;omega)
    | (apply z30;(iterate 3 rfl))
    | (apply zb8;rfl)
    | (apply z44;rfl)
    | (apply z17;rfl;(with_reducible rfl);rfl)
    | (apply z16;rfl;(with_reducible rfl);rfl)
    | (apply zh8;(iterate 3 rfl);exact List.getElem?_eq_getElem (by omega))
    | (apply z49;rfl;exact zd0 rfl)
    | (apply z88;rfl;rfl;first | exact z65 (by first | exact rfl | assumption | exact z06 (by assumption)) | exact z73 (by first | exact rfl | assumption | exact z06 (by assumption)))
    | (apply z28;(iterate 4 rfl);exact z34 (by first | exact rfl | assumption | exact z06 (by assumption)))
    | (apply z04;focus (repeat (first | exact z23 | (apply kq_c;rfl))))
    | apply z02
    | apply z00
    | apply z03
    | apply z05
    | apply z07
    | apply z09
    | apply z56
    | (apply z35;rfl;(with_reducible rfl))
    | (apply z12;rfl)
    | (apply z47;rfl;(with_reducible rfl))
    | (apply z41;rfl;(with_reducible rfl))
    | (apply z39;rfl)
    | (with_reducible apply z69;intro hc)
    | (with_reducible apply z52;intro hc)
    | (apply z98;rfl)
   any_goals (exfalso;omega)
   · have:fewB l=false:=by unfold fewB;rw [tkF hnl (by unfold qj5;simp;omega)];rfl
     rw [this]
   · have:fewB l=false:=by unfold fewB;rw [tkF hnl (by unfold qj5;simp;omega)];rfl
     rw [this]
   · refine ⟨n+1,?_,rfl,⟨by omega,tkS hnl hall (by unfold qj5;simp;omega)⟩,by omega⟩
     repeat' first
      | exact z23
      | refine z64 rfl ?_
 · have hall:=tkE (by omega) hall
   repeat' first
    | apply z01
    | exact z13
    | exact zd4 rfl
    | (apply z15;rfl;rfl)
    | (apply zl1;rfl;rfl)
    | (apply z45;(iterate 3 rfl))
    | (apply z99;rfl;rfl;omega)
    | (apply z30;(iterate 3 rfl))
    | (apply zb8;rfl)
    | (apply z44;rfl)
    | (apply z17;rfl;(with_reducible rfl);rfl)
    | (apply z16;rfl;(with_reducible rfl);rfl)
    | (apply zh8;(iterate 3 rfl);exact List.getElem?_eq_getElem (by omega))
    | (apply z49;rfl;exact zd0 rfl)
    | (apply z88;rfl;rfl;first | exact z65 (by first | exact rfl | assumption | exact z06 (by assumption)) | exact z73 (by first | exact rfl | assumption | exact z06 (by assumption)))
    | (apply z28;(iterate 4 rfl);exact z34 (by first | exact rfl | assumption | exact z06 (by assumption)))
    | (apply z04;focus (repeat (first | exact z23 | (apply kq_c;rfl))))
    | apply z02
    | apply z00
    | apply z03
    | apply z05
    | apply z07
    | apply z09
    | apply z56
    | (apply z35;rfl;(with_reducible rfl))
    | (apply z12;rfl)
    | (apply z47;rfl;(with_reducible rfl))
    | (apply z41;rfl;(with_reducible rfl))
    | (apply z39;rfl)
    | (with_reducible apply z69;intro hc)
    | (with_reducible apply z52;intro hc)
    | (apply z98;rfl)
   any_goals (exfalso;omega)
   refine cb ?_
   unfold fewB
   rw [hall]
   simp
   omega
structure TokI (t:Tok):Prop where
 n:-9223372036854775808≤t.n∧t.n≤9223372036854775807
 line:-9223372036854775808≤t.line∧t.line≤9223372036854775807
 col:-9223372036854775808≤t.col∧t.col≤9223372036854775807
theorem wb3 {l:List Tok} (hf:fewB l=true) (hk:∀ t∈l,TokI t):l.length≤300∧∀ t∈l,TokOk t:=by
 unfold fewB at hf
 simp only [Bool.and_eq_true,List.all_eq_true,decide_eq_true_eq,qj5] at hf
 exact ⟨hf.2,fun t ht=>⟨by have:=(hf.1 t ht).1;omega,by have:=(hf.1 t ht).2;omega,(hk t ht).n,(hk t ht).line,(hk t ht).col⟩⟩
end Go.Proofs.TryzL
set_option maxRecDepth 100000
namespace Go.Proofs.YtencoceemejcnaaGreatDoor
open Go.ChangeShapes Go.WideShapes Go.ChangeAt Go.RowKit Go.Proofs.Lz
open Go.Proofs.TryzL
abbrev TK:=Go.Proofs.TryzL.Tok
theorem jl9 {m:Int} (h:(Lit.int .i64 m).wf=true):-9223372036854775808≤m∧m≤9223372036854775807:=by
 simpa [Lit.wf,IntKind.min,IntKind.max,IntKind.signed,IntKind.bits] using h
theorem ws9 {n:Nat} {zs:List CV} (h:zp0 Tryz.prog (n+2) 38 zs):∃ t:TK,tokC t=.agg zs∧TokI t:=by
 unfold zp0 at h
 rw [Tryz.underlying38] at h
 simp only [qo8,zp0,Tryz.underlying36,Tryz.underlying9,Tryz.underlying3,Tryz.underlying4] at h
 obtain ⟨_,_,rfl,⟨a,rfl,_⟩,_,_,rfl,⟨b,rfl,_⟩,_,_,rfl,⟨c,rfl,_⟩,_,_,rfl,⟨d,rfl,hd⟩,_,_,rfl,⟨e,rfl⟩,_,_,rfl,⟨f,rfl,hf⟩,_,_,rfl,⟨g,rfl,hg⟩,rfl⟩:=h
 exact ⟨⟨a,b,c,d,e,f,g⟩,rfl,⟨jl9 hd,jl9 hf,jl9 hg⟩⟩
theorem w79 {n:Nat}:∀ (ys:List CV),(∀ y∈ys,∃ zs,zp0 Tryz.prog (n+2) 38 zs∧zs.length=z42 (some 7)∧zc3 (some 7) zs=some y)→∃ l:List TK,ys=l.map tokC∧∀ t∈l,TokI t:=by
 intro ys
 induction ys with
 | nil=>intro _;exact ⟨[],rfl,by simp⟩
 | cons y ys ih=>
   intro h
   obtain ⟨zs,h1,_,h3⟩:=h y (by simp)
   obtain ⟨t,ht,hi⟩:=ws9 h1
   obtain ⟨l,rfl,hl⟩:=ih (fun y hy=>h y (by simp [hy]))
   simp only [zc3,Option.some.injEq] at h3
   exact ⟨t::l,by rw [← h3,← ht];rfl,by intro x hx;rcases List.mem_cons.1 hx with rfl | hx;exact hi;exact hl x hx⟩
theorem v23:Tryz.prog.underlying 23=some (.slice 38):=by kernel_rfl
theorem ek38:ekOf Tryz.prog 38=some (some 7):=by kernel_rfl
theorem ek23:ekOf Tryz.prog 23=some none:=by kernel_rfl
theorem ji7 {zs:List CV} {x:CV} (h2:zp0 Tryz.prog 6 23 zs) (h4:zc3 none zs=some x):∃ l:List TK,x=tks l∧l.length≤9223372036854775807∧∀ t∈l,TokI t:=by
 unfold zp0 at h2
 rw [v23] at h2
 obtain ⟨ek,ys,rfl,hlen,h5,h6⟩:=h2
 rw [ek38] at h5
 injection h5 with h5;subst h5
 obtain ⟨l,rfl,hl⟩:=w79 (n:=3) ys h6
 simp only [zc3,List.getElem?_cons_zero,Option.some.injEq] at h4
 exact ⟨l,by rw [← h4];rfl,by simpa [maxLen] using hlen,hl⟩
theorem jo0 {P:Program} {n:Nat} {t:TypeId} {ts:List TypeId} {xs:List CV} (h:q82 P n (t::ts) xs):∃ x ys,xs=x::ys∧w01 P n t x∧q82 P n ts ys:=by
 cases xs with
 | nil=>exact h.elim
 | cons x ys=>exact ⟨x,ys,rfl,h⟩
theorem w81 {P:Program} {n:Nat} {xs:List CV} (h:q82 P n [] xs):xs=[]:=by
 cases xs with
 | nil=>rfl
 | cons x ys=>exact h.elim
theorem jp1 {P:Program} {n:Nat} {t:TypeId} {x:CV} {e:Option Nat} (he:ekOf P t=some e) (h:w01 P n t x):∃ zs,zp0 P n t zs∧zc3 e zs=some x:=by
 obtain ⟨zs,ek,h1,h2,_,h4⟩:=h
 rw [he] at h1
 injection h1 with h1
 subst h1
 exact ⟨zs,h2,h4⟩
theorem w52 {x:CV} (h:w01 Tryz.prog 6 23 x):∃ l:List TK,x=tks l∧l.length≤9223372036854775807∧∀ t∈l,TokI t:=by
 obtain ⟨zs,h2,h4⟩:=jp1 ek23 h
 exact ji7 h2 h4
end Go.Proofs.YtencoceemejcnaaGreatDoor
namespace Go.Proofs.TryzL
open Go.Proofs.Lz
def plc (s:List UInt8):Nat→Nat×Nat
 | 0=>(1,1)
 | n+1=>match s[n]? with
   | none=>plc s n
   | some c=>if c=10 then ((plc s n).1+1,1) else if c=9 then ((plc s n).1,(plc s n).2+(8 - ((plc s n).2 - 1) % 8)) else ((plc s n).1,(plc s n).2+1)
theorem ww1 (s:List UInt8):∀ n,(plc s n).1≤n+1∧(plc s n).2≤8 * n+1∧1≤(plc s n).2∧1≤(plc s n).1:=by
 intro n
 induction n with
 | zero=>simp [plc]
 | succ n ih=>
   unfold plc
   split
   · omega
   · split
     · simp;omega
     · split
       · simp;omega
       · simp;omega
def scAt (s:List UInt8) (i:Nat):Sc:=⟨s,i,(plc s i).1,(plc s i).2,0,[],0,0⟩
theorem wl7 (s:List UInt8) (i:Nat):ScOk (scAt s i):=by
 obtain ⟨h1,h2,h3,_⟩:=ww1 s i
 exact ⟨h1,h2,h3⟩
theorem wn2 {s:List UInt8} {i:Nat} (h:i<s.length):zm7 (scAt s i)=scAt s (i+1):=by
 unfold zm7 scAt
 simp only [plc,List.getElem?_eq_getElem h]
 split
 · rfl
 · split<;>rfl
theorem wu4 {s:List UInt8} {i:Nat}:∀ n,i+n≤s.length→q27 n (scAt s i)=scAt s (i+n):=by
 intro n
 induction n generalizing i with
 | zero=>intro _;rfl
 | succ n ih=>
   intro h
   show q27 n (zm7 (scAt s i))=_
   rw [wn2 (by omega),ih (by omega)]
   congr 1;omega
inductive U where
 | bad (code at':Nat) (nm:List UInt8)
 | skip (e:Nat)
 | tok (op:Int) (qual text:List UInt8) (n:Int) (e:Nat)
def zf1 (s:List UInt8) (code at':Nat) (nm:List UInt8) (x:Sc):Prop:=x.code=code∧x.name=nm∧x.fl=(plc s at').1∧x.fc=(plc s at').2
def nmOp (t:List UInt8):Int:=if z94 t=5 then 9 else if z94 t=6 then 10 else if z94 t=2 then 2 else if z94 t=1 then 1 else if z94 t=4 then 4 else 3
def zm1 (i:Nat) (q t:List UInt8) (e:Nat):U:=if 64<q.length then .bad 3 i (q.take 64) else if 64<t.length then .bad 3 i (t.take 64) else .tok (nmOp t) q t 0 e
def q45 (s:List UInt8) (j:Nat):List UInt8:=match s[j]? with
 | none=>[]
 | some c=>if upperB c||lowerB c then (if z94 (z87 zb1 s j)=5 then [] else z87 zb1 s j) else if qi3 (z87 symB s j)||decide (z94 (z87 symB s j)=6) then [] else z87 symB s j
def zu2 (s:List UInt8) (i:Nat):U:=
 let t:=z87 zb1 s i
 if (∃ c,s[i]?=some c∧upperB c=true)∧s[i+t.length]?=some 46∧q45 s (i+t.length+1)≠[] then zm1 i t (q45 s (i+t.length+1)) (i+t.length+1+(q45 s (i+t.length+1)).length) else zm1 i [] t (i+t.length)
def numU (s:List UInt8) (i:Nat):U:=match numF (z87 z93 s i) 0 with
 | none=>.bad 6 i []
 | some n=>.tok 5 [] [] n (i+(z87 z93 s i).length)
theorem zi4 {p:UInt8→Bool} {s:List UInt8} {i:Nat} (h:i≤s.length):i+(z87 p s i).length≤s.length:=by
 unfold z87
 have:=(List.takeWhile_prefix p (l:=s.drop i)).length_le
 simp at this
 omega
theorem qs9 {p:UInt8→Bool} {s:List UInt8} {i:Nat} {c:UInt8} (h:s[i]?=some c) (hp:p c=true):z87 p s i=c::z87 p s (i+1):=by
 unfold z87
 obtain ⟨hi,rfl⟩:=List.getElem?_eq_some_iff.1 h
 rw [List.drop_eq_getElem_cons hi,List.takeWhile_cons,if_pos hp]
theorem jb0 {s:List UInt8} {j:Nat} (h:j≤s.length):j+(q45 s j).length≤s.length:=by
 unfold q45
 split
 · simpa using h
 · split
   · split
     · simpa using h
     · exact zi4 h
   · split
     · simpa using h
     · exact zi4 h
def q14:CV:=tokA 0 [] [] 0 false 0 0
def resU:U→WV
 | .tok op q t n _=>.tup [.c (tokA op q t n false 0 0),.c (.bool true)]
 | _=>.tup [.c q14,.c (.bool false)]
def okU (s:List UInt8):U→Sc→Prop
 | .tok _ _ _ _ e,x=>x=scAt s e
 | .bad code a nm,x=>zf1 s code a nm x
 | .skip _,_=>False
def ScH (id:Nat) (x:Sc) (H:z18):Prop:=H[id]?=some (.var (some 8) (scC x))
theorem j26 (s:List UInt8) (i code:Nat) (nm:List UInt8) (hc:code≠0):zf1 s code i nm (q83 code nm (scAt s i)):=by
 unfold q83 scAt zf1
 simp
end Go.Proofs.TryzL
namespace Go.Proofs.TryzL
open Go.Proofs.Lz
set_option maxHeartbeats 4000000
theorem qf1 (t:List UInt8) (hl:t.length<2^31):Rets Vv 33 [.c (.str t)] (.c (tokA (nmOp t) [] t 0 false 0 0)):=by
 refine z67 v83 ?_
 repeat' first
  | apply z01
  | exact z13
  | exact z19 rfl
  | (apply z15;rfl;rfl)
  | (apply z30;(iterate 3 rfl))
  | (apply z78;(iterate 3 rfl))
  | (apply z14;rfl;rfl)
  | (apply z88;rfl;rfl;first | exact z65 (by first | exact rfl | assumption | exact z06 (by assumption)) | exact z73 (by first | exact rfl | assumption | exact z06 (by assumption)))
  | (apply z28;(iterate 4 rfl);exact z34 (by first | exact rfl | assumption | exact z06 (by assumption)))
  | (apply z22;rfl;rfl;(assumption);rfl)
  | (apply za8;(iterate 4 rfl);(first | assumption | exact rfl);rfl;rfl;intro H1 hH1 kH1)
  | (apply ju1;rfl;rfl)
  | (apply z08 (hc:=z91 t hl);rfl;rfl;rfl)
  | (apply z04;focus (repeat (first | exact z23 | (apply kq_c;rfl) | (apply z50;rfl) | (apply z38;rfl))))
  | apply z02
  | apply z00
  | apply z03
  | apply z05
  | apply z09
  | (apply z12;rfl)
  | (with_reducible apply za1;intro hc;try (exfalso;omega))
  | (with_reducible apply z71;intro hc;try (exfalso;omega))
  | (apply v27;rfl)
 all_goals (unfold nmOp tokA;repeat (first | rw [if_pos (by omega)] | rw [if_neg (by omega)]))
theorem wc6 {H:z18} {id j:Nat} {x:Sc} (hH:ScH id x H) (hj:j≤x.src.length) (hl:x.src.length<2^60):Shr Vv 31 [.ptr id 0,.c (.int .i64 j),.c (.fn 56 [] [])] H (.c (.str (z87 zb1 x.src j))) (fun H'=>ScH id x H'∧KpH id H H'):=by
 obtain ⟨H',h,rfl⟩:=(wn8 hH hj hl).run
 exact ⟨_,h,hH,fun _ _ _ h=>h⟩
theorem qk6 {H:z18} {id j:Nat} {x:Sc} (hH:ScH id x H) (hj:j≤x.src.length) (hl:x.src.length<2^60):Shr Vv 31 [.ptr id 0,.c (.int .i64 j),.c (.fn 30 [] [])] H (.c (.str (z87 symB x.src j))) (fun H'=>ScH id x H'∧KpH id H H'):=by
 obtain ⟨H',h,rfl⟩:=(wr3 hH hj hl).run
 exact ⟨_,h,hH,fun _ _ _ h=>h⟩
theorem wu3 {H:z18} {id j:Nat} {x:Sc} (hH:ScH id x H) (hj:j≤x.src.length) (hl:x.src.length<2^60):Shr Vv 31 [.ptr id 0,.c (.int .i64 j),.c (.fn 27 [] [])] H (.c (.str (z87 z93 x.src j))) (fun H'=>ScH id x H'∧KpH id H H'):=by
 obtain ⟨H',h,rfl⟩:=(wl1 hH hj hl).run
 exact ⟨_,h,hH,fun _ _ _ h=>h⟩
theorem j13 {H:z18} {id:Nat} {x:Sc} {j:Nat} (hH:ScH id x H) (hj:j≤x.src.length) (hl:x.src.length<2^30) :
 Shr Vv 57 [.ptr id 0,.c (.int .i64 j)] H (.c (.str (q45 x.src j))) (fun H'=>ScH id x H'∧KpH id H H'):=by
 refine zh9 v55 ?_
 have hq:ScH id x H∧KpH id H H:=⟨hH,fun _ _ _ h=>h⟩
 have hH:H[id]?=some (.var (some 8) (scC x)):=hH
 have hl60:x.src.length<2^60:=by omega
 cases hc0:x.src[j]? with
 | none=>
   have hlen:x.src.length≤j:=List.getElem?_eq_none_iff.1 hc0
   repeat' first
    | apply z01
    | exact z13
    | exact z19 rfl
    | (apply z15;rfl;rfl)
    | (apply z30;(iterate 3 rfl))
    | (apply z44;rfl)
    | (apply z68;(iterate 3 rfl);exact List.getElem?_eq_getElem (by omega))
    | (apply z24;rfl;rfl)
    | (apply z14;rfl;rfl)
    | (apply z29;rfl;rfl)
    | (apply z22;rfl;rfl;(assumption);rfl)
    | (apply z04;focus (repeat (first | exact z23 | (apply kq_c;rfl) | (apply z50;rfl))))
    | apply z02
    | apply z00
    | apply z03
    | apply z07
    | apply z09
    | (apply z12;rfl)
    | (with_reducible apply z69;intro hc)
    | (with_reducible apply z52;intro hc)
   · refine zk0 rfl ?_ hq
     simp [q45,hc0]
   · exfalso
     omega
 | some c=>
   have hlt:j<x.src.length:=(List.getElem?_eq_some_iff.1 hc0).1
   have l1:=zi4 (p:=zb1) (s:=x.src) hj
   have l2:=zi4 (p:=symB) (s:=x.src) hj
   repeat' first
    | apply z01
    | exact z13
    | exact z19 rfl
    | (apply z15;rfl;rfl)
    | (apply z30;(iterate 3 rfl))
    | (apply z44;rfl)
    | (apply z17;rfl;(with_reducible rfl);rfl)
    | (apply z16;rfl;(with_reducible rfl);rfl)
    | (apply z68;(iterate 3 rfl);assumption)
    | (apply z24;rfl;rfl)
    | (apply z14;rfl;rfl)
    | (apply z29;rfl;rfl)
    | (apply z22;rfl;rfl;(assumption);rfl)
    | (apply z08 (hc:=zf0 c);rfl;rfl;rfl)
    | (apply z08 (hc:=zj1 c);rfl;rfl;rfl)
    | (apply z27 (hc:=⟨(wc6 hH hj hl60).run⟩);rfl;rfl;(exact rfl);rfl;(exact z13);rintro H1 ⟨r1,k1⟩)
    | (apply z27 (hc:=⟨(qk6 hH hj hl60).run⟩);rfl;rfl;(exact rfl);rfl;(exact z13);rintro H1 ⟨r1,k1⟩)
    | (apply z08 (hc:=z91 (z87 zb1 x.src j) (by omega));rfl;rfl;rfl)
    | (apply z08 (hc:=z91 (z87 symB x.src j) (by omega));rfl;rfl;rfl)
    | (apply z08 (hc:=jb2 (z87 symB x.src j) (by omega));rfl;rfl;rfl)
    | (apply z04;focus (repeat (first | exact z23 | (apply kq_c;rfl) | (apply z50;rfl))))
    | apply z02
    | apply z00
    | apply z03
    | apply z07
    | apply z09
    | (apply z35;rfl;(with_reducible rfl))
    | (apply z12;rfl)
    | (apply z47;rfl;(with_reducible rfl))
    | (apply z41;rfl;(with_reducible rfl))
    | (apply z39;rfl)
    | (with_reducible apply za1;intro hc)
    | (with_reducible apply z71;intro hc)
    | (with_reducible apply z69;intro hc)
    | (with_reducible apply z52;intro hc)
    | (with_reducible apply zh6;intro hc)
   all_goals first | (exfalso;omega) | skip
   all_goals (refine zk0 rfl ?_ ⟨r1,k1⟩;congr 1;unfold q45;rw [hc0];simp [*]<;>omega)
end Go.Proofs.TryzL
namespace Go.Proofs.TryzL
open Go.Proofs.Lz
set_option maxHeartbeats 4000000
theorem adv {H:z18} {id n:Nat} {x:Sc} (hx:scAt x.src x.pos=x) (hH:ScH id x H) (hn:x.pos+n≤x.src.length) (hl:x.src.length<2^50) :
 Shr Vv 34 [.ptr id 0,.c (.int .i64 n)] H (.tup []) (fun H'=>ScH id (scAt x.src (x.pos+n)) H'∧KpH id H H'):=by
 obtain ⟨H',h,h1,h2⟩:=(jv6 (n:=n) hH (by rw [← hx];exact wl7 _ _) hn hl).run
 refine ⟨H',h,?_,h2⟩
 have:=wu4 (s:=x.src) (i:=x.pos) n hn
 rw [hx] at this
 rw [← this];exact h1
theorem zr7 {H:z18} {id:Nat} {x:Sc} {t:List UInt8} (hH:ScH id x H) (h:t.length≤64):Shr Vv 32 [.ptr id 0,.c (.str t)] H (.c (.bool true)) (fun H'=>ScH id x H'∧KpH id H H'):=by
 obtain ⟨H',h1,h2,h3⟩:=(jq5 hH (t:=t) (by omega)).run
 rw [decide_eq_true h] at h1
 rw [if_pos h] at h2
 exact ⟨H',h1,h2,h3⟩
theorem q28 {H:z18} {id:Nat} {x:Sc} {t:List UInt8} (hH:ScH id x H) (h:¬ t.length≤64) (hl:t.length<2^60):Shr Vv 32 [.ptr id 0,.c (.str t)] H (.c (.bool false)) (fun H'=>ScH id (q83 3 (t.take 64) x) H'∧KpH id H H'):=by
 obtain ⟨H',h1,h2,h3⟩:=(jq5 hH (t:=t) hl).run
 rw [decide_eq_false h] at h1
 rw [if_neg h] at h2
 exact ⟨H',h1,h2,h3⟩
def j07 (id:Nat) (H:z18) (s:List UInt8) (u:U):z18→Prop:=fun H'=>(∃ y,ScH id y H'∧okU s u y)∧KpH id H H'
theorem j69 {x:Sc} (hx:scAt x.src x.pos=x) {code:Nat} {nm:List UInt8} (hc:code≠0):zf1 x.src code x.pos nm (q83 code nm x):=by
 have:=j26 x.src x.pos code nm hc
 rwa [hx] at this
theorem name26 {H:z18} {id:Nat} {x:Sc} {c:UInt8} (hx:scAt x.src x.pos=x) (hH:ScH id x H) (hc:x.src[x.pos]?=some c) (hcl:(upperB c||lowerB c)=true) (hl:x.src.length<2^30) :
 Shr Vv 26 [.ptr id 0] H (resU (zu2 x.src x.pos)) (j07 id H x.src (zu2 x.src x.pos)):=by
 refine zh9 v86 ?_
 have hlt:x.pos<x.src.length:=(List.getElem?_eq_some_iff.1 hc).1
 have hid:zb1 c=true:=by unfold zb1;rw [hcl];rfl
 have hl50:x.src.length<2^50:=by omega
 have hl60:x.src.length<2^60:=by omega
 have hple:x.pos≤x.src.length:=by omega
 have l1:=zi4 (p:=zb1) (s:=x.src) hple
 have t0:(z87 zb1 x.src x.pos)[0]?=some c:=by rw [qs9 hc hid];rfl
 have hH0:H[id]?=some (.var (some 8) (scC x)):=hH
 have hN:zu2 x.src x.pos=if upperB c=true∧x.src[x.pos+(z87 zb1 x.src x.pos).length]?=some 46∧q45 x.src (x.pos+(z87 zb1 x.src x.pos).length+1)≠[] then zm1 x.pos (z87 zb1 x.src x.pos) (q45 x.src (x.pos+(z87 zb1 x.src x.pos).length+1)) (x.pos+(z87 zb1 x.src x.pos).length+1+(q45 x.src (x.pos+(z87 zb1 x.src x.pos).length+1)).length) else zm1 x.pos [] (z87 zb1 x.src x.pos) (x.pos+(z87 zb1 x.src x.pos).length):=by
  unfold zu2
  simp only [hc,Option.some.injEq,exists_eq_left']
 rw [hN]
 generalize ht:z87 zb1 x.src x.pos=t at *
 have hrun:=wc6 hH hple hl60
 rw [ht] at hrun
 by_cases h64:t.length≤64
 · by_cases hdot:upperB c=true∧x.src[x.pos+t.length]?=some 46
   · have hd:=hdot.2
     have hup:=hdot.1
     have hj:x.pos+t.length+1≤x.src.length:=by have:=(List.getElem?_eq_some_iff.1 hd).1;omega
     have l3:=jb0 hj
     generalize hq:q45 x.src (x.pos+t.length+1)=q at *
     have hqr:∀ {H1:z18},ScH id x H1→Shr Vv 57 [.ptr id 0,.c (.int .i64 (x.pos+t.length+1:Nat))] H1 (.c (.str q)) (fun H'=>ScH id x H'∧KpH id H1 H'):=fun r=>by
      have:=j13 (j:=x.pos+t.length+1) r hj hl
      rwa [hq] at this
     by_cases hqn:q=[]
     · rw [if_neg (fun h=>h.2.2 hqn)]
       have hw:zm1 x.pos [] t (x.pos+t.length)=.tok (nmOp t) [] t 0 (x.pos+t.length):=by
        unfold zm1;rw [if_neg (by simp),if_neg (by omega)]
       rw [hw]
       repeat' first
        | apply z01
        | exact z13
        | exact z19 rfl
        | (apply z15;rfl;rfl)
        | (apply z99;rfl;rfl;omega)
        | (apply z30;(iterate 3 rfl))
        | (apply z44;rfl)
        | (apply z84;rfl;rfl)
        | (apply z17;rfl;(with_reducible rfl);rfl)
        | (apply z16;rfl;(with_reducible rfl);rfl)
        | (apply z68;(iterate 3 rfl);assumption)
        | (apply z24;rfl;rfl)
        | (apply z14;rfl;rfl)
        | (apply z29;rfl;rfl)
        | (apply z88;rfl;rfl;first | exact z65 (by first | exact rfl | assumption | exact z06 (by assumption)) | exact z73 (by first | exact rfl | assumption | exact z06 (by assumption)))
        | (apply z28;(iterate 4 rfl);exact z34 (by first | exact rfl | assumption | exact z06 (by assumption)))
        | (apply z22;rfl;rfl;(assumption);rfl)
        | (apply z27 (hc:=⟨hrun.run⟩);rfl;rfl;(exact rfl);rfl;(exact z13);rintro H1 ⟨r1,k1⟩)
        | (apply z27 (hc:=⟨(zr7 r1 h64).run⟩);rfl;rfl;(exact rfl);rfl;(exact z13);rintro H1 ⟨r1,k1⟩)
        | (apply z08 (hc:=zf0 c);rfl;rfl;rfl)
        | (apply z08 (hc:=qf1 t (by omega));rfl;rfl;rfl)
        | (apply z27 (hc:=⟨(hqr r1).run⟩);rfl;rfl;(exact rfl);rfl;(exact z13);rintro H1 ⟨r1,k1⟩)
        | (apply z27 (hc:=⟨(adv (n:=t.length) hx r1 l1 hl50).run⟩);rfl;rfl;(exact rfl);rfl;(exact z19 rfl);rintro H1 ⟨r1,k1⟩)
        | (apply z04;focus (repeat (first | exact z23 | (apply kq_c;rfl) | (apply z50;rfl) | (apply z38;rfl))))
        | apply z02
        | apply z00
        | apply z03
        | apply z07
        | apply z09
        | (apply z32;rfl;(with_reducible rfl))
        | (apply z12;rfl)
        | (apply z47;rfl;(with_reducible rfl))
        | (apply z43;rfl;(with_reducible rfl))
        | (apply z39;rfl)
        | with_reducible exact zb5
        | with_reducible apply zb4
        | with_reducible apply z57
        | with_reducible apply z58
        | (with_reducible apply za1;intro hc)
        | (with_reducible apply zh3;intro hc)
        | (with_reducible apply z71;intro hc)
        | (with_reducible apply zb2;intro hc)
        | (with_reducible apply z69;intro hc)
        | (with_reducible apply z52;intro hc)
        | (with_reducible apply zh6;intro hc)
       all_goals first
        | (exfalso;contradiction)
        | (exfalso;omega)
        | (exfalso;simp_all;done)
        | exact zt5 rfl rfl rfl ⟨⟨_,r1,rfl⟩,by repeat (first | assumption | refine KpH.trans ?_ (by assumption))⟩
     · rw [if_pos ⟨hup,hd,hqn⟩]
       by_cases hq64:q.length≤64
       · have hw:zm1 x.pos t q (x.pos+t.length+1+q.length)=.tok (nmOp q) t q 0 (x.pos+t.length+1+q.length):=by
          unfold zm1;rw [if_neg (by omega),if_neg (by omega)]
         rw [hw]
         have e:x.pos+(t.length+1+q.length)=x.pos+t.length+1+q.length:=by omega
         repeat' first
          | apply z01
          | exact z13
          | exact z19 rfl
          | (apply z15;rfl;rfl)
          | (apply z45;(iterate 3 rfl))
          | (apply z99;rfl;rfl;omega)
          | (apply z30;(iterate 3 rfl))
          | (apply z44;rfl)
          | (apply z84;rfl;rfl)
          | (apply z17;rfl;(with_reducible rfl);rfl)
          | (apply z16;rfl;(with_reducible rfl);rfl)
          | (apply z68;(iterate 3 rfl);assumption)
          | (apply z49;rfl;exact zd0 rfl)
          | (apply z24;rfl;rfl)
          | (apply z14;rfl;rfl)
          | (apply z29;rfl;rfl)
          | (apply z88;rfl;rfl;first | exact z65 (by first | exact rfl | assumption | exact z06 (by assumption)) | exact z73 (by first | exact rfl | assumption | exact z06 (by assumption)))
          | (apply z28;(iterate 4 rfl);exact z34 (by first | exact rfl | assumption | exact z06 (by assumption)))
          | (apply zs1;(iterate 8 rfl);exact qe2 (by first | exact rfl | assumption | exact z06 (by assumption)))
          | (apply z22;rfl;rfl;(assumption);rfl)
          | (apply z27 (hc:=⟨hrun.run⟩);rfl;rfl;(exact rfl);rfl;(exact z13);rintro H1 ⟨r1,k1⟩)
          | (apply z27 (hc:=⟨(zr7 r1 h64).run⟩);rfl;rfl;(exact rfl);rfl;(exact z13);rintro H1 ⟨r1,k1⟩)
          | (apply z27 (hc:=⟨(zr7 r1 hq64).run⟩);rfl;rfl;(exact rfl);rfl;(exact z13);rintro H1 ⟨r1,k1⟩)
          | (apply z08 (hc:=zf0 c);rfl;rfl;rfl)
          | (apply z08 (hc:=qf1 q (by omega));rfl;rfl;rfl)
          | (apply z27 (hc:=⟨(hqr r1).run⟩);rfl;rfl;(exact rfl);rfl;(exact z13);rintro H1 ⟨r1,k1⟩)
          | (apply z27 (hc:=⟨(adv (n:=t.length+1+q.length) hx r1 (by omega) hl50).run⟩);rfl;rfl;(exact rfl);rfl;(exact z19 rfl);rintro H1 ⟨r1,k1⟩)
          | (apply z04;focus (repeat (first | exact z23 | (apply kq_c;rfl) | (apply z50;rfl) | (apply z38;rfl))))
          | apply z02
          | apply z00
          | apply z03
          | apply z07
          | apply z09
          | (apply z32;rfl;(with_reducible rfl))
          | (apply z12;rfl)
          | (apply z47;rfl;(with_reducible rfl))
          | (apply z43;rfl;(with_reducible rfl))
          | (apply z39;rfl)
          | with_reducible exact zb5
          | with_reducible apply zb4
          | with_reducible apply z57
          | with_reducible apply z58
          | (with_reducible apply za1;intro hc)
          | (with_reducible apply zh3;intro hc)
          | (with_reducible apply z71;intro hc)
          | (with_reducible apply zb2;intro hc)
          | (with_reducible apply z69;intro hc)
          | (with_reducible apply z52;intro hc)
          | (with_reducible apply zh6;intro hc)
         all_goals first
          | (exfalso;contradiction)
          | (exfalso;omega)
          | (exfalso;simp_all;done)
          | (rw [e] at r1;exact zt5 rfl rfl rfl ⟨⟨_,r1,rfl⟩,by repeat (first | assumption | refine KpH.trans ?_ (by assumption))⟩)
       · have hw:zm1 x.pos t q (x.pos+t.length+1+q.length)=.bad 3 x.pos (q.take 64):=by
          unfold zm1;rw [if_neg (by omega),if_pos (by omega)]
         rw [hw]
         repeat' first
          | apply z01
          | exact z13
          | exact z19 rfl
          | (apply z15;rfl;rfl)
          | (apply z99;rfl;rfl;omega)
          | (apply z30;(iterate 3 rfl))
          | (apply z44;rfl)
          | (apply z84;rfl;rfl)
          | (apply z17;rfl;(with_reducible rfl);rfl)
          | (apply z16;rfl;(with_reducible rfl);rfl)
          | (apply z68;(iterate 3 rfl);assumption)
          | (apply z78;(iterate 3 rfl))
          | (apply z24;rfl;rfl)
          | (apply z14;rfl;rfl)
          | (apply z29;rfl;rfl)
          | (apply z88;rfl;rfl;first | exact z65 (by first | exact rfl | assumption | exact z06 (by assumption)) | exact z73 (by first | exact rfl | assumption | exact z06 (by assumption)))
          | (apply z28;(iterate 4 rfl);exact z34 (by first | exact rfl | assumption | exact z06 (by assumption)))
          | (apply z22;rfl;rfl;(assumption);rfl)
          | (apply z27 (hc:=⟨hrun.run⟩);rfl;rfl;(exact rfl);rfl;(exact z13);rintro H1 ⟨r1,k1⟩)
          | (apply z27 (hc:=⟨(zr7 r1 h64).run⟩);rfl;rfl;(exact rfl);rfl;(exact z13);rintro H1 ⟨r1,k1⟩)
          | (apply z27 (hc:=⟨(q28 r1 hq64 (by omega)).run⟩);rfl;rfl;(exact rfl);rfl;(exact z13);rintro H1 ⟨r1,k1⟩)
          | (apply z08 (hc:=zf0 c);rfl;rfl;rfl)
          | (apply z27 (hc:=⟨(hqr r1).run⟩);rfl;rfl;(exact rfl);rfl;(exact z13);rintro H1 ⟨r1,k1⟩)
          | (apply z04;focus (repeat (first | exact z23 | (apply kq_c;rfl) | (apply z50;rfl) | (apply z38;rfl))))
          | apply z02
          | apply z00
          | apply z03
          | apply z07
          | apply z09
          | (apply z32;rfl;(with_reducible rfl))
          | (apply z12;rfl)
          | (apply z47;rfl;(with_reducible rfl))
          | (apply z43;rfl;(with_reducible rfl))
          | (apply z39;rfl)
          | with_reducible exact ze7
          | with_reducible exact zb5
          | with_reducible apply zb4
          | with_reducible apply ze2
          | with_reducible apply z57
          | with_reducible apply z58
          | (with_reducible apply za1;intro hc)
          | (with_reducible apply zh3;intro hc)
          | (with_reducible apply z71;intro hc)
          | (with_reducible apply zb2;intro hc)
          | (with_reducible apply z69;intro hc)
          | (with_reducible apply z52;intro hc)
          | (with_reducible apply zh6;intro hc)
         all_goals first
          | (exfalso;contradiction)
          | (exfalso;omega)
          | (exfalso;simp_all;done)
          | exact zt5 rfl rfl rfl ⟨⟨_,r1,j69 hx (by decide)⟩,by repeat (first | assumption | refine KpH.trans ?_ (by assumption))⟩
   · rw [if_neg (fun h=>hdot ⟨h.1,h.2.1⟩)]
     have hw:zm1 x.pos [] t (x.pos+t.length)=.tok (nmOp t) [] t 0 (x.pos+t.length):=by
      unfold zm1;rw [if_neg (by simp),if_neg (by omega)]
     rw [hw]
     have hdot2:upperB c=true→∀ d,x.src[x.pos+t.length]?=some d→d≠46:=fun h d hd e=>hdot ⟨h,by rw [hd,e]⟩
     repeat' first
      | apply z01
      | exact z13
      | exact z19 rfl
      | (apply z15;rfl;rfl)
      | (apply z99;rfl;rfl;omega)
      | (apply z30;(iterate 3 rfl))
      | (apply z44;rfl)
      | (apply z84;rfl;rfl)
      | (apply z17;rfl;(with_reducible rfl);rfl)
      | (apply z16;rfl;(with_reducible rfl);rfl)
      | (apply z68;(iterate 3 rfl);assumption)
      | (apply z68;(iterate 3 rfl);exact List.getElem?_eq_getElem (by omega))
      | (apply z24;rfl;rfl)
      | (apply z14;rfl;rfl)
      | (apply z29;rfl;rfl)
      | (apply z88;rfl;rfl;first | exact z65 (by first | exact rfl | assumption | exact z06 (by assumption)) | exact z73 (by first | exact rfl | assumption | exact z06 (by assumption)))
      | (apply z28;(iterate 4 rfl);exact z34 (by first | exact rfl | assumption | exact z06 (by assumption)))
      | (apply z22;rfl;rfl;(assumption);rfl)
      | (apply z27 (hc:=⟨hrun.run⟩);rfl;rfl;(exact rfl);rfl;(exact z13);rintro H1 ⟨r1,k1⟩)
      | (apply z27 (hc:=⟨(zr7 r1 h64).run⟩);rfl;rfl;(exact rfl);rfl;(exact z13);rintro H1 ⟨r1,k1⟩)
      | (apply z08 (hc:=zf0 c);rfl;rfl;rfl)
      | (apply z08 (hc:=qf1 t (by omega));rfl;rfl;rfl)
      | (apply z27 (hc:=⟨(adv (n:=t.length) hx r1 l1 hl50).run⟩);rfl;rfl;(exact rfl);rfl;(exact z19 rfl);rintro H1 ⟨r1,k1⟩)
      | (apply z04;focus (repeat (first | exact z23 | (apply kq_c;rfl) | (apply z50;rfl) | (apply z38;rfl))))
      | apply z02
      | apply z00
      | apply z03
      | apply z07
      | apply z09
      | (apply z32;rfl;(with_reducible rfl))
      | (apply z12;rfl)
      | (apply z47;rfl;(with_reducible rfl))
      | (apply z43;rfl;(with_reducible rfl))
      | (apply z39;rfl)
      | with_reducible exact zb5
      | with_reducible apply zb4
      | with_reducible apply z57
      | with_reducible apply z58
      | (with_reducible apply za1;intro hc)
      | (with_reducible apply z71;intro hc)
      | (with_reducible apply z69;intro hc)
      | (with_reducible apply z52;intro hc)
      | (with_reducible apply zh6;intro hc)
     all_goals first
      | exact zt5 rfl rfl rfl ⟨⟨_,r1,rfl⟩,by repeat (first | assumption | refine KpH.trans ?_ (by assumption))⟩
      | (exfalso;exact hdot2 (by assumption) _ (List.getElem?_eq_getElem (by omega)) (UInt8.toNat_inj.1 (by have h46:(46:UInt8).toNat=46:=rfl;omega)))
 · have hw:∀ q e,zm1 x.pos t q e=.bad 3 x.pos (t.take 64):=by intro q e;unfold zm1;rw [if_pos (by omega)]
   have hw2:∀ e,zm1 x.pos [] t e=.bad 3 x.pos (t.take 64):=by intro e;unfold zm1;rw [if_neg (by simp),if_pos (by omega)]
   rw [hw,hw2,ite_self]
   repeat' first
    | apply z01
    | exact z13
    | exact z19 rfl
    | (apply z15;rfl;rfl)
    | (apply z84;rfl;rfl)
    | (apply z78;(iterate 3 rfl))
    | (apply z24;rfl;rfl)
    | (apply z14;rfl;rfl)
    | (apply z29;rfl;rfl)
    | (apply z88;rfl;rfl;first | exact z65 (by first | exact rfl | assumption | exact z06 (by assumption)) | exact z73 (by first | exact rfl | assumption | exact z06 (by assumption)))
    | (apply z28;(iterate 4 rfl);exact z34 (by first | exact rfl | assumption | exact z06 (by assumption)))
    | (apply z22;rfl;rfl;(assumption);rfl)
    | (apply z27 (hc:=⟨hrun.run⟩);rfl;rfl;(exact rfl);rfl;(exact z13);rintro H1 ⟨r1,k1⟩)
    | (apply z27 (hc:=⟨(q28 r1 h64 (by omega)).run⟩);rfl;rfl;(exact rfl);rfl;(exact z13);rintro H1 ⟨r1,k1⟩)
    | (apply z04;focus (repeat (first | exact z23 | (apply z38;rfl))))
    | apply z02
    | apply z00
    | apply z03
    | apply z09
    | (apply z12;rfl)
    | with_reducible exact ze7
    | with_reducible apply ze2
    | with_reducible apply z57
    | with_reducible apply z58
   exact zt5 rfl rfl rfl ⟨⟨_,r1,j69 hx (by decide)⟩,by repeat (first | assumption | refine KpH.trans ?_ (by assumption))⟩
end Go.Proofs.TryzL
