/- Chapter 02: names. -/
import Derived.Test.YtencoceemejcnaaGreatDoorLzT24
import Derived.Test.YtencoceemejcnaaGreatDoorLzT5
set_option linter.unusedSimpArgs false
set_option linter.unusedVariables false
namespace Go.Proofs.TryzL
open Go.Proofs.Lz
set_option maxHeartbeats 4000000
end Go.Proofs.TryzL
namespace Go.Proofs.TryzL
open Go.Proofs.Lz
set_option maxHeartbeats 4000000
end Go.Proofs.TryzL
namespace Go.Proofs.Lz
section
variable {V:WEnv} {fr fr':WFr} {H H':q9} {N:f4} {dst:Option Nat}
theorem qY {n a b:Nat} {u v:CV} {r:WV} {Q:q9->Prop} (h1:fr.env a=.c u) (h2:fr.env b=.c v) (hr:r=.tup [.c u,.c v]) (h:Q H):wX n [.tmp a,.tmp b] r Q fr H:=by
 subst hr;refine ⟨[.c u,.c v],.tup [.c u,.c v],H,?_,?_,rfl,h⟩
 . simp only [J4,h1,h2];rfl
 . rfl
theorem Z7 {n a b:Nat} {ek:Option Nat} {u v:CV} {r:WV} {Q:q9->Prop} (h1:fr.env a=.lbox ek (.c u)) (h2:fr.env b=.c v) (hr:r=.tup [.c u,.c v]) (h:Q H):wX n [.cell a ek,.tmp b] r Q fr H:=by
 subst hr;refine ⟨[.c u,.c v],.tup [.c u,.c v],H,?_,?_,rfl,h⟩
 . simp only [J4,h1,h2,if_true];rfl
 . rfl
end
end Go.Proofs.Lz
namespace Go.Proofs.TryzL
open Go.Proofs.Lz
end Go.Proofs.TryzL
namespace Go.Proofs.TryzL
open Go.Proofs.Lz
set_option maxHeartbeats 4000000
structure TokOk (t:Tok):Prop where
 text:t.text.length<2^20
 qual:t.qual.length<2^20
 n:-9223372036854775808<=t.n/\t.n<=9223372036854775807
 line:-9223372036854775808<=t.line/\t.line<=9223372036854775807
 col:-9223372036854775808<=t.col/\t.col<=9223372036854775807
def lQ (t:Tok):List UInt8:=textS t.op t.qual t.text t.n
structure RS where
 out:List UInt8
 line:Nat
 col:Nat
 first:Bool
def nlK (t:Tok) (s:RS):Nat:=min 200 (t.line - s.line).toNat
def rnl (t:Tok) (s:RS):RS:=if nlK t s=0 then s else ⟨s.out++List.replicate (nlK t s) 10,s.line+nlK t s,1,true⟩
def rsp (t:Tok) (s:RS):RS:=if (s.col:Int)<t.col/\t.col<=1000 then { s with out:=s.out++Lib.repeatL [32] (t.col - s.col).toNat,col:=t.col.toNat } else if s.first then s else { s with out:=s.out++[32],col:=s.col+1 }
def rtx (t:Tok) (s:RS):RS:=⟨s.out++lQ t,s.line,s.col+(lQ t).length,false⟩
def za0 (t:Tok) (s:RS):RS:=rtx t (rsp t (rnl t s))
def rend:List Tok->RS->Option (List UInt8)
 | [],s=>some s.out
 | t::ts,s=>if 65536<(za0 t s).out.length then none else rend ts (za0 t s)
structure RsOk (s:RS):Prop where
 out:s.out.length<=65536
 col:s.col<=1000+s.out.length
 line:s.line<=9223372036854775807
end Go.Proofs.TryzL
namespace Go.Proofs.TryzL
open Go.Proofs.Lz
set_option maxHeartbeats 4000000
theorem KpH.trans {id:Nat} {H H1 H2:q9} (h:KpH id H H1) (k:KpH id H1 H2):KpH id H H2:=fun i o hi ho=>k i o hi (h i o hi ho)
end Go.Proofs.TryzL
namespace Go.Proofs.TryzL
open Go.Proofs.Lz
set_option maxHeartbeats 4000000
end Go.Proofs.TryzL
namespace Go.Proofs.TryzL
open Go.Proofs.Lz
set_option maxHeartbeats 4000000
end Go.Proofs.TryzL
namespace Go.Proofs.TryzL
open Go.Proofs.Lz
set_option maxHeartbeats 4000000
def qa8:Option (WV×q9)->Bool
 | some (.c (.bool b),_)=>b
 | _=>false
theorem qn3 {f:Nat} (n:Nat) (h:qa8 (wF Vv n f [] [])=true):Rets Vv f [] (.c (.bool true)):=by
 cases hw:wF Vv n f [] [] with
 | none=>rw [hw] at h;cases h
 | some p=>
   obtain ⟨v,H⟩:=p;rw [hw] at h;have hv:=mY hw;cases v with
   | c u=>
     cases u with
     | bool b=>
       have hb:b=true:=h;subst hb;exact ⟨_,H,hv,rfl⟩
     | _=>cases h
   | _=>cases h
theorem cU:Rets Vv 10 [] (.c (.bool true)):=qn3 40 (by kernel_rfl)
structure TokI (t:Tok):Prop where
 n:-9223372036854775808<=t.n/\t.n<=9223372036854775807
 line:-9223372036854775808<=t.line/\t.line<=9223372036854775807
 col:-9223372036854775808<=t.col/\t.col<=9223372036854775807
end Go.Proofs.TryzL
set_option maxRecDepth 100000
namespace Go.Proofs.YtencoceemejcnaaGreatDoor
open Go.ChangeShapes Go.WideShapes Go.ChangeAt Go.RowKit Go.Proofs.Lz
open Go.Proofs.TryzL
theorem zr1 {P:Program} {n:Nat} {t:TypeId} {ts:List TypeId} {xs:List CV} (h:jX P n (t::ts) xs):∃ x ys,xs=x::ys/\gB P n t x/\jX P n ts ys:=by
 cases xs with
 | nil=>exact h.elim
 | cons x ys=>exact ⟨x,ys,rfl,h⟩
theorem jd2 {P:Program} {n:Nat} {xs:List CV} (h:jX P n [] xs):xs=[]:=by
 cases xs with
 | nil=>rfl
 | cons x ys=>exact h.elim
theorem qw0 {P:Program} {n:Nat} {t:TypeId} {x:CV} {e:Option Nat} (he:A0 P t=some e) (h:gB P n t x):∃ zs,qR P n t zs/\J1 e zs=some x:=by
 obtain ⟨zs,ek,h1,h2,_,h4⟩:=h;rw [he] at h1;injection h1 with h1;subst h1;exact ⟨zs,h2,h4⟩
theorem ek9:A0 Tryz.prog 9=some none:=by kernel_rfl
theorem qa4 {zs:List CV} {x:CV} (h2:qR Tryz.prog 6 9 zs) (h4:J1 none zs=some x):∃ s:List UInt8,x=.str s/\s.length<=9223372036854775807:=by
 unfold qR at h2;rw [Tryz.underlying9] at h2;obtain ⟨s,rfl,hs⟩:=h2;simp only [J1,List.getElem?_cons_zero,Option.some.injEq] at h4;exact ⟨s,h4.symm,by simpa [maxLen] using hs⟩
theorem qu5 {x:CV} (h:gB Tryz.prog 6 9 x):∃ s:List UInt8,x=.str s/\s.length<=9223372036854775807:=by
 obtain ⟨zs,h2,h4⟩:=qw0 ek9 h;exact qa4 h2 h4
end Go.Proofs.YtencoceemejcnaaGreatDoor
namespace Go.Proofs.TryzL
open Go.Proofs.Lz
def plc (s:List UInt8):Nat->Nat×Nat
 | 0=>(1,1)
 | n+1=>match s[n]? with
   | none=>plc s n
   | some c=>if c=10 then ((plc s n).1+1,1) else if c=9 then ((plc s n).1,(plc s n).2+(8 - ((plc s n).2 - 1) % 8)) else ((plc s n).1,(plc s n).2+1)
theorem tC (s:List UInt8):∀ n,(plc s n).1<=n+1/\(plc s n).2<=8 * n+1/\1<=(plc s n).2/\1<=(plc s n).1:=by
 intro n;induction n with
 | zero=>simp [plc]
 | succ n ih=>
   unfold plc;split
   . omega
   . split
     . simp;omega
     . split
       . simp;omega
       . simp;omega
def j5 (s:List UInt8) (i:Nat):Sc:=⟨s,i,(plc s i).1,(plc s i).2,0,[],0,0⟩
theorem zt0 (s:List UInt8) (i:Nat):ScOk (j5 s i):=by
 obtain ⟨h1,h2,h3,_⟩:=tC s i;exact ⟨h1,h2,h3⟩
theorem zw1 {s:List UInt8} {i:Nat} (h:i<s.length):S3 (j5 s i)=j5 s (i+1):=by
 unfold S3 j5;simp only [plc,gEg h];split
 . rfl
 . split<;>rfl
theorem qf0 {s:List UInt8} {i:Nat}:∀ n,i+n<=s.length->V8 n (j5 s i)=j5 s (i+n):=by
 intro n;induction n generalizing i with
 | zero=>intro _;rfl
 | succ n ih=>
   intro h;show V8 n (S3 (j5 s i))=_;rw [zw1 (by omega),ih (by omega)];congr 1;omega
inductive U where
 | bad (code at':Nat) (nm:List UInt8)
 | skip (e:Nat)
 | tok (op:Int) (qual text:List UInt8) (n:Int) (e:Nat)
def O6 (s:List UInt8) (code at':Nat) (nm:List UInt8) (x:Sc):Prop:=x.code=code/\x.name=nm/\x.fl=(plc s at').1/\x.fc=(plc s at').2
def Z6 (t:List UInt8):Int:=if C4 t=5 then 9 else if C4 t=6 then 10 else if C4 t=2 then 2 else if C4 t=1 then 1 else if C4 t=4 then 4 else 3
def l9 (i:Nat) (q t:List UInt8) (e:Nat):U:=if 64<q.length then .bad 3 i (q.take 64) else if 64<t.length then .bad 3 i (t.take 64) else .tok (Z6 t) q t 0 e
def O5 (s:List UInt8) (j:Nat):List UInt8:=match s[j]? with
 | none=>[]
 | some c=>if upperB c||lowerB c then (if C4 (x9 a8 s j)=5 then [] else x9 a8 s j) else if K9 (x9 u6 s j)||decide (C4 (x9 u6 s j)=6) then [] else x9 u6 s j
def J7 (s:List UInt8) (i:Nat):U:=
 let t:=x9 a8 s i
 if (∃ c,s[i]?=some c/\upperB c=true)/\s[i+t.length]?=some 46/\O5 s (i+t.length+1)≠[] then l9 i t (O5 s (i+t.length+1)) (i+t.length+1+(O5 s (i+t.length+1)).length) else l9 i [] t (i+t.length)
def J6 (s:List UInt8) (i:Nat):U:=match G8 (x9 t7 s i) 0 with
 | none=>.bad 6 i []
 | some n=>.tok 5 [] [] n (i+(x9 t7 s i).length)
theorem Y2 {p:UInt8->Bool} {s:List UInt8} {i:Nat} (h:i<=s.length):i+(x9 p s i).length<=s.length:=by
 unfold x9;have:=(List.takeWhile_prefix p (l:=s.drop i)).length_le;simp at this;omega
theorem eW {p:UInt8->Bool} {s:List UInt8} {i:Nat} {c:UInt8} (h:s[i]?=some c) (hp:p c=true):x9 p s i=c::x9 p s (i+1):=by
 unfold x9;obtain ⟨hi,rfl⟩:=gEs h;rw [List.drop_eq_getElem_cons hi,List.takeWhile_cons,if_pos hp]
theorem zk0 {s:List UInt8} {j:Nat} (h:j<=s.length):j+(O5 s j).length<=s.length:=by
 unfold O5;split
 . simpa using h
 . split
   . split
     . simpa using h
     . exact Y2 h
   . split
     . simpa using h
     . exact Y2 h
def T8:CV:=pZ 0 [] [] 0 false 0 0
def vV:U->WV
 | .tok op q t n _=>.tup [.c (pZ op q t n false 0 0),.c (.bool true)]
 | _=>.tup [.c T8,.c (.bool false)]
def okU (s:List UInt8):U->Sc->Prop
 | .tok _ _ _ _ e,x=>x=j5 s e
 | .bad code a nm,x=>O6 s code a nm x
 | .skip _,_=>False
def ScH (id:Nat) (x:Sc) (H:q9):Prop:=H[id]?=some (.var (some 8) (scC x))
theorem rF (s:List UInt8) (i code:Nat) (nm:List UInt8) (hc:code≠0):O6 s code i nm (wO code nm (j5 s i)):=by
 unfold wO j5 O6;simp
end Go.Proofs.TryzL
namespace Go.Proofs.TryzL
open Go.Proofs.Lz
set_option maxHeartbeats 4000000
def unC:U->CV
 | .bad code p nm=>.agg [.int .i64 0,.str [],.str [],.int .i64 0,.bool false,.int .i64 0,.int .i64 0,.int .i64 0,.int .i64 code,.int .i64 p,.str nm]
 | .skip e=>.agg [.int .i64 0,.str [],.str [],.int .i64 0,.bool false,.int .i64 0,.int .i64 0,.int .i64 e,.int .i64 0,.int .i64 0,.str []]
 | .tok op q t n e=>.agg [.int .i64 op,.str q,.str t,.int .i64 n,.bool false,.int .i64 0,.int .i64 0,.int .i64 e,.int .i64 0,.int .i64 0,.str []]
theorem jA (code p:Nat) (nm:List UInt8):Rets Vv 76 [.c (.int .i64 code),.c (.int .i64 p),.c (.str nm)] (.c (unC (.bad code p nm))):=by
 refine m7 jd6 ?_;repeat' first|apply j2|exact q7|(apply j7;rfl;rfl)|(apply l6;rfl;rfl;rfl)|(apply m8;rfl;rfl;first | exact c6 (by first | exact rfl | assumption | exact j0 (by assumption)) | exact m9 (by first | exact rfl | assumption | exact j0 (by assumption)))|(apply u1;rfl;rfl;rfl;rfl;exact u4 (by first | exact rfl | assumption | exact j0 (by assumption)))|apply j1|apply j3|apply j4|apply w9|(apply c8;rfl)
 all_goals rfl
theorem je4 (n:Nat) (h:n<2^60):IntKind.i64.wrap ((n:Int).tdiv 8)=(n:Int) / 8:=by
 rw [Int.tdiv_eq_ediv_of_nonneg (by omega)];exact wrap64 (by omega)
theorem cM (s:List UInt8) (p:Nat) (hp:p<=s.length) (hl:s.length<2^30):Rets Vv 39 [.c (.str s),.c (.int .i64 p)] (.tup [.c (.int .i64 (plc s p).1),.c (.int .i64 (plc s p).2)]):=by
 refine m7 qm2 ?_;repeat' first|apply j2|exact q7|(apply j7;rfl;rfl)|apply j1|apply j3|apply j4|apply x3
 refine I0 (fun p':Nat×Nat×Nat=>[(0,.c (.str s)),(1,.c (.int .i64 p)),(6,.c (.int .i64 p'.2.1)),(7,.c (.int .i64 p'.2.2)),(8,.c (.int .i64 p'.1))]) (fun p'=>p'.1<=p/\plc s p'.1=p'.2) (fun p'=>p - p'.1) (0,1,1) ?_ ⟨Nat.zero_le _,rfl⟩ ?_
 . repeat' first|exact q8|refine d5 rfl ?_
 rintro ⟨n,l,c⟩ ⟨hn,hlc⟩;dsimp only at hn hlc;dsimp only;obtain ⟨h1,h2,h3,h4⟩:=tC s n;rw [hlc] at h1 h2 h3 h4;dsimp only at h1 h2 h3 h4;by_cases hnp:n<p
 . have hns:n<s.length:=by omega
   have hS:plc s (n+1)=if s[n]=10 then (l+1,1) else if s[n]=9 then (l,c+(8 - (c - 1) % 8)) else (l,c+1):=by
    simp only [plc,gEg hns,hlc]
   generalize hg:s[n]=b at hS;have hgb:s[n]?=some b:=by rw [gEg hns,hg]
   have e10:((b.toNat:Int)=10)↔b=10:=D7 (n:=10) (by decide);have e9:((b.toNat:Int)=9)↔b=9:=D7 (n:=9) (by decide);have hq:IntKind.i64.wrap (((c:Int) - 1).tdiv 8)=((c:Int) - 1) / 8:=by
    have:=je4 (c - 1) (by omega);rwa [show ((c - 1:Nat):Int)=(c:Int) - 1 by omega] at this
   repeat' first|apply j2|exact q7|(apply j7;rfl;rfl)|(apply b6;rfl;rfl;omega)|(apply I9;rfl;rfl;omega)|(apply Y6;rfl;rfl;omega)|(apply j9;rfl;rfl;rfl)|(apply x7;rfl;rfl;rfl;assumption)|(apply w8;focus (repeat (first | exact q8 | (apply v6;rfl))))|apply j1|apply j3|apply j4|apply x3|apply v8|apply w9|apply l0|(apply v7;rfl)|(with_reducible (first|apply u7|apply g8|apply x6|apply x5);intro hc)|(apply V1;(exact ShI.c rfl);(exact ShI.c rfl);(exact by decide))
   any_goals (exfalso;omega)
   . refine ⟨(n+1,l+1,1),?_,rfl,⟨by dsimp only;omega,by dsimp only;rw [hS,if_pos (e10.1 (by assumption))]⟩,by dsimp only;omega⟩;repeat' first|exact q8|refine d5 rfl ?_
   . refine ⟨(n+1,l,c+(8 - (c - 1) % 8)),?_,rfl,⟨by dsimp only;omega,by dsimp only;rw [hS,if_neg (fun e=>by have:=e10.2 e;contradiction),if_pos (e9.1 (by assumption))]⟩,by dsimp only;omega⟩;have e4:(IntKind.i64.wrap (((c:Int) - 1).tdiv 8) * 8+9:Int)=((c+(8 - (c - 1) % 8):Nat):Int):=by rw [hq];omega
     repeat' first|exact q8|refine d5 rfl ?_|refine d5 ?_ ?_
     all_goals (show WV.c (CV.int .i64 (IntKind.i64.wrap (((c:Int) - 1).tdiv 8) * 8+9))=_;rw [e4])
   . refine ⟨(n+1,l,c+1),?_,rfl,⟨by dsimp only;omega,by dsimp only;rw [hS,if_neg (fun e=>by have:=e10.2 e;contradiction),if_neg (fun e=>by have:=e9.2 e;contradiction)]⟩,by dsimp only;omega⟩;repeat' first|exact q8|refine d5 rfl ?_
 . repeat' first|apply j2|exact q7|(apply j7;rfl;rfl)|(apply b6;rfl;rfl;omega)|(apply I9;rfl;rfl;omega)|(apply Y6;rfl;rfl;omega)|(apply j9;rfl;rfl;rfl)|(apply x7;rfl;rfl;rfl;exact gEg (by omega))|(apply w8;focus (repeat (first | exact q8 | (apply v6;rfl))))|apply j1|apply j3|apply j4|apply x3|apply v8|apply w9|apply l0|(apply v7;rfl)|(with_reducible (first|apply u7|apply g8|apply x6|apply x5);intro hc)|(apply V1;(exact ShI.c rfl);(exact ShI.c rfl);(exact by decide))
   any_goals (exfalso;omega)
   rw [show p=n by omega,hlc]
theorem tJ (s:List UInt8) (p code:Nat) (nm:List UInt8) (hp:p<=s.length) (hl:s.length<2^30):Rets Vv 38 [.c (.str s),.c (.int .i64 p),.c (.int .i64 code),.c (.str nm)] (.c (.agg [.int .i64 code,.str nm,.int .i64 (plc s p).1,.int .i64 (plc s p).2])):=by
 refine m7 j47 ?_;repeat' first|apply j2|exact q7|exact j8 rfl|(apply j7;rfl;rfl)|(apply l6;rfl;rfl;rfl)|(apply A9;rfl;rfl;rfl)|(apply m8;rfl;rfl;first | exact c6 (by first | exact rfl | assumption | exact j0 (by assumption)) | exact m9 (by first | exact rfl | assumption | exact j0 (by assumption)))|(apply u1;rfl;rfl;rfl;rfl;exact u4 (by first | exact rfl | assumption | exact j0 (by assumption)))|(apply A7;rfl;rfl)|(apply q6 (hc:=cM s p hp hl);rfl;rfl;rfl)|apply j1|apply j3|apply j4|apply w9|(apply c8;rfl)
 all_goals rfl
theorem z02 {p:UInt8->Bool} {s:List UInt8} {n:Nat} (h:n<s.length) (hp:p s[n]=true):(x9 p s n).length=(x9 p s (n+1)).length+1:=by
 unfold x9;rw [List.drop_eq_getElem_cons h,List.takeWhile_cons_of_pos hp];rfl
theorem oK {p:UInt8->Bool} {s:List UInt8} {n:Nat} (h:n<s.length) (hp:p s[n]=false):(x9 p s n).length=0:=by
 unfold x9;rw [List.drop_eq_getElem_cons h,List.takeWhile_cons_of_neg (by simp [hp])];rfl
theorem zl6 {p:UInt8->Bool} {s:List UInt8} {n:Nat} (h:s.length<=n):(x9 p s n).length=0:=by
 unfold x9;rw [List.drop_of_length_le h];rfl
theorem zl1 (s:List UInt8) (i:Nat) (hi:i<=s.length) (hl:s.length<2^30):Rets Vv 95 [.c (.str s),.c (.int .i64 i)] (.c (.int .i64 (i+(x9 a8 s i).length:Nat))):=by
 refine m7 zr6 ?_;repeat' first|apply j2|exact q7|(apply j7;rfl;rfl)|apply j1|apply j3|apply j4|apply x3
 refine I0 (fun n:Nat=>[(0,.c (.str s)),(1,.c (.int .i64 n))]) (fun n=>n<=s.length/\n+(x9 a8 s n).length=i+(x9 a8 s i).length) (fun n=>s.length - n) i ?_ ⟨hi,rfl⟩ ?_
 . repeat' first|exact q8|refine d5 rfl ?_
 rintro n ⟨hn,he⟩;by_cases hns:n<s.length
 . have h120:=jg3 s[n];cases hd:a8 s[n] with
   | false=>
     rw [hd] at h120;have:=oK hns hd;repeat' first|apply j2|exact q7|exact j8 rfl|(apply j7;rfl;rfl)|(apply j9;rfl;rfl;rfl)|(apply u5;rfl)|(apply y9;rfl;(with_reducible rfl);rfl)|(apply y0;rfl;(with_reducible rfl);rfl)|(apply x7;rfl;rfl;rfl;exact gEg (by omega))|(apply q6 (hc:=h120);rfl;rfl;rfl)|(apply w8;focus (repeat (first | exact q8 | (apply v6;rfl))))|apply j1|apply j3|apply j4|apply w9|apply l0|(apply g9;rfl;(with_reducible rfl))|(apply x8;rfl;(with_reducible rfl))|(apply b9;rfl;(with_reducible rfl))|(apply y7;rfl)|(with_reducible (first|apply x6|apply x5);intro hc)|(apply s7;rfl)
     any_goals (exfalso;omega)
     rw [show n=i+(x9 a8 s i).length by omega]
   | true=>
     rw [hd] at h120;have:=z02 hns hd;repeat' first|apply j2|exact q7|exact j8 rfl|(apply j7;rfl;rfl)|(apply b6;rfl;rfl;omega)|(apply j9;rfl;rfl;rfl)|(apply u5;rfl)|(apply y9;rfl;(with_reducible rfl);rfl)|(apply y0;rfl;(with_reducible rfl);rfl)|(apply x7;rfl;rfl;rfl;exact gEg (by omega))|(apply q6 (hc:=h120);rfl;rfl;rfl)|(apply w8;focus (repeat (first | exact q8 | (apply v6;rfl))))|apply j1|apply j3|apply j4|apply x3|apply v8|apply w9|apply l0|(apply m5;rfl;(with_reducible rfl))|(apply g9;rfl;(with_reducible rfl))|(apply x8;rfl;(with_reducible rfl))|(apply b9;rfl;(with_reducible rfl))|(apply y7;rfl)|(with_reducible (first|apply x6|apply x5);intro hc)|(apply s7;rfl)
     any_goals (exfalso;omega)
     refine ⟨n+1,?_,rfl,⟨by omega,by omega⟩,by omega⟩;repeat' first|exact q8|refine d5 rfl ?_
 . have:=zl6 (p:=a8) (s:=s) (n:=n) (by omega);repeat' first|apply j2|exact q7|exact j8 rfl|(apply j7;rfl;rfl)|(apply j9;rfl;rfl;rfl)|(apply u5;rfl)|(apply y0;rfl;(with_reducible rfl);rfl)|(apply x7;rfl;rfl;rfl;exact gEg (by omega))|(apply w8;focus (repeat (first | exact q8 | (apply v6;rfl))))|apply j1|apply j3|apply j4|apply w9|apply l0|(apply g9;rfl;(with_reducible rfl))|(apply x8;rfl;(with_reducible rfl))|(apply b9;rfl;(with_reducible rfl))|(apply y7;rfl)|(with_reducible (first|apply x6|apply x5);intro hc)|(apply s7;rfl)
   any_goals (exfalso;omega)
   rw [show n=i+(x9 a8 s i).length by omega]
theorem zc6 (s:List UInt8) (i:Nat) (hi:i<=s.length) (hl:s.length<2^30):Rets Vv 67 [.c (.str s),.c (.int .i64 i)] (.c (.int .i64 (i+(x9 u6 s i).length:Nat))):=by
 refine m7 j91 ?_;repeat' first|apply j2|exact q7|(apply j7;rfl;rfl)|apply j1|apply j3|apply j4|apply x3
 refine I0 (fun n:Nat=>[(0,.c (.str s)),(1,.c (.int .i64 n))]) (fun n=>n<=s.length/\n+(x9 u6 s n).length=i+(x9 u6 s i).length) (fun n=>s.length - n) i ?_ ⟨hi,rfl⟩ ?_
 . repeat' first|exact q8|refine d5 rfl ?_
 rintro n ⟨hn,he⟩;by_cases hns:n<s.length
 . have h66:=V5 s[n];cases hd:u6 s[n] with
   | false=>
     rw [hd] at h66;have:=oK hns hd;repeat' first|apply j2|exact q7|exact j8 rfl|(apply j7;rfl;rfl)|(apply j9;rfl;rfl;rfl)|(apply u5;rfl)|(apply y9;rfl;(with_reducible rfl);rfl)|(apply y0;rfl;(with_reducible rfl);rfl)|(apply x7;rfl;rfl;rfl;exact gEg (by omega))|(apply q6 (hc:=h66);rfl;rfl;rfl)|(apply w8;focus (repeat (first | exact q8 | (apply v6;rfl))))|apply j1|apply j3|apply j4|apply w9|apply l0|(apply g9;rfl;(with_reducible rfl))|(apply x8;rfl;(with_reducible rfl))|(apply b9;rfl;(with_reducible rfl))|(apply y7;rfl)|(with_reducible (first|apply x6|apply x5);intro hc)|(apply s7;rfl)
     any_goals (exfalso;omega)
     rw [show n=i+(x9 u6 s i).length by omega]
   | true=>
     rw [hd] at h66;have:=z02 hns hd;repeat' first|apply j2|exact q7|exact j8 rfl|(apply j7;rfl;rfl)|(apply b6;rfl;rfl;omega)|(apply j9;rfl;rfl;rfl)|(apply u5;rfl)|(apply y9;rfl;(with_reducible rfl);rfl)|(apply y0;rfl;(with_reducible rfl);rfl)|(apply x7;rfl;rfl;rfl;exact gEg (by omega))|(apply q6 (hc:=h66);rfl;rfl;rfl)|(apply w8;focus (repeat (first | exact q8 | (apply v6;rfl))))|apply j1|apply j3|apply j4|apply x3|apply v8|apply w9|apply l0|(apply m5;rfl;(with_reducible rfl))|(apply g9;rfl;(with_reducible rfl))|(apply x8;rfl;(with_reducible rfl))|(apply b9;rfl;(with_reducible rfl))|(apply y7;rfl)|(with_reducible (first|apply x6|apply x5);intro hc)|(apply s7;rfl)
     any_goals (exfalso;omega)
     refine ⟨n+1,?_,rfl,⟨by omega,by omega⟩,by omega⟩;repeat' first|exact q8|refine d5 rfl ?_
 . have:=zl6 (p:=u6) (s:=s) (n:=n) (by omega);repeat' first|apply j2|exact q7|exact j8 rfl|(apply j7;rfl;rfl)|(apply j9;rfl;rfl;rfl)|(apply u5;rfl)|(apply y0;rfl;(with_reducible rfl);rfl)|(apply x7;rfl;rfl;rfl;exact gEg (by omega))|(apply w8;focus (repeat (first | exact q8 | (apply v6;rfl))))|apply j1|apply j3|apply j4|apply w9|apply l0|(apply g9;rfl;(with_reducible rfl))|(apply x8;rfl;(with_reducible rfl))|(apply b9;rfl;(with_reducible rfl))|(apply y7;rfl)|(with_reducible (first|apply x6|apply x5);intro hc)|(apply s7;rfl)
   any_goals (exfalso;omega)
   rw [show n=i+(x9 u6 s i).length by omega]
theorem zd0 (t:List UInt8) (hl:t.length<2^30):Rets Vv 68 [.c (.str t)] (.c (.bool (K9 t))):=by
 refine m7 qm8 ?_;repeat' first|apply j2|exact q7|(apply j7;rfl;rfl)|apply j1|apply j3|apply j4|apply x3
 refine I0 (fun n:Nat=>[(0,.c (.str t)),(3,.c (.int .i64 n))]) (fun n=>n<=t.length/\(t.take n).all (·==45)=true) (fun n=>t.length - n) 0 ?_ ⟨Nat.zero_le _,tk0⟩ ?_
 . repeat' first|exact q8|refine d5 rfl ?_
 rintro n ⟨hn,hall⟩;by_cases hns:n<t.length
 . have e45:((t[n].toNat:Int)=45)↔t[n]=45:=D7 (n:=45) (by decide);repeat' first|apply j2|exact q7|(apply j7;rfl;rfl)|(apply b6;rfl;rfl;omega)|(apply j9;rfl;rfl;rfl)|(apply u5;rfl)|(apply x7;rfl;rfl;rfl;exact gEg (by omega))|(apply w8;focus (repeat (first | exact q8 | (apply v6;rfl))))|apply j1|apply j3|apply j4|apply x3|apply v8|apply w9|apply l0|(apply v7;rfl)|(with_reducible (first|apply f5|apply f6|apply x6|apply x5);intro hc)|(apply s7;rfl)
   any_goals (exfalso;omega)
   . have h45:(t[n]==45)=false:=by rw [beq_eq_false_iff_ne];intro e;have:=e45.2 e;contradiction
     have:K9 t=false:=by unfold K9;rw [tkF hns h45];simp
     rw [this]
   . refine ⟨n+1,?_,rfl,⟨by omega,tkS hns hall (by rw [beq_iff_eq];exact e45.1 (by omega))⟩,by omega⟩;repeat' first|exact q8|refine d5 rfl ?_
 . have hall:=tkE (by omega) hall;repeat' first|apply j2|exact q7|(apply j7;rfl;rfl)|(apply b6;rfl;rfl;omega)|(apply j9;rfl;rfl;rfl)|(apply u5;rfl)|(apply x7;rfl;rfl;rfl;exact gEg (by omega))|(apply w8;focus (repeat (first | exact q8 | (apply v6;rfl))))|apply j1|apply j3|apply j4|apply x3|apply v8|apply w9|apply l0|(apply v7;rfl)|(with_reducible (first|apply f5|apply f6|apply x6|apply x5);intro hc)|(apply s7;rfl)
   any_goals (exfalso;omega)
   refine cb ?_;unfold K9;rw [hall];simp;omega
end Go.Proofs.TryzL
namespace Go.Proofs.TryzL
open Go.Proofs.Lz
set_option maxHeartbeats 4000000
theorem gQ (t:List UInt8) (hl:t.length<2^31):Rets Vv 33 [.c (.str t)] (.c (pZ (Z6 t) [] t 0 false 0 0)):=by
 refine m7 qg0 ?_;repeat' first|apply j2|exact q7|exact j8 rfl|(apply j7;rfl;rfl)|(apply j9;rfl;rfl;rfl)|(apply l6;rfl;rfl;rfl)|(apply s9;rfl;rfl)|(apply m8;rfl;rfl;first | exact c6 (by first | exact rfl | assumption | exact j0 (by assumption)) | exact m9 (by first | exact rfl | assumption | exact j0 (by assumption)))|(apply u1;rfl;rfl;rfl;rfl;exact u4 (by first | exact rfl | assumption | exact j0 (by assumption)))|(apply t8;rfl;rfl;(assumption);rfl)|(apply Q6;rfl;rfl;rfl;rfl;(first | assumption | exact rfl);rfl;rfl;intro H1 hH1 kH1)|(apply vE;rfl;rfl)|(apply q6 (hc:=cJ t hl);rfl;rfl;rfl)|(apply w8;focus (repeat (first | exact q8 | (apply v6;rfl) | (apply d6;rfl) | (apply y6;rfl))))|apply j1|apply j3|apply j4|apply x3|apply w9|(apply v7;rfl)|(with_reducible apply u7;intro hc;try (exfalso;omega))|(with_reducible apply g8;intro hc;try (exfalso;omega))|(apply c8;rfl)
 all_goals (unfold Z6 pZ;repeat (first | rw [if_pos (by omega)] | rw [if_neg (by omega)]))
theorem oH {H:q9} {id j:Nat} {x:Sc} (hH:ScH id x H) (hj:j<=x.src.length) (hl:x.src.length<2^60):Shr Vv 31 [.ptr id 0,.c (.int .i64 j),.c (.fn 56 [] [])] H (.c (.str (x9 a8 x.src j))) (fun H'=>ScH id x H'/\KpH id H H'):=by
 obtain ⟨H',h,rfl⟩:=(j85 hH hj hl).run;exact ⟨_,h,hH,fun _ _ _ h=>h⟩
theorem uB {H:q9} {id j:Nat} {x:Sc} (hH:ScH id x H) (hj:j<=x.src.length) (hl:x.src.length<2^60):Shr Vv 31 [.ptr id 0,.c (.int .i64 j),.c (.fn 30 [] [])] H (.c (.str (x9 u6 x.src j))) (fun H'=>ScH id x H'/\KpH id H H'):=by
 obtain ⟨H',h,rfl⟩:=(q68 hH hj hl).run;exact ⟨_,h,hH,fun _ _ _ h=>h⟩
theorem qq4 {H:q9} {id j:Nat} {x:Sc} (hH:ScH id x H) (hj:j<=x.src.length) (hl:x.src.length<2^60):Shr Vv 31 [.ptr id 0,.c (.int .i64 j),.c (.fn 27 [] [])] H (.c (.str (x9 t7 x.src j))) (fun H'=>ScH id x H'/\KpH id H H'):=by
 obtain ⟨H',h,rfl⟩:=(q10 hH hj hl).run;exact ⟨_,h,hH,fun _ _ _ h=>h⟩
theorem qk0 {H:q9} {id:Nat} {x:Sc} {j:Nat} (hH:ScH id x H) (hj:j<=x.src.length) (hl:x.src.length<2^30) :
 Shr Vv 57 [.ptr id 0,.c (.int .i64 j)] H (.c (.str (O5 x.src j))) (fun H'=>ScH id x H'/\KpH id H H'):=by
 refine V7 zy2 ?_;have hq:ScH id x H/\KpH id H H:=⟨hH,fun _ _ _ h=>h⟩;have hH:H[id]?=some (.var (some 8) (scC x)):=hH;have hl60:x.src.length<2^60:=by omega
 cases hc0:x.src[j]? with
 | none=>
   have hlen:x.src.length<=j:=List.getElem?_eq_none_iff.1 hc0;repeat' first|apply j2|exact q7|exact j8 rfl|(apply j7;rfl;rfl)|(apply j9;rfl;rfl;rfl)|(apply u5;rfl)|(apply x7;rfl;rfl;rfl;exact gEg (by omega))|(apply m6;rfl;rfl)|(apply s9;rfl;rfl)|(apply l5;rfl;rfl)|(apply t8;rfl;rfl;(assumption);rfl)|(apply w8;focus (repeat (first | exact q8 | (apply v6;rfl) | (apply d6;rfl))))|apply j1|apply j3|apply j4|apply v8|apply w9|(apply v7;rfl)|(with_reducible (first|apply x6|apply x5);intro hc)
   . refine L9 rfl ?_ hq;simp [O5,hc0]
   . exfalso;omega
 | some c=>
   have hlt:j<x.src.length:=(gEs hc0).1;have l1:=Y2 (p:=a8) (s:=x.src) hj;have l2:=Y2 (p:=u6) (s:=x.src) hj;repeat' first|apply j2|exact q7|exact j8 rfl|(apply j7;rfl;rfl)|(apply j9;rfl;rfl;rfl)|(apply u5;rfl)|(apply y9;rfl;(with_reducible rfl);rfl)|(apply y0;rfl;(with_reducible rfl);rfl)|(apply x7;rfl;rfl;rfl;assumption)|(apply m6;rfl;rfl)|(apply s9;rfl;rfl)|(apply l5;rfl;rfl)|(apply t8;rfl;rfl;(assumption);rfl)|(apply q6 (hc:=O0 c);rfl;rfl;rfl)|(apply q6 (hc:=V9 c);rfl;rfl;rfl)|(apply b7 (hc:=⟨(oH hH hj hl60).run⟩);rfl;rfl;(exact rfl);rfl;(exact q7);rintro H1 ⟨r1,k1⟩)|(apply b7 (hc:=⟨(uB hH hj hl60).run⟩);rfl;rfl;(exact rfl);rfl;(exact q7);rintro H1 ⟨r1,k1⟩)|(apply q6 (hc:=cJ (x9 a8 x.src j) (by omega));rfl;rfl;rfl)|(apply q6 (hc:=cJ (x9 u6 x.src j) (by omega));rfl;rfl;rfl)|(apply q6 (hc:=zf2 (x9 u6 x.src j) (by omega));rfl;rfl;rfl)|(apply w8;focus (repeat (first | exact q8 | (apply v6;rfl) | (apply d6;rfl))))|apply j1|apply j3|apply j4|apply v8|apply w9|(apply m5;rfl;(with_reducible rfl))|(apply v7;rfl)|(apply x8;rfl;(with_reducible rfl))|(apply l4;rfl;(with_reducible rfl))|(apply y7;rfl)|(with_reducible (first|apply u7|apply g8|apply x6|apply x5|apply C0);intro hc)
   all_goals first | (exfalso;omega) | skip
   all_goals (refine L9 rfl ?_ ⟨r1,k1⟩;congr 1;unfold O5;rw [hc0];simp [*]<;>omega)
end Go.Proofs.TryzL
