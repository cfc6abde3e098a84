/- Chapter 02: the reference's special and symbol bytes. -/
import Derived.Test.YtencoceemejcnaaGreatDoorLzT12
import Derived.Test.YtencoceemejcnaaGreatDoorLzLays02
set_option linter.unusedSimpArgs false
set_option linter.unusedVariables false
namespace Go.Proofs.TryzL
open Go.Proofs.Lz
set_option maxHeartbeats 2000000
theorem zo7 (c:UInt8):wcB c=(lowerB c||upperB c||t7 c||decide (c.toNat=39)):=by
 rw [Bool.eq_iff_iff];simp [wcB,qX,lowerB,upperB,t7,<-UInt8.toNat_inj];omega
theorem zj4 (c:UInt8):wsB c=(lowerB c||upperB c):=by
 rw [Bool.eq_iff_iff];simp [wsB,qX,lowerB,upperB,<-UInt8.toNat_inj];omega
theorem za2 (s:List UInt8) (hl:s.length<2^60):Rets Vv 125 [.c (.str s)] (.c (.bool (G7 s))):=by
 refine m7 qv9 ?_;cases h0:s[0]? with
 | none=>
   have:s=[]:=by cases s<;>simp_all
   subst this;repeat' first|apply j2|exact q7|exact j8 rfl|(apply j7;rfl;rfl)|(apply j9;rfl;rfl;rfl)|(apply u5;rfl)|(apply y9;rfl;(with_reducible rfl);rfl)|(apply y0;rfl;(with_reducible rfl);rfl)|(apply w8;focus (repeat (exact q8)))|apply j1|apply j3|apply j4|apply w9|(apply m5;rfl;(with_reducible rfl))|(apply x8;rfl;(with_reducible rfl))|(apply l4;rfl;(with_reducible rfl))|(apply qS;rfl)|(apply y7;rfl)|(with_reducible (first|apply x6|apply x5);intro hc)|(apply s7;rfl)
   all_goals first|rfl|(exfalso;simp_all;done)
 | some c=>
   have hlen:0<s.length:=by cases s<;>simp_all
   repeat' first|apply j2|exact q7|exact j8 rfl|(apply j7;rfl;rfl)|(apply j9;rfl;rfl;rfl)|(apply u5;rfl)|(apply s6;rfl;rfl)|(apply y9;rfl;(with_reducible rfl);rfl)|(apply y0;rfl;(with_reducible rfl);rfl)|(apply x7;rfl;rfl;rfl;assumption)|(apply q6 (hc:=z27 c);rfl;rfl;rfl)|(apply q6 (hc:=cP c);rfl;rfl;rfl)|(apply w8;focus (repeat (first | exact q8 | (apply v6;rfl))))|apply j1|apply j3|apply j4|apply x3|apply v8|apply w9|(apply m5;rfl;(with_reducible rfl))|(apply g9;rfl;(with_reducible rfl))|(apply v7;rfl)|(apply x8;rfl;(with_reducible rfl))|(apply b9;rfl;(with_reducible rfl))|(apply l4;rfl;(with_reducible rfl))|(apply qS;rfl)|(apply y7;rfl)|(with_reducible first|apply s4|apply s5)|(with_reducible (first|apply x6|apply x5|apply C0);intro hc)|(apply s7;rfl)
   any_goals (exfalso;omega)
   any_goals (refine cb ?_;simp [G7,h0];omega)
   any_goals (refine cb ?_;simp only [G7,zj4,h0, *];simp;done)
   any_goals
    refine I0 (fun n:Nat=>[(0,.c (.str s)),(3,.c (.int .i64 n))]) (fun n=>n<=s.length/\(s.take n).all wcB=true) (fun n=>s.length - n) 0 ?_ ⟨by omega,tk0⟩ ?_
    . repeat' first|exact q8|refine d5 rfl ?_
    rintro n ⟨hn,hall⟩;repeat' first|apply j2|exact q7|exact j8 rfl|(apply j7;rfl;rfl)|(apply b6;rfl;rfl;omega)|(apply j9;rfl;rfl;rfl)|(apply u5;rfl)|(apply s6;rfl;rfl)|(apply y9;rfl;(with_reducible rfl);rfl)|(apply y0;rfl;(with_reducible rfl);rfl)|(apply x7;rfl;rfl;rfl;exact gEg (by omega))|(apply q6 (hc:=z27 s[n]);rfl;rfl;rfl)|(apply q6 (hc:=cP s[n]);rfl;rfl;rfl)|(apply q6 (hc:=zo4 s[n]);rfl;rfl;rfl)|(apply w8;focus (repeat (first | exact q8 | (apply v6;rfl))))|apply j1|apply j3|apply j4|apply x3|apply v8|apply w9|apply l0|(apply g9;rfl;(with_reducible rfl))|(apply v7;rfl)|(apply x8;rfl;(with_reducible rfl))|(apply b9;rfl;(with_reducible rfl))|(apply y7;rfl)|(with_reducible first|apply s4|apply s5)|(with_reducible (first|apply f5|apply f6|apply x6|apply x5|apply C0);intro hc)|(apply s7;rfl)
    any_goals
     refine ⟨n+1,?_,rfl,⟨by omega,tkS (by omega) hall ?_⟩,by omega⟩
     . repeat' first|exact q8|refine d5 rfl ?_
     . rw [zo7];simp [*]<;>omega
    any_goals
     refine cb ?_;simp only [G7,h0];first
     | (rw [tkF (p:=wcB) (n:=n) (by omega) (by rw [zo7];simp [*]<;>omega)];simp;done)
     | (rw [tkE (by omega) hall];simp [zj4, *]<;>omega)
end Go.Proofs.TryzL
namespace Go.Proofs.TryzL
open Go.Proofs.Lz
set_option maxHeartbeats 2000000
theorem zo0 (s:List UInt8) (hl:s.length<2^60):Rets Vv 128 [.c (.str s)] (.c (.bool (N5 s))):=by
 refine m7 jg1 ?_;cases h0:s[0]? with
 | none=>
   have:s=[]:=by cases s<;>simp_all
   subst this;repeat' first|apply j2|exact q7|exact j8 rfl|(apply j7;rfl;rfl)|(apply j9;rfl;rfl;rfl)|(apply u5;rfl)|(apply y9;rfl;(with_reducible rfl);rfl)|(apply y0;rfl;(with_reducible rfl);rfl)|(apply w8;focus (repeat (first | exact q8 | (apply v6;rfl))))|apply j1|apply j3|apply j4|apply x3|apply v8|apply w9|(apply m5;rfl;(with_reducible rfl))|(apply v7;rfl)|(apply x8;rfl;(with_reducible rfl))|(apply l4;rfl;(with_reducible rfl))|(apply y7;rfl)|(with_reducible (first|apply x6|apply x5);intro hc)|(apply s7;rfl)
   all_goals first|rfl|(exfalso;simp_all;done)
 | some c=>
   have hlen:0<s.length:=by cases s<;>simp_all
   repeat' first|apply j2|exact q7|exact j8 rfl|(apply j7;rfl;rfl)|(apply j9;rfl;rfl;rfl)|(apply u5;rfl)|(apply y9;rfl;(with_reducible rfl);rfl)|(apply y0;rfl;(with_reducible rfl);rfl)|(apply w8;focus (repeat (first | exact q8 | (apply v6;rfl))))|apply j1|apply j3|apply j4|apply x3|apply v8|apply w9|(apply m5;rfl;(with_reducible rfl))|(apply v7;rfl)|(apply x8;rfl;(with_reducible rfl))|(apply l4;rfl;(with_reducible rfl))|(apply y7;rfl)|(with_reducible (first|apply x6|apply x5);intro hc)|(apply s7;rfl)
   any_goals (exfalso;omega)
   any_goals (refine cb ?_;simp [N5,h0];omega)
   any_goals
    refine I0 (fun n:Nat=>[(0,.c (.str s)),(3,.c (.int .i64 ((s.take n).count 45:Nat))),(4,.c (.int .i64 n))]) (fun n=>n<=s.length/\(s.take n).all u6=true) (fun n=>s.length - n) 0 ?_ ⟨by omega,tk0⟩ ?_
    . repeat' first|exact q8|refine d5 rfl ?_
    rintro n ⟨hn,hall⟩;have hcn:(s.take n).count 45<=n:=by have:=List.count_le_length (a:=(45:UInt8)) (l:=s.take n);rw [List.length_take] at this;omega
    by_cases hns:n<s.length
    . repeat' first|apply j2|exact q7|exact j8 rfl|(apply j7;rfl;rfl)|(apply b6;rfl;rfl;omega)|(apply j9;rfl;rfl;rfl)|(apply u5;rfl)|(apply s6;rfl;rfl)|(apply y9;rfl;(with_reducible rfl);rfl)|(apply y0;rfl;(with_reducible rfl);rfl)|(apply x7;rfl;rfl;rfl;exact gEg (by omega))|(apply q6 (hc:=j24 s[n]);rfl;rfl;rfl)|(apply w8;focus (repeat (first | exact q8 | (apply v6;rfl))))|apply j1|apply j3|apply j4|apply x3|apply v8|apply w9|apply l0|(apply v7;rfl)|(apply x8;rfl;(with_reducible rfl))|(apply l4;rfl;(with_reducible rfl))|(apply y7;rfl)|(with_reducible first|apply s4|apply s5)|(with_reducible (first|apply u7|apply g8|apply x6|apply x5|apply C0);intro hc)|(apply s7;rfl)
      any_goals omega
      any_goals
       refine ⟨n+1,?_,rfl,⟨by omega,tkS (by omega) hall ?_⟩,by omega⟩
       . rw [ctS hns];have e1:(s[n]=45)↔((s[n].toNat:Int)=45):=by rw [<-UInt8.toNat_inj];simp;omega
         simp only [e1, *,if_true,if_false];repeat' first|exact q8|refine d5 rfl ?_
       . simp [*]
      any_goals
       refine cb ?_;simp only [N5,h0];rw [tkF (p:=u6) (n:=n) hns (by simp [*])];simp
    . have hnl:n=s.length:=by omega
      subst hnl;repeat' first|apply j2|exact q7|exact j8 rfl|(apply j7;rfl;rfl)|(apply j9;rfl;rfl;rfl)|(apply u5;rfl)|(apply y9;rfl;(with_reducible rfl);rfl)|(apply y0;rfl;(with_reducible rfl);rfl)|(apply x7;rfl;rfl;rfl;exact gEg (by omega))|(apply w8;focus (repeat (first | exact q8 | (apply v6;rfl))))|apply j1|apply j3|apply j4|apply x3|apply v8|apply w9|apply l0|(apply v7;rfl)|(apply x8;rfl;(with_reducible rfl))|(apply l4;rfl;(with_reducible rfl))|(apply y7;rfl)|(with_reducible (first|apply x6|apply x5);intro hc)|(apply s7;rfl)
      any_goals omega
      all_goals
       refine cb ?_;simp only [N5,h0];rw [List.take_length] at hall;simp only [List.take_length] at *;simp [*];try omega
end Go.Proofs.TryzL
namespace Go.Proofs.TryzL
open Go.Proofs.Lz
set_option maxHeartbeats 2000000
def U1 (s:List UInt8):Nat:=if G7 s then (if rwordL.contains s then 5 else if jN s then 2 else 1) else if N5 s then (if rsymL.contains s then 6 else if s[0]?==some 58 then 4 else 3) else 0
theorem nQ (s:List UInt8) (hl:s.length<2^31):Rets Vv 105 [.c (.str s)] (.c (.int .i64 (U1 s))):=by
 refine m7 j82 ?_;cases h0:s[0]? with
 | none=>
   have e1:G7 s=false:=by simp [G7,h0]
   have e2:N5 s=false:=by simp [N5,h0]
   have h1:=za2 s (by omega);have h2:=zo0 s (by omega);rw [e1] at h1;rw [e2] at h2;repeat' first|apply j2|exact q7|(apply j7;rfl;rfl)|(apply q6 (hc:=h1);rfl;rfl;rfl)|(apply q6 (hc:=h2);rfl;rfl;rfl)|(apply w8;focus (repeat (first | exact q8 | (apply v6;rfl))))|apply j1|apply j3|apply j4|apply v8|apply w9|(apply g9;rfl;(with_reducible rfl))|(apply s7;rfl)
   all_goals (congr 1;simp [U1,e1,e2];done)
 | some c=>
   repeat' first|apply j2|exact q7|(apply j7;rfl;rfl)|(apply j9;rfl;rfl;rfl)|(apply x7;rfl;rfl;rfl;assumption)|(apply q6 (hc:=za2 s (by omega));rfl;rfl;rfl)|(apply q6 (hc:=zo0 s (by omega));rfl;rfl;rfl)|(apply q6 (hc:=zu7 s);rfl;rfl;rfl)|(apply q6 (hc:=qw2 s);rfl;rfl;rfl)|(apply q6 (hc:=cP c);rfl;rfl;rfl)|(apply w8;focus (repeat (first | exact q8 | (apply v6;rfl))))|apply j1|apply j3|apply j4|apply v8|apply w9|(apply v7;rfl)|(with_reducible (first|apply u7|apply g8|apply C0);intro hc)|(apply s7;rfl)
   all_goals have e58:((c.toNat:Int)=58)↔c=58:=D7 (n:=58) (by decide)
   all_goals (congr 1;simp_all [U1,jN];done)
end Go.Proofs.TryzL
namespace Go.Proofs.TryzL
open Go.Proofs.Lz
set_option maxHeartbeats 2000000
def dL (s:List UInt8):Bool:=decide (1<=U1 s/\U1 s<=4)
theorem z73 (s:List UInt8) (hl:s.length<2^31):Rets Vv 151 [.c (.str s)] (.c (.bool (dL s))):=by
 refine m7 qv4 ?_;repeat' first|apply j2|exact q7|exact j8 rfl|(apply j7;rfl;rfl)|(apply j9;rfl;rfl;rfl)|(apply y9;rfl;(with_reducible rfl);rfl)|(apply y0;rfl;(with_reducible rfl);rfl)|(apply q6 (hc:=nQ s hl);rfl;rfl;rfl)|apply j1|apply j3|apply j4|apply w9|(apply x8;rfl;(with_reducible rfl))|(apply l4;rfl;(with_reducible rfl))|(apply y7;rfl)|(with_reducible (first|apply u7|apply g8);intro hc)|(apply s7;rfl)
 all_goals (refine cb ?_;simp only [dL,decide_eq_true_eq,true_iff,false_iff,Bool.false_eq_true,beq_iff_eq];omega)
def bX (m n:List UInt8):List UInt8:=if U1 m=2/\dL n=true then m++[46]++n else []
theorem q47 (m n:List UInt8) (hm:m.length<2^31) (hn:n.length<2^31):Rets Vv 168 [.c (.str m),.c (.str n)] (.c (.str (bX m n))):=by
 refine m7 qm0 ?_;repeat' first|apply j2|exact q7|exact j8 rfl|(apply j7;rfl;rfl)|(apply lY;rfl;rfl;(simp only [List.length_map,List.length_cons,List.length_nil,List.length_append,List.length_replicate];omega))|(apply j9;rfl;rfl;rfl)|(apply s6;rfl;rfl)|(apply y9;rfl;(with_reducible rfl);rfl)|(apply y0;rfl;(with_reducible rfl);rfl)|(apply q6 (hc:=nQ m hm);rfl;rfl;rfl)|(apply q6 (hc:=z73 n hn);rfl;rfl;rfl)|(apply w8;focus (repeat (first | exact q8 | (apply v6;rfl))))|apply j1|apply j3|apply j4|apply v8|apply w9|(apply m5;rfl;(with_reducible rfl))|(apply v7;rfl)|(apply x8;rfl;(with_reducible rfl))|(apply l4;rfl;(with_reducible rfl))|(apply y7;rfl)|(with_reducible first|apply s4|apply s5)|(with_reducible (first|apply f5|apply f6|apply C0);intro hc)|(apply s7;rfl)
 all_goals first
  | (have:¬ U1 m=2:=by omega
     simp [bX, *];done)
  | (have:U1 m=2:=by omega
     simp [bX, *];done)
def lV (s:List UInt8) (n:Nat):Option (List UInt8×List UInt8):=if bX (s.take n) (s.drop (n+1))=[] then none else some (s.take n,s.drop (n+1))
def yQ (s:List UInt8):Option (List UInt8×List UInt8):=match s.findIdx? (·==46) with
 | none=>none
 | some n=>lV s n
theorem iO {s:List UInt8} {n:Nat} {b:UInt8} (h:n<s.length) (h1:(s.take n).all (· != b)=true) (h2:s[n]=b):s.findIdx? (·==b)=some n:=by
 rw [List.findIdx?_eq_some_iff_getElem];refine ⟨h,by simp [h2],fun j hj=>?_⟩;have:=List.all_eq_true.1 h1 s[j] (by rw [List.mem_take_iff_getElem];exact ⟨j,by omega,rfl⟩);simpa using this
theorem j67 {s:List UInt8} {b:UInt8} (h1:s.all (· != b)=true):s.findIdx? (·==b)=none:=by
 rw [List.findIdx?_eq_none_iff];intro x hx;simpa using List.all_eq_true.1 h1 x hx
theorem eJ (s:List UInt8) (hl:s.length<2^31):Rets Vv 150 [.c (.str s)] (splitV (yQ s)):=by
 refine m7 qg3 ?_;repeat' first|apply j2|exact q7|(apply j7;rfl;rfl)|apply j1|apply j3|apply j4|apply x3
 refine I0 (fun n:Nat=>[(0,.c (.str s)),(5,.c (.int .i64 n))]) (fun n=>n<=s.length/\(s.take n).all (· != 46)=true) (fun n=>s.length - n) 0 ?_ ⟨Nat.zero_le _,tk0⟩ ?_
 . repeat' first|exact q8|refine d5 rfl ?_
 rintro n ⟨hn,hall⟩;have hd:(s.drop (n+1)).length<2^31:=by rw [List.length_drop];omega
 have ht:(s.take n).length<2^31:=by rw [List.length_take];omega
 repeat' first|apply j2|exact q7|(apply j7;rfl;rfl)|(apply b6;rfl;rfl;omega)|(apply j9;rfl;rfl;rfl)|(apply u5;rfl)|(apply x7;rfl;rfl;rfl;exact gEg (by omega))|(apply mW;rfl;rfl;omega)|(apply qF;rfl;rfl;rfl;omega)|(apply w8;focus (repeat (first | exact q8 | (apply v6;rfl))))|apply j1|apply j3|apply j4|apply x3|apply v8|apply w9|apply l0|apply o0|apply o7|(apply v7;rfl)|(apply o6;(exact rfl))|(with_reducible (first|apply L1|apply L2|apply f5|apply f6|apply x6|apply x5);intro hc)|(apply f8;rfl)|(apply Q7)|(apply xI (hc:=q47 (s.take n) (s.drop (n+1)) ht hd);rfl;rfl;rfl)|(apply f9;rfl)|(apply jJ;(exact ShI.c rfl);(exact ShI.c rfl);(exact ShI.c rfl);(exact by decide))
 . refine ⟨n+1,?_,rfl,⟨by omega,tkS (by omega) hall ?_⟩,by omega⟩
   . repeat' first|exact q8|refine d5 rfl ?_
   . rename_i hc;have e:=D7 (c:=s[n]'(by omega)) (n:=46) (by decide);simp only [bne_iff_ne,ne_eq];intro e2;rw [e2] at hc;exact hc rfl
 all_goals have h46:(h:n<s.length)->((s[n].toNat:Int)=46)->s[n]=46:=fun h h2=>(D7 (n:=46) (by decide)).1 h2
 . rw [yQ,iO (by omega) hall (h46 (by omega) (by assumption))];simp [lV,splitV, *]
 . rw [yQ,iO (by omega) hall (h46 (by omega) (by assumption))];simp [lV,splitV, *]
 . rw [yQ,j67 (tkE (by omega) hall)];simp [splitV]
end Go.Proofs.TryzL
namespace Go.Proofs.Lz
theorem zg9 {n:Int} (h:0<=n/\n<256):IntKind.u8.wrap n=n:=by
 simp [IntKind.wrap,IntKind.bits,IntKind.signed];omega
section
variable {V:WEnv} {fr fr':WFr} {H H':q9} {N:f4} {dst:Option Nat}
theorem qA {x y:Opd} {a b:Int} (hx:fr.rd x=.c (.int .u8 a)) (hy:fr.rd y=.c (.int .u8 b)) (h0:0<=a - b/\a - b<256) (hq:Put fr dst (.c (.int .u8 (a - b))) fr') (h:N fr' H):OpP V (.bin .sub x y) dst fr H N:=
 j9 hx hy (by simp only [S5,if_true,zg9 h0]) hq h
theorem pM {x:Opd} {xs:List CV} {s:List UInt8} (hx:wW none (fr.rd x)=some xs) (hb:M3 xs=some s) (hq:Put fr dst (.c (.str s)) fr') (h:N fr' H):OpP V (.b2s x) dst fr H N:=
 ⟨fr',H,by show y8 (.b2s x) dst fr H=_;simp only [y8,hx,Option.bind_some,hb,hq.eq],h⟩
end
end Go.Proofs.Lz
namespace Go.Proofs.TryzL
open Go.Proofs.Lz
set_option maxHeartbeats 4000000
def pY (s:List UInt8):Bool:=(yQ s).isSome||dL s
theorem iM (s:List UInt8) (hl:s.length<2^31):Rets Vv 130 [.c (.str s)] (.c (.bool (pY s))):=by
 refine m7 qp9 ?_;cases h:yQ s with
 | none=>
   have hs:Rets Vv 150 [.c (.str s)] (.tup [.c (.str []),.c (.str []),.c (.bool false)]):=by have:=eJ s hl;rw [h] at this;exact this
   repeat' first|apply j2|exact q7|exact j8 rfl|(apply j7;rfl;rfl)|(apply y0;rfl;(with_reducible rfl);rfl)|(apply A9;rfl;rfl;rfl)|(apply A7;rfl;rfl)|(apply q6 (hc:=hs);rfl;rfl;rfl)|(apply q6 (hc:=z73 s hl);rfl;rfl;rfl)|apply j1|apply j3|apply j4|apply w9|(apply x8;rfl;(with_reducible rfl))|(apply s7;rfl)
   all_goals (simp only [pY,h];rfl)
 | some p=>
   have hs:Rets Vv 150 [.c (.str s)] (.tup [.c (.str p.1),.c (.str p.2),.c (.bool true)]):=by have:=eJ s hl;rw [h] at this;exact this
   repeat' first|apply j2|exact q7|exact j8 rfl|(apply j7;rfl;rfl)|(apply y9;rfl;(with_reducible rfl);rfl)|(apply A9;rfl;rfl;rfl)|(apply A7;rfl;rfl)|(apply q6 (hc:=hs);rfl;rfl;rfl)|apply j1|apply j3|apply j4|apply w9|(apply l4;rfl;(with_reducible rfl))|(apply s7;rfl)
   all_goals (simp only [pY,h];rfl)
def G8:List UInt8->Nat->Option Nat
 | [],a=>some a
 | c::r,a=>if t7 c=true/\a<=(9223372036854775807 - (c.toNat - 48)) / 10 then G8 r (10 * a+(c.toNat - 48)) else none
theorem rU (x:Int) (h:0<=x/\x<=9):IntKind.i64.wrap ((9223372036854775807 - x).tdiv 10)=(9223372036854775807 - x) / 10:=by
 rw [Int.tdiv_eq_ediv_of_nonneg (by omega)];exact wrap64 (by omega)
theorem xH {c:UInt8} (h:t7 c=true):48<=c.toNat/\c.toNat<=57:=by simpa [t7] using h
def uN (s:List UInt8):Option Nat:=if s=[]\/(s[0]?=some 48/\1<s.length) then none else G8 s 0
def vU (o:Option Nat):WV:=match o with
 | none=>.tup [.c (.int .i64 0),.c (.bool false)]
 | some n=>.tup [.c (.int .i64 n),.c (.bool true)]
theorem qo2 (s:List UInt8) (hl:s.length<2^31):Rets Vv 131 [.c (.str s)] (vU (uN s)):=by
 refine m7 zy9 ?_;cases h0:s[0]? with
 | none=>
   have:s=[]:=by cases s<;>simp_all
   subst this;repeat' first|apply j2|exact q7|exact j8 rfl|(apply j7;rfl;rfl)|(apply j9;rfl;rfl;rfl)|(apply y9;rfl;(with_reducible rfl);rfl)|(apply w8;focus (repeat (exact q8)))|apply j1|apply j3|apply j4|apply w9|(apply m5;rfl;(with_reducible rfl))|(apply x8;rfl;(with_reducible rfl))|(apply l4;rfl;(with_reducible rfl))|(apply qS;rfl)|(apply y7;rfl)|(with_reducible (first|apply L1|apply L2);intro hc)|(apply V1;(exact ShI.c rfl);(exact ShI.c rfl);(exact by decide))
   all_goals first|rfl|(exfalso;simp_all;done)
 | some c=>
   have hne:s≠[]:=by intro e;rw [e] at h0;cases h0
   have e48:((c.toNat:Int)=48)↔c=48:=D7 (n:=48) (by decide);repeat' first|apply j2|exact q7|exact j8 rfl|(apply j7;rfl;rfl)|(apply j9;rfl;rfl;rfl)|(apply u5;rfl)|(apply y9;rfl;(with_reducible rfl);rfl)|(apply y0;rfl;(with_reducible rfl);rfl)|(apply x7;rfl;rfl;rfl;assumption)|(apply w8;focus (repeat (first | exact q8 | (apply v6;rfl))))|apply j1|apply j3|apply j4|apply x3|apply v8|apply w9|(apply m5;rfl;(with_reducible rfl))|(apply g9;rfl;(with_reducible rfl))|(apply v7;rfl)|(apply x8;rfl;(with_reducible rfl))|(apply b9;rfl;(with_reducible rfl))|(apply l4;rfl;(with_reducible rfl))|(apply qS;rfl)|(apply y7;rfl)|(with_reducible (first|apply u7|apply L1|apply g8|apply L2|apply x6|apply x5);intro hc)|(apply V1;(exact ShI.c rfl);(exact ShI.c rfl);(exact by decide))
   any_goals contradiction
   any_goals
    have h1:c=48:=e48.1 (by assumption);have h2:1<s.length:=by omega
    simp [uN,h0,h1,h2,vU];done
   any_goals
    have hnum:uN s=G8 s 0:=by
     simp only [uN];rw [if_neg];rintro (hh | ⟨h1,h2⟩)
     . exact hne hh
     . rw [h0] at h1;injection h1 with h1;have:=e48.2 h1;omega
    refine I0 (fun p:Nat×Nat=>[(0,.c (.str s)),(4,.c (.int .i64 p.2)),(5,.c (.int .i64 p.1))]) (fun p=>p.1<=s.length/\p.2<=9223372036854775807/\G8 s 0=G8 (s.drop p.1) p.2) (fun p=>s.length - p.1) (0,0) ?_ ⟨Nat.zero_le _,Nat.zero_le _,by simp⟩ ?_
    . repeat' first|exact q8|refine d5 rfl ?_
    rintro ⟨n,a⟩ ⟨hn,ha,hf⟩;dsimp only at hn ha hf;dsimp only;by_cases hns:n<s.length
    . have hdrop:s.drop n=s[n]::s.drop (n+1):=List.drop_eq_getElem_cons hns;have h148:=zo4 s[n];cases hd:t7 s[n] with
      | false=>
        rw [hd] at h148;repeat' first|apply j2|exact q7|(apply j7;rfl;rfl)|(apply j9;rfl;rfl;rfl)|(apply u5;rfl)|(apply s6;rfl;rfl)|(apply x7;rfl;rfl;rfl;exact gEg (by omega))|(apply q6 (hc:=h148);rfl;rfl;rfl)|(apply w8;focus (repeat (first | exact q8 | (apply v6;rfl))))|apply j1|apply j3|apply j4|apply x3|apply v8|apply w9|apply l0|(apply v7;rfl)|(with_reducible first|exact G1|apply F9|apply s4|apply s5)|(with_reducible (first|apply x6|apply x5);intro hc)|(apply V1;(exact ShI.c rfl);(exact ShI.c rfl);(exact by decide))
        any_goals omega
        rw [hnum,hf,hdrop];simp [G8,hd,vU]
      | true=>
        rw [hd] at h148;obtain ⟨b1,b2⟩:=xH hd;have hqq:=rU ((s[n].toNat:Int) - 48) (by omega);by_cases hq:a<=(9223372036854775807 - (s[n].toNat - 48)) / 10
        . repeat' first|apply j2|exact q7|(apply j7;rfl;rfl)|(apply b6;rfl;rfl;omega)|(apply I9;rfl;rfl;omega)|(apply Y6;rfl;rfl;omega)|(apply qA;rfl;rfl;omega)|(apply j9;rfl;rfl;rfl)|(apply u5;rfl)|(apply s6;rfl;rfl)|(apply x7;rfl;rfl;rfl;exact gEg (by omega))|(apply R1;rfl;omega)|(apply q6 (hc:=h148);rfl;rfl;rfl)|(apply w8;focus (repeat (first | exact q8 | (apply v6;rfl))))|apply j1|apply j3|apply j4|apply x3|apply v8|apply w9|apply l0|(apply v7;rfl)|(with_reducible first|exact C2|apply C3|apply s4|apply s5)|(with_reducible (first|apply x6|apply x5);intro hc)|(apply V1;(exact ShI.c rfl);(exact ShI.c rfl);(exact by decide))
          any_goals omega
          any_goals first|(exfalso;rw [hqq] at hc;omega)|skip
          . refine ⟨(n+1,10 * a+(s[n].toNat - 48)),?_,rfl,⟨by dsimp only;omega,by dsimp only;omega,?_⟩,by dsimp only;omega⟩
            . have e4:(10 * (a:Int)+((s[n].toNat:Int) - 48))=((10 * a+(s[n].toNat - 48):Nat):Int):=by omega
              repeat' first|exact q8|refine d5 rfl ?_|refine d5 ?_ ?_
              all_goals (show WV.c (CV.int .i64 (10 * (a:Int)+((s[n].toNat:Int) - 48)))=_;rw [e4])
            . rw [hf,hdrop];simp [G8,hd,hq]
        . repeat' first|apply j2|exact q7|(apply j7;rfl;rfl)|(apply b6;rfl;rfl;omega)|(apply I9;rfl;rfl;omega)|(apply Y6;rfl;rfl;omega)|(apply qA;rfl;rfl;omega)|(apply j9;rfl;rfl;rfl)|(apply u5;rfl)|(apply s6;rfl;rfl)|(apply x7;rfl;rfl;rfl;exact gEg (by omega))|(apply R1;rfl;omega)|(apply q6 (hc:=h148);rfl;rfl;rfl)|(apply w8;focus (repeat (first | exact q8 | (apply v6;rfl))))|apply j1|apply j3|apply j4|apply x3|apply v8|apply w9|apply l0|(apply v7;rfl)|(with_reducible first|exact C2|apply C3|apply s4|apply s5)|(with_reducible (first|apply x6|apply x5);intro hc)|(apply V1;(exact ShI.c rfl);(exact ShI.c rfl);(exact by decide))
          any_goals omega
          any_goals first|(exfalso;rw [hqq] at hc;omega)|skip
          . rw [hnum,hf,hdrop];simp [G8,hd,hq,vU]
    . repeat' first|apply j2|exact q7|(apply j7;rfl;rfl)|(apply j9;rfl;rfl;rfl)|(apply u5;rfl)|(apply x7;rfl;rfl;rfl;exact gEg (by omega))|(apply w8;focus (repeat (first | exact q8 | (apply v6;rfl))))|apply j1|apply j3|apply j4|apply x3|apply v8|apply w9|apply l0|(apply v7;rfl)|(with_reducible (first|apply x6|apply x5);intro hc)|(apply V1;(exact ShI.c rfl);(exact ShI.c rfl);(exact by decide))
      any_goals omega
      rw [hnum,hf,List.drop_of_length_le (by omega)];simp [G8,vU]
end Go.Proofs.TryzL
namespace Go.Proofs.TryzL
open Go.Proofs.Lz
set_option maxHeartbeats 4000000
def V6 (s:List UInt8):Nat->Int
 | 0=>-1
 | n+1=>if s[n]?=some 36 then (n:Int) else V6 s n
theorem oZ (s:List UInt8):∀ n,-1<=V6 s n/\V6 s n<n
 | 0=>by simp [V6]
 | n+1=>by
   have:=oZ s n;unfold V6;split<;>omega
def mG (s:List UInt8) (i:Int):Option (List UInt8×Nat):=if i<0 then none else if pY (s.take i.toNat) then (match uN (s.drop (i+1).toNat) with
 | none=>none
 | some v=>some (s.take i.toNat,v)) else none
def uW (s:List UInt8):Option (List UInt8×Nat):=mG s (V6 s s.length)
def kV (o:Option (List UInt8×Nat)):WV:=match o with
 | none=>.tup [.c (.str []),.c (.int .i64 0),.c (.bool false)]
 | some p=>.tup [.c (.str p.1),.c (.int .i64 p.2),.c (.bool true)]
theorem j42 (s:List UInt8) (hl:s.length<2^31):Rets Vv 106 [.c (.str s)] (kV (uW s)):=by
 refine m7 qs8 ?_;repeat' first|apply j2|exact q7|(apply j7;rfl;rfl)|apply j1|apply j3|apply j4|apply x3
 refine I0 (fun n:Nat=>[(0,.c (.str s)),(5,.c (.int .i64 (V6 s n))),(6,.c (.int .i64 n))]) (fun n=>n<=s.length) (fun n=>s.length - n) 0 ?_ (Nat.zero_le _) ?_
 . repeat' first|exact q8|refine d5 rfl ?_
 intro n hn;by_cases hns:n<s.length
 . have e36:=D7 (c:=s[n]) (n:=36) (by decide);have hg:s[n]?=some s[n]:=gEg hns;repeat' first|apply j2|exact q7|exact j8 rfl|(apply j7;rfl;rfl)|(apply b6;rfl;rfl;omega)|(apply j9;rfl;rfl;rfl)|(apply u5;rfl)|(apply y9;rfl;(with_reducible rfl);rfl)|(apply x7;rfl;rfl;rfl;assumption)|(apply xB;rfl;rfl;omega;omega)|(apply w8;focus (repeat (first | exact q8 | (apply v6;rfl))))|apply j1|apply j3|apply j4|apply x3|apply v8|apply w9|apply l0|(apply m5;rfl;(with_reducible rfl))|(apply v7;rfl)|(apply x8;rfl;(with_reducible rfl))|(apply l4;rfl;(with_reducible rfl))|(apply y7;rfl)|(with_reducible (first|apply u7|apply g8|apply x6|apply x5);intro hc)|(apply jJ;(exact ShI.c rfl);(exact ShI.c rfl);(exact ShI.c rfl);(exact by decide))
   any_goals omega
   . refine ⟨n+1,?_,rfl,by omega,by omega⟩;have h1:s[n]=36:=e36.1 (by assumption);have h2:V6 s (n+1)=n:=by simp [V6,hg,h1]
     rw [h2];repeat' first|exact q8|refine d5 rfl ?_
   . refine ⟨n+1,?_,rfl,by omega,by omega⟩;have h1:¬ s[n]=36:=fun h=>by rename_i hc;exact hc (e36.2 h)
     have h2:V6 s (n+1)=V6 s n:=by simp [V6,hg,h1]
     rw [h2];repeat' first|exact q8|refine d5 rfl ?_
 . have hnl:n=s.length:=by omega
   subst hnl;obtain ⟨b1,b2⟩:=oZ s s.length;have hb:uW s=mG s (V6 s s.length):=rfl;generalize V6 s s.length=i at *;have ht:(s.take i.toNat).length<2^31:=by rw [List.length_take];omega
   have hd:(s.drop (i+1).toNat).length<2^31:=by rw [List.length_drop];omega
   have hnum:=qo2 (s.drop (i+1).toNat) hd;cases hv:uN (s.drop (i+1).toNat) with
   | none=>
     rw [hv] at hnum;simp only [vU] at hnum;repeat' first|apply j2|exact q7|exact j8 rfl|(apply j7;rfl;rfl)|(apply b6;rfl;rfl;omega)|(apply j9;rfl;rfl;rfl)|(apply u5;rfl)|(apply s6;rfl;rfl)|(apply y9;rfl;(with_reducible rfl);rfl)|(apply y0;rfl;(with_reducible rfl);rfl)|(apply x7;rfl;rfl;rfl;exact gEg (by omega))|(apply A9;rfl;rfl;rfl)|(apply A7;rfl;rfl)|(apply xB;rfl;rfl;omega;omega)|(apply lW;rfl;rfl;omega;omega)|(apply q6 (hc:=iM (s.take i.toNat) ht);rfl;rfl;rfl)|(apply q6 (hc:=hnum);rfl;rfl;rfl)|(apply w8;focus (repeat (first | exact q8 | (apply v6;rfl))))|apply j1|apply j3|apply j4|apply x3|apply v8|apply w9|apply l0|(apply m5;rfl;(with_reducible rfl))|(apply v7;rfl)|(apply x8;rfl;(with_reducible rfl))|(apply l4;rfl;(with_reducible rfl))|(apply y7;rfl)|(with_reducible first|exact G1|apply F9|apply s4|apply s5)|(with_reducible (first|apply u7|apply g8|apply x6|apply x5|apply C0);intro hc)|(apply jJ;(exact ShI.c rfl);(exact ShI.c rfl);(exact ShI.c rfl);(exact by decide))
     any_goals (exfalso;omega)
     all_goals (rw [hb];simp [mG,kV, *])
   | some v=>
     rw [hv] at hnum;simp only [vU] at hnum;repeat' first|apply j2|exact q7|exact j8 rfl|(apply j7;rfl;rfl)|(apply b6;rfl;rfl;omega)|(apply j9;rfl;rfl;rfl)|(apply u5;rfl)|(apply s6;rfl;rfl)|(apply y9;rfl;(with_reducible rfl);rfl)|(apply y0;rfl;(with_reducible rfl);rfl)|(apply x7;rfl;rfl;rfl;exact gEg (by omega))|(apply A9;rfl;rfl;rfl)|(apply A7;rfl;rfl)|(apply xB;rfl;rfl;omega;omega)|(apply lW;rfl;rfl;omega;omega)|(apply q6 (hc:=iM (s.take i.toNat) ht);rfl;rfl;rfl)|(apply q6 (hc:=hnum);rfl;rfl;rfl)|(apply w8;focus (repeat (first | exact q8 | (apply v6;rfl))))|apply j1|apply j3|apply j4|apply x3|apply v8|apply w9|apply l0|(apply m5;rfl;(with_reducible rfl))|(apply v7;rfl)|(apply x8;rfl;(with_reducible rfl))|(apply l4;rfl;(with_reducible rfl))|(apply y7;rfl)|(with_reducible first|exact C2|apply C3|apply s4|apply s5)|(with_reducible (first|apply u7|apply g8|apply x6|apply x5|apply C0);intro hc)|(apply jJ;(exact ShI.c rfl);(exact ShI.c rfl);(exact ShI.c rfl);(exact by decide))
     any_goals (exfalso;omega)
     all_goals (rw [hb];simp [mG,kV, *])
def L6 (s:List UInt8):Nat:=if U1 s≠0 then U1 s else if (uW s).isSome then 7 else 0
theorem rJ (s:List UInt8) (hl:s.length<2^31):Rets Vv 82 [.c (.str s)] (.c (.int .i64 (L6 s))):=by
 refine m7 zt8 ?_;have hb:=j42 s hl;cases h:uW s with
 | none=>
   rw [h] at hb;simp only [kV] at hb;repeat' first|apply j2|exact q7|exact j8 rfl|(apply j7;rfl;rfl)|(apply j9;rfl;rfl;rfl)|(apply A9;rfl;rfl;rfl)|(apply A7;rfl;rfl)|(apply q6 (hc:=nQ s hl);rfl;rfl;rfl)|(apply q6 (hc:=hb);rfl;rfl;rfl)|(apply w8;focus (repeat (first | exact q8 | (apply v6;rfl))))|apply j1|apply j3|apply j4|apply v8|apply w9|(apply g9;rfl;(with_reducible rfl))|(apply v7;rfl)|(with_reducible (first|apply f5|apply f6);intro hc)|(apply s7;rfl)
   . have:U1 s≠0:=by omega
     simp [L6,this]
   . have:U1 s=0:=by omega
     simp [L6,this,h]
 | some p=>
   rw [h] at hb;simp only [kV] at hb;repeat' first|apply j2|exact q7|exact j8 rfl|(apply j7;rfl;rfl)|(apply j9;rfl;rfl;rfl)|(apply A9;rfl;rfl;rfl)|(apply A7;rfl;rfl)|(apply q6 (hc:=nQ s hl);rfl;rfl;rfl)|(apply q6 (hc:=hb);rfl;rfl;rfl)|(apply w8;focus (repeat (first | exact q8 | (apply v6;rfl))))|apply j1|apply j3|apply j4|apply v8|apply w9|(apply m5;rfl;(with_reducible rfl))|(apply v7;rfl)|(with_reducible (first|apply f5|apply f6);intro hc)|(apply s7;rfl)
   . have:U1 s≠0:=by omega
     simp [L6,this]
   . have:U1 s=0:=by omega
     simp [L6,this,h]
end Go.Proofs.TryzL
namespace Go.Proofs.TryzL
open Go.Proofs.Lz
set_option maxHeartbeats 4000000
def hexD:List UInt8:=[48,49,50,51,52,53,54,55,56,57,97,98,99,100,101,102]
def z23 (n:Nat):UInt8:=hexD.getD n 0
def zi7 (c m:UInt8):List UInt8:=if c=10 then [92,110] else if c=9 then [92,116] else if c=92\/c=m then [92,c] else if 32<=c.toNat/\c.toNat<=126 then [c] else [92,120,z23 (c.toNat / 16),z23 (c.toNat % 16)]
def zv3 (s:List UInt8) (m:UInt8):List UInt8:=s.flatMap (zi7 · m)
end Go.Proofs.TryzL
namespace Go.Proofs.Lz
section
variable {V:WEnv} {fr fr':WFr} {H H':q9} {N:f4} {dst:Option Nat}
theorem yR {x lo hi:Opd} {s:List UInt8} {k k':IntKind} {m:Nat} {b:UInt8} (hx:fr.rd x=.c (.str s)) (hl:fr.rd lo=.c (.int k (m:Int))) (hh:fr.rd hi=.c (.int k' ((m:Int)+1))) (hb:s[m]?=some b) (hq:Put fr dst (.c (.str [b])) fr') (hN:N fr' H):OpP V (.slc true none x (some lo) (some hi)) dst fr H N:=by
 have hm:m<s.length:=(gEs hb).1;refine kK (m:=m) (m':=m+1) hx hl hh rfl (by simp) ⟨by omega,by omega⟩ ?_ hN;have e:(s.drop m).take (m+1 - m)=[b]:=by
  rw [Nat.add_sub_cancel_left,List.take_one,List.head?_drop,hb];rfl
 rw [e];exact hq
end
end Go.Proofs.Lz
namespace Go.Proofs.TryzL
open Go.Proofs.Lz
set_option maxHeartbeats 4000000
end Go.Proofs.TryzL
namespace Go.Proofs.TryzL
open Go.Proofs.Lz
set_option maxHeartbeats 4000000
structure Tok where
 op:Int
 qual:List UInt8
 text:List UInt8
 n:Int
 auto:Bool
 line:Int
 col:Int
def E6 (t:Tok):CV:=.agg [.int .i64 t.op,.str t.qual,.str t.text,.int .i64 t.n,.bool t.auto,.int .i64 t.line,.int .i64 t.col]
def pZ (op:Int) (qual text:List UInt8) (n:Int) (auto:Bool) (line col:Int):CV:=.agg [.int .i64 op,.str qual,.str text,.int .i64 n,.bool auto,.int .i64 line,.int .i64 col]
end Go.Proofs.TryzL
namespace Go.Proofs.TryzL
open Go.Proofs.Lz
set_option maxHeartbeats 4000000
end Go.Proofs.TryzL
namespace Go.Proofs.TryzL
open Go.Proofs.Lz
set_option maxHeartbeats 4000000
def qcS (n:Int):List UInt8:=if 0<=n/\n<=255 then [39]++zi7 (UInt8.ofNat n.toNat) 39++[39] else []
def textS (op:Int) (qual text:List UInt8) (n:Int):List UInt8:=if op=5 then Lib.itoa n else if op=6 then qcS n else if op=7 then [34]++zv3 text 34++[34] else if qual=[] then text else qual++[46]++text
end Go.Proofs.TryzL
namespace Go.Proofs.TryzL
open Go.Proofs.Lz
set_option maxHeartbeats 4000000
section
variable {V:WEnv} {fr fr':WFr} {H H':q9} {N:f4} {dst:Option Nat}
end
end Go.Proofs.TryzL
namespace Go.Proofs.TryzL
open Go.Proofs.Lz
set_option maxHeartbeats 4000000
theorem zv8 (s:List UInt8):∀ k,Lib.repeatL s (k+1)=Lib.repeatL s k++s
 | 0=>by simp [Lib.repeatL]
 | k+1=>by
   show s++Lib.repeatL s (k+1)=(s++Lib.repeatL s k)++s;rw [zv8 s k,List.append_assoc]
end Go.Proofs.TryzL
namespace Go.Proofs.TryzL
open Go.Proofs.Lz
theorem ze2:∀ s∈rwordL,G7 s=true:=by decide +kernel
theorem oW:∀ s∈rsymL,N5 s=true/\G7 s=false:=by decide +kernel
theorem zw7 (s:List UInt8):L6 s=C4 s\/((L6 s=0\/L6 s=7)/\(C4 s=0\/C4 s=7)):=by
 unfold L6 C4 U1;by_cases h1:s∈rwordL
 . have hw:=ze2 s h1;left;simp [h1,hw]
 . by_cases h2:s∈rsymL
   . obtain ⟨hs,hw⟩:=oW s h2;left;simp [h1,h2,hs,hw]
   . by_cases hw:G7 s=true
     . left;by_cases hu:jN s=true
       . simp [h1,h2,hw,hu]
       . simp [h1,h2,hw,hu]
     . by_cases hs:N5 s=true
       . left;by_cases hc:s[0]?=some 58
         . simp [h1,h2,hw,hs,hc]
         . simp [h1,h2,hw,hs,hc]
       . right;simp only [List.contains_eq_mem,h1,h2,hw,hs,decide_false,if_false,Bool.false_eq_true,Bool.false_and];constructor
         . by_cases hb:(uW s).isSome=true
           . simp [hb]
           . simp [hb]
         . by_cases hb:(xA s).isSome=true
           . simp [hb]
           . simp [hb]
theorem tI (s:List UInt8) {k:Nat} (h1:1<=k) (h6:k<=6):L6 s=k↔C4 s=k:=by
 rcases zw7 s with h | ⟨h,h'⟩
 . rw [h]
 . omega
end Go.Proofs.TryzL
namespace Go.Proofs.TryzL
open Go.Proofs.Lz
set_option maxHeartbeats 4000000
theorem ze4 (c:UInt8) (s:List UInt8) (hl:s.length<2^31):Rets Vv 96 [.c (bC c),.c (.str s)] (.c (.bool (s.contains c))):=by
 refine m7 q34 ?_;repeat' first|apply j2|exact q7|(apply j7;rfl;rfl)|apply j1|apply j3|apply j4|apply x3
 refine I0 (fun n:Nat=>[(0,.c (bC c)),(1,.c (.str s)),(5,.c (.int .i64 n))]) (fun n=>n<=s.length/\(s.take n).all (· != c)=true) (fun n=>s.length - n) 0 ?_ ⟨Nat.zero_le _,tk0⟩ ?_
 . repeat' first|exact q8|refine d5 rfl ?_
 rintro n ⟨hn,hall⟩;repeat' first|apply j2|exact q7|(apply j7;rfl;rfl)|(apply b6;rfl;rfl;omega)|(apply j9;rfl;rfl;rfl)|(apply u5;rfl)|(apply x7;rfl;rfl;rfl;exact gEg (by omega))|(apply w8;focus (repeat (first | exact q8 | (apply v6;rfl))))|apply j1|apply j3|apply j4|apply x3|apply v8|apply w9|apply l0|(apply v7;rfl)|(with_reducible (first|apply u7|apply g8|apply x6|apply x5);intro hc)|(apply s7;rfl)
 . refine cb ?_;rename_i hc;have e:=u8i.1 hc;simp only [true_iff,List.contains_eq_mem,decide_eq_true_eq];rw [<-e];exact List.getElem_mem _
 . refine ⟨n+1,?_,rfl,⟨by omega,tkS (by omega) hall ?_⟩,by omega⟩
   . repeat' first|exact q8|refine d5 rfl ?_
   . rename_i hc;rw [u8i] at hc;simpa using hc
 . refine cb ?_;have:=tkE (by omega) hall;simp only [List.contains_eq_mem];simp only [List.all_eq_true,bne_iff_ne] at this;constructor
   . intro h;cases h
   . intro h;exact absurd rfl (this c (by simpa using h))
theorem z42 (c:UInt8):Rets Vv 75 [.c (bC c)] (.c (.bool (spS.contains c))):=by
 refine m7 jc2 ?_;repeat' first|apply j2|exact q7|(apply j7;rfl;rfl)|(apply q6 (hc:=ze4 c spS (by decide));rfl;rfl;rfl)|apply j1|apply j3|apply j4|apply w9|(apply s7;rfl)
 rfl
theorem V5 (c:UInt8):Rets Vv 66 [.c (bC c)] (.c (.bool (u6 c))):=by
 refine m7 j06 ?_;repeat' first|apply j2|exact q7|(apply j7;rfl;rfl)|(apply q6 (hc:=ze4 c symS (by decide));rfl;rfl;rfl)|apply j1|apply j3|apply j4|apply w9|(apply s7;rfl)
 rfl
end Go.Proofs.TryzL
