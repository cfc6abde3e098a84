/- Chapter 12: plain: which names are derivable, a5 both sides see it. -/
import Derived.Test.YtlimfobeoodkjaaGreatDoorLzQ4
set_option linter.unusedSimpArgs false
set_option linter.unusedVariables false
namespace Go.Proofs.TryzL
open Go.Proofs.Lz
set_option maxHeartbeats 2000000
theorem nE (c:UInt8):wcB c=(lowerB c||upperB c||Y7 c||decide (c.toNat=39)):=by
 rw [Bool.eq_iff_iff];simp [wcB,qR,lowerB,upperB,Y7,<-UInt8.toNat_inj];omega
theorem cV (c:UInt8):wsB c=(lowerB c||upperB c):=by
 rw [Bool.eq_iff_iff];simp [wsB,qR,lowerB,upperB,<-UInt8.toNat_inj];omega
theorem nJ (s:List UInt8) (hl:s.length<2^60):Rets Vv 97 [.c (.str s)] (.c (.bool (C7 s))):=by
 refine d4 zk5 ?_;cases h0:s[0]? with
 | none=>
   have:s=[]:=by cases s<;>simp_all
   subst this;repeat' first|apply x3|exact w9|exact u6 rfl|(apply x4;rfl;rfl)|(apply u3;rfl;rfl;rfl)|(apply B5;rfl)|(apply s9;rfl;(with_reducible rfl);rfl)|(apply l4;rfl;(with_reducible rfl);rfl)|(apply b9;focus (repeat (exact y6)))|apply v6|apply v7|apply v8|apply x9|(apply E9;rfl;(with_reducible rfl))|(apply s7;rfl;(with_reducible rfl))|(apply A9;rfl;(with_reducible rfl))|(apply zY;rfl)|(apply s8;rfl)|(with_reducible (first|apply o6|apply f6);intro hc)|(apply y8;rfl)
   all_goals first|rfl|(exfalso;simp_all;done)
 | some c=>
   have hlen:0<s.length:=by cases s<;>simp_all
   repeat' first|apply x3|exact w9|exact u6 rfl|(apply x4;rfl;rfl)|(apply u3;rfl;rfl;rfl)|(apply B5;rfl)|(apply G8;rfl;rfl)|(apply s9;rfl;(with_reducible rfl);rfl)|(apply l4;rfl;(with_reducible rfl);rfl)|(apply L1;rfl;rfl;rfl;assumption)|(apply w8 (hc:=rQ c);rfl;rfl;rfl)|(apply w8 (hc:=pE c);rfl;rfl;rfl)|(apply b9;focus (repeat (first | exact y6 | (apply s6;rfl))))|apply v6|apply v7|apply v8|apply f5|apply t7|apply x9|(apply E9;rfl;(with_reducible rfl))|(apply wP;rfl;(with_reducible rfl))|(apply c9;rfl)|(apply s7;rfl;(with_reducible rfl))|(apply K6;rfl;(with_reducible rfl))|(apply A9;rfl;(with_reducible rfl))|(apply zY;rfl)|(apply s8;rfl)|(with_reducible first|apply G5|apply H5)|(with_reducible (first|apply o6|apply f6|apply H6);intro hc)|(apply y8;rfl)
   any_goals (exfalso;omega)
   any_goals (refine cb ?_;simp [C7,h0];omega)
   any_goals (refine cb ?_;simp only [C7,cV,h0, *];simp;done)
   any_goals
    refine zJ (fun n:Nat=>[(0,.c (.str s)),(3,.c (.int .i64 n))]) (fun n=>n<=s.length/\(s.take n).all wcB=true) (fun n=>s.length - n) 0 ?_ ⟨by omega,tk0⟩ ?_
    . repeat' first|exact y6|refine I5 rfl ?_
    rintro n ⟨hn,hall⟩;repeat' first|apply x3|exact w9|exact u6 rfl|(apply x4;rfl;rfl)|(apply zD;rfl;rfl;omega)|(apply u3;rfl;rfl;rfl)|(apply B5;rfl)|(apply G8;rfl;rfl)|(apply s9;rfl;(with_reducible rfl);rfl)|(apply l4;rfl;(with_reducible rfl);rfl)|(apply L1;rfl;rfl;rfl;exact gEg (by omega))|(apply w8 (hc:=rQ s[n]);rfl;rfl;rfl)|(apply w8 (hc:=pE s[n]);rfl;rfl;rfl)|(apply w8 (hc:=q22 s[n]);rfl;rfl;rfl)|(apply b9;focus (repeat (first | exact y6 | (apply s6;rfl))))|apply v6|apply v7|apply v8|apply f5|apply t7|apply x9|apply U2|(apply wP;rfl;(with_reducible rfl))|(apply c9;rfl)|(apply s7;rfl;(with_reducible rfl))|(apply K6;rfl;(with_reducible rfl))|(apply s8;rfl)|(with_reducible first|apply G5|apply H5)|(with_reducible (first|apply jG|apply jS|apply o6|apply f6|apply H6);intro hc)|(apply y8;rfl)
    any_goals
     refine ⟨n+1,?_,rfl,⟨by omega,tkS (by omega) hall ?_⟩,by omega⟩
     . repeat' first|exact y6|refine I5 rfl ?_
     . rw [nE];simp [*]<;>omega
    any_goals
     refine cb ?_;simp only [C7,h0];first
     | (rw [tkF (p:=wcB) (n:=n) (by omega) (by rw [nE];simp [*]<;>omega)];simp;done)
     | (rw [tkE (by omega) hall];simp [cV, *]<;>omega)
end Go.Proofs.TryzL
namespace Go.Proofs.TryzL
open Go.Proofs.Lz
set_option maxHeartbeats 2000000
theorem fD (s:List UInt8) (hl:s.length<2^60):Rets Vv 100 [.c (.str s)] (.c (.bool (M1 s))):=by
 refine d4 ze9 ?_;cases h0:s[0]? with
 | none=>
   have:s=[]:=by cases s<;>simp_all
   subst this;repeat' first|apply x3|exact w9|exact u6 rfl|(apply x4;rfl;rfl)|(apply u3;rfl;rfl;rfl)|(apply B5;rfl)|(apply s9;rfl;(with_reducible rfl);rfl)|(apply l4;rfl;(with_reducible rfl);rfl)|(apply b9;focus (repeat (first | exact y6 | (apply s6;rfl))))|apply v6|apply v7|apply v8|apply f5|apply t7|apply x9|(apply E9;rfl;(with_reducible rfl))|(apply c9;rfl)|(apply s7;rfl;(with_reducible rfl))|(apply A9;rfl;(with_reducible rfl))|(apply s8;rfl)|(with_reducible (first|apply o6|apply f6);intro hc)|(apply y8;rfl)
   all_goals first|rfl|(exfalso;simp_all;done)
 | some c=>
   have hlen:0<s.length:=by cases s<;>simp_all
   repeat' first|apply x3|exact w9|exact u6 rfl|(apply x4;rfl;rfl)|(apply u3;rfl;rfl;rfl)|(apply B5;rfl)|(apply s9;rfl;(with_reducible rfl);rfl)|(apply l4;rfl;(with_reducible rfl);rfl)|(apply b9;focus (repeat (first | exact y6 | (apply s6;rfl))))|apply v6|apply v7|apply v8|apply f5|apply t7|apply x9|(apply E9;rfl;(with_reducible rfl))|(apply c9;rfl)|(apply s7;rfl;(with_reducible rfl))|(apply A9;rfl;(with_reducible rfl))|(apply s8;rfl)|(with_reducible (first|apply o6|apply f6);intro hc)|(apply y8;rfl)
   any_goals (exfalso;omega)
   any_goals (refine cb ?_;simp [M1,h0];omega)
   any_goals
    refine zJ (fun n:Nat=>[(0,.c (.str s)),(3,.c (.int .i64 ((s.take n).count 45:Nat))),(4,.c (.int .i64 n))]) (fun n=>n<=s.length/\(s.take n).all S3=true) (fun n=>s.length - n) 0 ?_ ⟨by omega,tk0⟩ ?_
    . repeat' first|exact y6|refine I5 rfl ?_
    rintro n ⟨hn,hall⟩;have hcn:(s.take n).count 45<=n:=by have:=List.count_le_length (a:=(45:UInt8)) (l:=s.take n);rw [List.length_take] at this;omega
    by_cases hns:n<s.length
    . repeat' first|apply x3|exact w9|exact u6 rfl|(apply x4;rfl;rfl)|(apply zD;rfl;rfl;omega)|(apply u3;rfl;rfl;rfl)|(apply B5;rfl)|(apply G8;rfl;rfl)|(apply s9;rfl;(with_reducible rfl);rfl)|(apply l4;rfl;(with_reducible rfl);rfl)|(apply L1;rfl;rfl;rfl;exact gEg (by omega))|(apply w8 (hc:=zx2 s[n]);rfl;rfl;rfl)|(apply b9;focus (repeat (first | exact y6 | (apply s6;rfl))))|apply v6|apply v7|apply v8|apply f5|apply t7|apply x9|apply U2|(apply c9;rfl)|(apply s7;rfl;(with_reducible rfl))|(apply A9;rfl;(with_reducible rfl))|(apply s8;rfl)|(with_reducible first|apply G5|apply H5)|(with_reducible (first|apply qN|apply qJ|apply o6|apply f6|apply H6);intro hc)|(apply y8;rfl)
      any_goals omega
      any_goals
       refine ⟨n+1,?_,rfl,⟨by omega,tkS (by omega) hall ?_⟩,by omega⟩
       . rw [ctS hns];have e1:(s[n]=45)↔((s[n].toNat:Int)=45):=by rw [<-UInt8.toNat_inj];simp;omega
         simp only [e1, *,if_true,if_false];repeat' first|exact y6|refine I5 rfl ?_
       . simp [*]
      any_goals
       refine cb ?_;simp only [M1,h0];rw [tkF (p:=S3) (n:=n) hns (by simp [*])];simp
    . have hnl:n=s.length:=by omega
      subst hnl;repeat' first|apply x3|exact w9|exact u6 rfl|(apply x4;rfl;rfl)|(apply u3;rfl;rfl;rfl)|(apply B5;rfl)|(apply s9;rfl;(with_reducible rfl);rfl)|(apply l4;rfl;(with_reducible rfl);rfl)|(apply L1;rfl;rfl;rfl;exact gEg (by omega))|(apply b9;focus (repeat (first | exact y6 | (apply s6;rfl))))|apply v6|apply v7|apply v8|apply f5|apply t7|apply x9|apply U2|(apply c9;rfl)|(apply s7;rfl;(with_reducible rfl))|(apply A9;rfl;(with_reducible rfl))|(apply s8;rfl)|(with_reducible (first|apply o6|apply f6);intro hc)|(apply y8;rfl)
      any_goals omega
      all_goals
       refine cb ?_;simp only [M1,h0];rw [List.take_length] at hall;simp only [List.take_length] at *;simp [*];try omega
end Go.Proofs.TryzL
namespace Go.Proofs.TryzL
open Go.Proofs.Lz
set_option maxHeartbeats 2000000
def J3 (s:List UInt8):Nat:=if C7 s then (if rwordL.contains s then 5 else if U8 s then 2 else 1) else if M1 s then (if rsymL.contains s then 6 else if s[0]?==some 58 then 4 else 3) else 0
theorem rO (s:List UInt8) (hl:s.length<2^31):Rets Vv 57 [.c (.str s)] (.c (.int .i64 (J3 s))):=by
 refine d4 zs5 ?_;cases h0:s[0]? with
 | none=>
   have e1:C7 s=false:=by simp [C7,h0]
   have e2:M1 s=false:=by simp [M1,h0]
   have h1:=nJ s (by omega);have h2:=fD s (by omega);rw [e1] at h1;rw [e2] at h2;repeat' first|apply x3|exact w9|(apply x4;rfl;rfl)|(apply w8 (hc:=h1);rfl;rfl;rfl)|(apply w8 (hc:=h2);rfl;rfl;rfl)|(apply b9;focus (repeat (first | exact y6 | (apply s6;rfl))))|apply v6|apply v7|apply v8|apply t7|apply x9|(apply wP;rfl;(with_reducible rfl))|(apply y8;rfl)
   all_goals (congr 1;simp [J3,e1,e2];done)
 | some c=>
   repeat' first|apply x3|exact w9|(apply x4;rfl;rfl)|(apply u3;rfl;rfl;rfl)|(apply L1;rfl;rfl;rfl;assumption)|(apply w8 (hc:=nJ s (by omega));rfl;rfl;rfl)|(apply w8 (hc:=fD s (by omega));rfl;rfl;rfl)|(apply w8 (hc:=eE s);rfl;rfl;rfl)|(apply w8 (hc:=zi9 s);rfl;rfl;rfl)|(apply w8 (hc:=pE c);rfl;rfl;rfl)|(apply b9;focus (repeat (first | exact y6 | (apply s6;rfl))))|apply v6|apply v7|apply v8|apply t7|apply x9|(apply c9;rfl)|(with_reducible (first|apply qN|apply qJ|apply H6);intro hc)|(apply y8;rfl)
   all_goals have e58:((c.toNat:Int)=58)↔c=58:=kC (n:=58) (by decide)
   all_goals (congr 1;simp_all [J3,U8];done)
def P2 (s:List UInt8):Bool:=decide (1<=J3 s/\J3 s<=4)
theorem zk1 (s:List UInt8) (hl:s.length<2^31):Rets Vv 58 [.c (.str s)] (.c (.bool (P2 s))):=by
 refine d4 oM ?_;repeat' first|apply x3|exact w9|exact u6 rfl|(apply x4;rfl;rfl)|(apply u3;rfl;rfl;rfl)|(apply s9;rfl;(with_reducible rfl);rfl)|(apply l4;rfl;(with_reducible rfl);rfl)|(apply w8 (hc:=rO s hl);rfl;rfl;rfl)|apply v6|apply v7|apply v8|apply x9|(apply s7;rfl;(with_reducible rfl))|(apply A9;rfl;(with_reducible rfl))|(apply s8;rfl)|(with_reducible (first|apply qN|apply qJ);intro hc)|(apply y8;rfl)
 all_goals (refine cb ?_;simp only [P2,decide_eq_true_eq,true_iff,false_iff,Bool.false_eq_true,beq_iff_eq];omega)
def A1 (m n:List UInt8):List UInt8:=if J3 m=2/\P2 n=true then m++[46]++n else []
theorem bJ (m n:List UInt8) (hm:m.length<2^31) (hn:n.length<2^31):Rets Vv 23 [.c (.str m),.c (.str n)] (.c (.str (A1 m n))):=by
 refine d4 zh2 ?_;repeat' first|apply x3|exact w9|exact u6 rfl|(apply x4;rfl;rfl)|(apply lG;rfl;rfl;(simp only [List.length_map,List.length_cons,List.length_nil,List.length_append,List.length_replicate];omega))|(apply u3;rfl;rfl;rfl)|(apply G8;rfl;rfl)|(apply s9;rfl;(with_reducible rfl);rfl)|(apply l4;rfl;(with_reducible rfl);rfl)|(apply w8 (hc:=rO m hm);rfl;rfl;rfl)|(apply w8 (hc:=zk1 n hn);rfl;rfl;rfl)|(apply b9;focus (repeat (first | exact y6 | (apply s6;rfl))))|apply v6|apply v7|apply v8|apply t7|apply x9|(apply E9;rfl;(with_reducible rfl))|(apply c9;rfl)|(apply s7;rfl;(with_reducible rfl))|(apply A9;rfl;(with_reducible rfl))|(apply s8;rfl)|(with_reducible first|apply G5|apply H5)|(with_reducible (first|apply jG|apply jS|apply H6);intro hc)|(apply y8;rfl)
 all_goals first
  | (have:¬ J3 m=2:=by omega
     simp [A1, *];done)
  | (have:J3 m=2:=by omega
     simp [A1, *];done)
def vH (s:List UInt8) (n:Nat):Option (List UInt8×List UInt8):=if A1 (s.take n) (s.drop (n+1))=[] then none else some (s.take n,s.drop (n+1))
def Q3 (s:List UInt8):Option (List UInt8×List UInt8):=match s.findIdx? (·==46) with
 | none=>none
 | some n=>vH s n
theorem tU {s:List UInt8} {n:Nat} {b:UInt8} (h:n<s.length) (h1:(s.take n).all (· != b)=true) (h2:s[n]=b):s.findIdx? (·==b)=some n:=by
 rw [List.findIdx?_eq_some_iff_getElem];refine ⟨h,by simp [h2],fun j hj=>?_⟩;have:=List.all_eq_true.1 h1 s[j] (by rw [List.mem_take_iff_getElem];exact ⟨j,by omega,rfl⟩);simpa using this
theorem q03 {s:List UInt8} {b:UInt8} (h1:s.all (· != b)=true):s.findIdx? (·==b)=none:=by
 rw [List.findIdx?_eq_none_iff];intro x hx;simpa using List.all_eq_true.1 h1 x hx
theorem zw3 (s:List UInt8) (hl:s.length<2^31):Rets Vv 22 [.c (.str s)] (splitV (Q3 s)):=by
 refine d4 z45 ?_;repeat' first|apply x3|exact w9|(apply x4;rfl;rfl)|apply v6|apply v7|apply v8|apply f5
 refine zJ (fun n:Nat=>[(0,.c (.str s)),(5,.c (.int .i64 n))]) (fun n=>n<=s.length/\(s.take n).all (· != 46)=true) (fun n=>s.length - n) 0 ?_ ⟨Nat.zero_le _,tk0⟩ ?_
 . repeat' first|exact y6|refine I5 rfl ?_
 rintro n ⟨hn,hall⟩;have hd:(s.drop (n+1)).length<2^31:=by rw [List.length_drop];omega
 have ht:(s.take n).length<2^31:=by rw [List.length_take];omega
 repeat' first|apply x3|exact w9|(apply x4;rfl;rfl)|(apply zD;rfl;rfl;omega)|(apply u3;rfl;rfl;rfl)|(apply B5;rfl)|(apply L1;rfl;rfl;rfl;exact gEg (by omega))|(apply zw5;rfl;rfl;omega)|(apply oU;rfl;rfl;rfl;omega)|(apply b9;focus (repeat (first | exact y6 | (apply s6;rfl))))|apply v6|apply v7|apply v8|apply f5|apply t7|apply x9|apply U2|apply iR|apply oZ|(apply c9;rfl)|(apply zm2;(exact rfl))|(with_reducible (first|apply M7|apply L9|apply jG|apply jS|apply o6|apply f6);intro hc)|(apply z80;rfl)|(apply z22)|(apply zv6 (hc:=bJ (s.take n) (s.drop (n+1)) ht hd);rfl;rfl;rfl)|(apply zl6;rfl)|(apply dO;(exact ShI.c rfl);(exact ShI.c rfl);(exact ShI.c rfl);(exact by decide))
 . refine ⟨n+1,?_,rfl,⟨by omega,tkS (by omega) hall ?_⟩,by omega⟩
   . repeat' first|exact y6|refine I5 rfl ?_
   . rename_i hc;have e:=kC (c:=s[n]'(by omega)) (n:=46) (by decide);simp only [bne_iff_ne,ne_eq];intro e2;rw [e2] at hc;exact hc rfl
 all_goals have h46:(h:n<s.length)->((s[n].toNat:Int)=46)->s[n]=46:=fun h h2=>(kC (n:=46) (by decide)).1 h2
 . rw [Q3,tU (by omega) hall (h46 (by omega) (by assumption))];simp [vH,splitV, *]
 . rw [Q3,tU (by omega) hall (h46 (by omega) (by assumption))];simp [vH,splitV, *]
 . rw [Q3,q03 (tkE (by omega) hall)];simp [splitV]
end Go.Proofs.TryzL
namespace Go.Proofs.TryzL
open Go.Proofs.Lz
theorem zd1:∀ s∈rwordL,U8 s=false:=by decide
theorem zf9 (m:List UInt8):(J3 m=2)↔(C7 m&&U8 m)=true:=by
 unfold J3;by_cases hw:C7 m=true
 . by_cases h1:m∈rwordL
   . have:=zd1 m h1;simp [hw,h1,this]
   . by_cases hu:U8 m=true<;>simp [hw,h1,hu]
 . simp only [Bool.not_eq_true] at hw;simp only [hw,Bool.false_and,Bool.false_eq_true,if_false,iff_false];split<;>(try split)<;>(try split)<;>simp
def eqN:List UInt8:=[69,113]
def D4:List UInt8:=[79,114,100]
theorem zq9:∀ (s:List UInt8),Lib.index s [46]=match s.findIdx? (·==46) with
 | none=>-1
 | some n=>(n:Int):=by
 intro s;induction s with
 | nil=>rfl
 | cons b l ih=>
   simp only [Lib.index,List.findIdx?_cons,List.isPrefixOf,Bool.and_true];by_cases h:b=46
   . subst h;simp
   . have h1:(b==46)=false:=by simpa using h
     have h2:((46:UInt8)==b)=false:=by simpa using Ne.symm h
     simp only [h1,h2,Bool.false_eq_true,if_false];rw [ih];cases l.findIdx? (·==46) with
     | none=>simp
     | some n=>simp<;>omega
theorem zw1 (m n:List UInt8):D5 m n=[]↔¬ (C7 m&&U8 m&&Y9 n)=true:=by
 unfold D5;split
 . rename_i h;simp [h]
 . rename_i h;simp [h]
theorem tX (m n:List UInt8):A1 m n=[]↔¬ (J3 m=2/\P2 n=true):=by
 unfold A1;split
 . rename_i h;simp [h]
 . rename_i h;simp [h]
def wW (s:List UInt8):Bool:=match S1 s with
 | none=>false
 | some p=>p.2==eqN||p.2==D4
def X5 (s:List UInt8):List UInt8:=match Q3 s with
 | none=>[]
 | some p=>if p.2=eqN then A1 p.1 [61,61] else if p.2=D4 then A1 p.1 [60,61] else []
theorem zv3:Y9 eqN=true/\P2 eqN=true/\Y9 D4=true/\P2 D4=true/\P2 [61,61]=true/\P2 [60,61]=true:=by decide
theorem z48 (a b:List UInt8):(match (if (true&&!(D5 a b==[]))=true then some (a,b) else none) with
 | none=>false
 | some p=>p.2==eqN||p.2==D4)=decide ((match (if A1 a b=[] then none else some (a,b)) with
 | none=>[]
 | some p=>if p.2=eqN then A1 p.1 [61,61] else if p.2=D4 then A1 p.1 [60,61] else [])≠[]):=by
 obtain ⟨k1,k2,k3,k4,k5,k6⟩:=zv3;have hj:∀ c,Y9 c=true->P2 c=true->(D5 a c=[]↔A1 a c=[]):=fun c h1 h2=>by
  rw [zw1,tX,h1,h2,Bool.and_true,zf9];simp
 have hk:∀ c,P2 c=true->(A1 a c=[]↔¬ (J3 a=2)):=fun c h2=>by
  rw [tX,h2];simp
 by_cases h1:b=eqN
 . subst h1;have j1:=hj eqN k1 k2;have j2:=hk eqN k2;have j3:=hk [61,61] k5;by_cases h3:J3 a=2
   . have r1:A1 a eqN≠[]:=fun h=>(j2.1 h) h3;have r2:D5 a eqN≠[]:=fun h=>r1 (j1.1 h);have r3:A1 a [61,61]≠[]:=fun h=>(j3.1 h) h3;simp [r1,r2,r3]
   . have r1:A1 a eqN=[]:=j2.2 h3;have r2:D5 a eqN=[]:=j1.2 r1;simp [r1,r2]
 . by_cases h2:b=D4
   . subst h2;have j1:=hj D4 k3 k4;have j2:=hk D4 k4;have j3:=hk [60,61] k6;by_cases h3:J3 a=2
     . have r1:A1 a D4≠[]:=fun h=>(j2.1 h) h3;have r2:D5 a D4≠[]:=fun h=>r1 (j1.1 h);have r3:A1 a [60,61]≠[]:=fun h=>(j3.1 h) h3;simp [r1,r2,r3,h1]
     . have r1:A1 a D4=[]:=j2.2 h3;have r2:D5 a D4=[]:=j1.2 r1;simp [r1,r2]
   . by_cases h3:D5 a b=[]
     . by_cases h4:A1 a b=[]<;>simp [h1,h2,h3,h4]
     . by_cases h4:A1 a b=[]<;>simp [h1,h2,h3,h4]
theorem zq7 (s:List UInt8):wW s=decide (X5 s≠[]):=by
 unfold wW X5 S1 Q3 Lib.cut;rw [zq9];cases h:s.findIdx? (·==46) with
 | none=>simp
 | some n=>
   have e:(if (0:Int)<=(n:Int) then (s.take (n:Int).toNat,s.drop ((n:Int).toNat+([46]:List UInt8).length),true) else (s,[],false))=(s.take n,s.drop (n+1),true):=by simp
   dsimp only;rw [e];exact z48 _ _
end Go.Proofs.TryzL
