/- Chapter 02: the reference's names: words, symbols, simple names. -/
import Derived.Test.YtencoceemejcnaaGreatDoorLzT5
import Derived.Lib.ItoaLen
set_option linter.unusedSimpArgs false
set_option linter.unusedVariables false
namespace Go.Proofs.TryzL
open Go.Proofs.Lz
def rsymL:List (List UInt8):=[[46,46],[58,58],[61],[92],[124],[60,45],[45,62],[64],[126],[61,62]]
def rwordL:List (List UInt8):=[[97,115],[99,97,115,101],[99,108,97,115,115],[100,97,116,97],[100,101,114,105,118,105,110,103],[100,111],[101,108,115,101],[104,105,100,105,110,103],[105,102],[105,109,112,111,114,116],[105,110],[105,110,102,105,120],[105,110,102,105,120,108],[105,110,102,105,120,114],[105,110,115,116,97,110,99,101],[108,101,116],[109,111,100,117,108,101],[111,102],[113,117,97,108,105,102,105,101,100],[116,104,101,110],[119,104,101,114,101],[95]]
theorem dP (s:List UInt8):Rets Vv 88 [.c (.str s)] (.c (.bool (rsymL.contains s))):=by
 refine m7 jd9 ?_;repeat' first|apply j2|exact q7|(apply j7;rfl;rfl)|(apply j9;rfl;rfl;rfl)|(apply w8;focus (repeat (first | exact q8 | (apply v6;rfl))))|apply j1|apply j3|apply j4|apply x3|apply v8|apply w9|(apply m5;rfl;(with_reducible rfl))|(apply v7;rfl)|(with_reducible (first|apply L1|apply L2);intro hc)|(apply s7;rfl)
 all_goals (refine cb ?_;simp_all [rsymL])
set_option maxHeartbeats 4000000 in
theorem mK (s:List UInt8):Rets Vv 87 [.c (.str s)] (.c (.bool (rwordL.contains s))):=by
 refine m7 zv0 ?_;repeat' first|apply j2|exact q7|(apply j7;rfl;rfl)|(apply j9;rfl;rfl;rfl)|(apply w8;focus (repeat (first | exact q8 | (apply v6;rfl))))|apply j1|apply j3|apply j4|apply x3|apply v8|apply w9|(apply m5;rfl;(with_reducible rfl))|(apply v7;rfl)|(with_reducible (first|apply L1|apply L2);intro hc)|(apply s7;rfl)
 all_goals (refine cb ?_;simp_all [rwordL])
end Go.Proofs.TryzL
namespace Go.Proofs.TryzL
open Go.Proofs.Lz
def qX (c:UInt8):Bool:=upperB c||decide (97<=c.toNat/\c.toNat<=122)
theorem nG (c:UInt8):Rets Vv 90 [.c (bC c)] (.c (.bool (upperB c))):=by
 refine m7 j49 ?_;repeat' first|apply j2|exact q7|exact j8 rfl|(apply j7;rfl;rfl)|(apply j9;rfl;rfl;rfl)|(apply y9;rfl;(with_reducible rfl);rfl)|(apply y0;rfl;(with_reducible rfl);rfl)|apply j1|apply j3|apply j4|apply w9|(apply x8;rfl;(with_reducible rfl))|(apply b9;rfl;(with_reducible rfl))|(apply y7;rfl)|(with_reducible (first|apply x6|apply x5);intro hc)|(apply s7;rfl)
 all_goals (refine cb ?_;simp [upperB];omega)
theorem qz4 (c:UInt8):Rets Vv 115 [.c (bC c)] (.c (.bool (t7 c))):=by
 refine m7 q57 ?_;repeat' first|apply j2|exact q7|exact j8 rfl|(apply j7;rfl;rfl)|(apply j9;rfl;rfl;rfl)|(apply y9;rfl;(with_reducible rfl);rfl)|(apply y0;rfl;(with_reducible rfl);rfl)|apply j1|apply j3|apply j4|apply w9|(apply x8;rfl;(with_reducible rfl))|(apply b9;rfl;(with_reducible rfl))|(apply y7;rfl)|(with_reducible (first|apply x6|apply x5);intro hc)|(apply s7;rfl)
 all_goals (refine cb ?_;simp [t7];omega)
theorem zi8 (c:UInt8):Rets Vv 114 [.c (bC c)] (.c (.bool (qX c))):=by
 refine m7 qk8 ?_;repeat' first|apply j2|exact q7|exact j8 rfl|(apply j7;rfl;rfl)|(apply j9;rfl;rfl;rfl)|(apply y9;rfl;(with_reducible rfl);rfl)|(apply y0;rfl;(with_reducible rfl);rfl)|(apply q6 (hc:=nG c);rfl;rfl;rfl)|apply j1|apply j3|apply j4|apply w9|(apply x8;rfl;(with_reducible rfl))|(apply b9;rfl;(with_reducible rfl))|(apply l4;rfl;(with_reducible rfl))|(apply qS;rfl)|(apply y7;rfl)|(with_reducible (first|apply x6|apply x5|apply C0);intro hc)|(apply s7;rfl)
 all_goals (refine cb ?_;simp [qX, *])
 all_goals omega
theorem qd6 (c:UInt8):Rets Vv 116 [.c (bC c)] (.c (.bool (u6 c))):=by
 refine m7 qm6 ?_;repeat' first|apply j2|exact q7|(apply j7;rfl;rfl)|(apply j9;rfl;rfl;rfl)|(apply q6 (hc:=uI symS c);rfl;rfl;rfl)|apply j1|apply j3|apply j4|apply w9|(apply s7;rfl)
 rw [yK];rfl
def wcB (c:UInt8):Bool:=qX c||t7 c||c==95||c==39
def wsB (c:UInt8):Bool:=qX c||c==95
def G7 (s:List UInt8):Bool:=match s[0]? with
 | none=>false
 | some c=>decide (s.length<=64)&&wsB c&&s.all wcB
theorem D7 {c:UInt8} {n:Nat} (hn:n<256):((c.toNat:Int)=(n:Int))↔c=UInt8.ofNat n:=by
 constructor
 . intro h;have h1:c.toNat=n:=by omega
   apply UInt8.toNat_inj.1;rw [h1];simp;omega
 . intro h;subst h;simp;omega
theorem tk0 {α:Type} {s:List α} {p:α->Bool}:(s.take 0).all p=true:=by simp
theorem tkS {α:Type} {s:List α} {p:α->Bool} {n:Nat} (h:n<s.length) (h1:(s.take n).all p=true) (h2:p s[n]=true):(s.take (n+1)).all p=true:=by
 rw [List.take_add_one,List.all_append,h1,gEg h];simpa using h2
theorem tkE {α:Type} {s:List α} {p:α->Bool} {n:Nat} (h:s.length<=n) (h1:(s.take n).all p=true):s.all p=true:=by rwa [List.take_of_length_le h] at h1
theorem tkF {α:Type} {s:List α} {p:α->Bool} {n:Nat} (h:n<s.length) (h2:p s[n]=false):s.all p=false:=by
 rw [List.all_eq_false];exact ⟨s[n],List.getElem_mem h,by rw [h2];simp⟩
set_option maxHeartbeats 2000000
theorem uE (s:List UInt8) (hl:s.length<2^60):Rets Vv 89 [.c (.str s)] (.c (.bool (G7 s))):=by
 refine m7 qo0 ?_;cases h0:s[0]? with
 | none=>
   have:s=[]:=by cases s<;>simp_all
   subst this;repeat' first|apply j2|exact q7|exact j8 rfl|(apply j7;rfl;rfl)|(apply j9;rfl;rfl;rfl)|(apply u5;rfl)|(apply y9;rfl;(with_reducible rfl);rfl)|(apply y0;rfl;(with_reducible rfl);rfl)|(apply w8;focus (repeat (exact q8)))|apply j1|apply j3|apply j4|apply w9|(apply m5;rfl;(with_reducible rfl))|(apply x8;rfl;(with_reducible rfl))|(apply l4;rfl;(with_reducible rfl))|(apply qS;rfl)|(apply y7;rfl)|(with_reducible (first|apply L1|apply L2|apply x6|apply x5);intro hc)|(apply s7;rfl)
   all_goals first|rfl|(exfalso;simp_all;done)
 | some c=>
   have hne:s≠[]:=by intro e;rw [e] at h0;cases h0
   repeat' first|apply j2|exact q7|exact j8 rfl|(apply j7;rfl;rfl)|(apply j9;rfl;rfl;rfl)|(apply u5;rfl)|(apply s6;rfl;rfl)|(apply y9;rfl;(with_reducible rfl);rfl)|(apply y0;rfl;(with_reducible rfl);rfl)|(apply x7;rfl;rfl;rfl;assumption)|(apply q6 (hc:=zi8 c);rfl;rfl;rfl)|(apply w8;focus (repeat (first | exact q8 | (apply v6;rfl))))|apply j1|apply j3|apply j4|apply x3|apply v8|apply w9|(apply m5;rfl;(with_reducible rfl))|(apply g9;rfl;(with_reducible rfl))|(apply v7;rfl)|(apply x8;rfl;(with_reducible rfl))|(apply b9;rfl;(with_reducible rfl))|(apply l4;rfl;(with_reducible rfl))|(apply qS;rfl)|(apply y7;rfl)|(with_reducible first|apply s4|apply s5)|(with_reducible (first|apply L1|apply L2|apply f5|apply f6|apply x6|apply x5|apply C0);intro hc)|(apply s7;rfl)
   any_goals contradiction
   any_goals (refine cb ?_;simp [G7,h0];omega)
   any_goals (refine cb ?_;simp [G7,wsB,h0,<-UInt8.toNat_inj, *];omega)
   any_goals
    refine I0 (fun n:Nat=>[(0,.c (.str s)),(3,.c (.int .i64 n))]) (fun n=>n<=s.length/\(s.take n).all wcB=true) (fun n=>s.length - n) 0 ?_ ⟨by omega,tk0⟩ ?_
    . repeat' first|exact q8|refine d5 rfl ?_
    rintro n ⟨hn,hall⟩;repeat' first|apply j2|exact q7|exact j8 rfl|(apply j7;rfl;rfl)|(apply b6;rfl;rfl;omega)|(apply j9;rfl;rfl;rfl)|(apply u5;rfl)|(apply s6;rfl;rfl)|(apply y9;rfl;(with_reducible rfl);rfl)|(apply y0;rfl;(with_reducible rfl);rfl)|(apply x7;rfl;rfl;rfl;exact gEg (by omega))|(apply q6 (hc:=zi8 s[n]);rfl;rfl;rfl)|(apply q6 (hc:=qz4 s[n]);rfl;rfl;rfl)|(apply w8;focus (repeat (first | exact q8 | (apply v6;rfl))))|apply j1|apply j3|apply j4|apply x3|apply v8|apply w9|apply l0|(apply g9;rfl;(with_reducible rfl))|(apply v7;rfl)|(apply x8;rfl;(with_reducible rfl))|(apply b9;rfl;(with_reducible rfl))|(apply y7;rfl)|(with_reducible first|apply s4|apply s5)|(with_reducible (first|apply f5|apply f6|apply x6|apply x5|apply C0);intro hc)|(apply s7;rfl)
    any_goals
     refine ⟨n+1,?_,rfl,⟨by omega,tkS (by omega) hall ?_⟩,by omega⟩
     . repeat' first|exact q8|refine d5 rfl ?_
     . simp [wcB,<-UInt8.toNat_inj, *]<;>omega
    any_goals
     refine cb ?_;simp only [G7,h0];first
     | (rw [tkF (p:=wcB) (n:=n) (by omega) (by simp [wcB,<-UInt8.toNat_inj, *]<;>omega)];simp;done)
     | (rw [tkE (by omega) hall];simp [wsB,<-UInt8.toNat_inj, *]<;>omega)
end Go.Proofs.TryzL
namespace Go.Proofs.TryzL
open Go.Proofs.Lz
set_option maxHeartbeats 2000000
theorem qw2 (s:List UInt8):Rets Vv 129 [.c (.str s)] (.c (.bool (rsymL.contains s))):=by
 refine m7 qb5 ?_;repeat' first|apply j2|exact q7|(apply j7;rfl;rfl)|(apply j9;rfl;rfl;rfl)|(apply w8;focus (repeat (first | exact q8 | (apply v6;rfl))))|apply j1|apply j3|apply j4|apply x3|apply v8|apply w9|(apply m5;rfl;(with_reducible rfl))|(apply v7;rfl)|(with_reducible (first|apply L1|apply L2);intro hc)|(apply s7;rfl)
 all_goals (refine cb ?_;simp_all [rsymL])
theorem zu7 (s:List UInt8):Rets Vv 126 [.c (.str s)] (.c (.bool (rwordL.contains s))):=by
 refine m7 zv9 ?_;repeat' first|apply j2|exact q7|(apply j7;rfl;rfl)|(apply j9;rfl;rfl;rfl)|(apply w8;focus (repeat (first | exact q8 | (apply v6;rfl))))|apply j1|apply j3|apply j4|apply x3|apply v8|apply w9|(apply m5;rfl;(with_reducible rfl))|(apply v7;rfl)|(with_reducible (first|apply L1|apply L2);intro hc)|(apply s7;rfl)
 all_goals (refine cb ?_;simp_all [rwordL])
end Go.Proofs.TryzL
namespace Go.Proofs.TryzL
open Go.Proofs.Lz
def N5 (s:List UInt8):Bool:=match s[0]? with
 | none=>false
 | some _=>decide (s.length<=64)&&s.all u6&&(decide (s.length=1)||decide (s.count 45<s.length))
theorem ctS {s:List UInt8} {n:Nat} (h:n<s.length):(s.take (n+1)).count 45=(s.take n).count 45+(if s[n]=45 then 1 else 0):=by
 rw [List.take_add_one,List.count_append,gEg h];by_cases e:s[n]=45
 . simp [e]
 . simp [e,List.count_cons]
set_option maxHeartbeats 2000000
theorem dG (s:List UInt8) (hl:s.length<2^60):Rets Vv 91 [.c (.str s)] (.c (.bool (N5 s))):=by
 refine m7 j59 ?_;cases h0:s[0]? with
 | none=>
   have:s=[]:=by cases s<;>simp_all
   subst this;repeat' first|apply j2|exact q7|(apply j7;rfl;rfl)|apply j1|apply j3|apply j4
   refine sO (fun _:Unit=>[]) (fun _ _=>False) (fun _=>0) ?_ (fun _ _ h=>h.elim);repeat' first|apply j2|exact q7|exact j8 rfl|(apply j7;rfl;rfl)|(apply j9;rfl;rfl;rfl)|(apply u5;rfl)|(apply y9;rfl;(with_reducible rfl);rfl)|(apply y0;rfl;(with_reducible rfl);rfl)|(apply w8;focus (repeat (first | exact q8 | (apply v6;rfl))))|apply j1|apply j3|apply j4|apply x3|apply v8|apply w9|apply lZ|(apply m5;rfl;(with_reducible rfl))|(apply v7;rfl)|(apply x8;rfl;(with_reducible rfl))|(apply l4;rfl;(with_reducible rfl))|(apply y7;rfl)|(with_reducible (first|apply L1|apply L2|apply x6|apply x5);intro hc)|(apply s7;rfl)
   all_goals first|rfl|(exfalso;simp_all;done)
 | some c=>
   have hne:s≠[]:=by intro e;rw [e] at h0;cases h0
   have hlen:0<s.length:=by cases s<;>simp_all
   repeat' first|apply j2|exact q7|(apply j7;rfl;rfl)|apply j1|apply j3|apply j4
   refine sO (fun _:Unit=>[]) (fun _ _=>False) (fun _=>0) ?_ (fun _ _ h=>h.elim);repeat' first|apply j2|exact q7|exact j8 rfl|(apply j7;rfl;rfl)|(apply j9;rfl;rfl;rfl)|(apply u5;rfl)|(apply y9;rfl;(with_reducible rfl);rfl)|(apply y0;rfl;(with_reducible rfl);rfl)|(apply w8;focus (repeat (first | exact q8 | (apply v6;rfl))))|apply j1|apply j3|apply j4|apply x3|apply v8|apply w9|apply lZ|(apply m5;rfl;(with_reducible rfl))|(apply v7;rfl)|(apply x8;rfl;(with_reducible rfl))|(apply l4;rfl;(with_reducible rfl))|(apply y7;rfl)|(with_reducible (first|apply L1|apply L2|apply x6|apply x5);intro hc)|(apply s7;rfl)
   any_goals contradiction
   any_goals (refine cb ?_;simp [N5,h0];omega)
   any_goals
    refine I0 (fun n:Nat=>[(0,.c (.str s)),(3,.c (.int .i64 ((s.take n).count 45:Nat))),(4,.c (.int .i64 n))]) (fun n=>n<=s.length/\(s.take n).all u6=true) (fun n=>s.length - n) 0 ?_ ⟨by omega,tk0⟩ ?_
    . repeat' first|exact q8|refine d5 rfl ?_
    rintro n ⟨hn,hall⟩;have hcn:(s.take n).count 45<=n:=by have:=List.count_le_length (a:=(45:UInt8)) (l:=s.take n);rw [List.length_take] at this;omega
    by_cases hns:n<s.length
    . repeat' first|apply j2|exact q7|exact j8 rfl|(apply j7;rfl;rfl)|(apply b6;rfl;rfl;omega)|(apply j9;rfl;rfl;rfl)|(apply u5;rfl)|(apply s6;rfl;rfl)|(apply y9;rfl;(with_reducible rfl);rfl)|(apply y0;rfl;(with_reducible rfl);rfl)|(apply x7;rfl;rfl;rfl;exact gEg (by omega))|(apply q6 (hc:=qd6 s[n]);rfl;rfl;rfl)|(apply w8;focus (repeat (first | exact q8 | (apply v6;rfl))))|apply j1|apply j3|apply j4|apply x3|apply v8|apply w9|apply l0|(apply v7;rfl)|(apply x8;rfl;(with_reducible rfl))|(apply l4;rfl;(with_reducible rfl))|(apply y7;rfl)|(with_reducible first|apply s4|apply s5)|(with_reducible (first|apply u7|apply g8|apply C0);intro hc)|(apply s7;rfl)
      any_goals omega
      any_goals
       refine ⟨n+1,?_,rfl,⟨by omega,tkS (by omega) hall ?_⟩,by omega⟩
       . rw [ctS hns];have e1:(s[n]=45)↔((s[n].toNat:Int)=45):=by rw [<-UInt8.toNat_inj];simp;omega
         simp only [e1, *,if_true,if_false];repeat' first|exact q8|refine d5 rfl ?_
       . simp [*]
      any_goals
       refine cb ?_;simp only [N5,h0];rw [tkF (p:=u6) (n:=n) hns (by simp [*])];simp
    . have hnl:n=s.length:=by omega
      subst hnl;repeat' first|apply j2|exact q7|exact j8 rfl|(apply j7;rfl;rfl)|(apply j9;rfl;rfl;rfl)|(apply u5;rfl)|(apply y9;rfl;(with_reducible rfl);rfl)|(apply y0;rfl;(with_reducible rfl);rfl)|(apply x7;rfl;rfl;rfl;exact gEg (by omega))|(apply w8;focus (repeat (first | exact q8 | (apply v6;rfl))))|apply j1|apply j3|apply j4|apply x3|apply v8|apply w9|apply l0|(apply v7;rfl)|(apply x8;rfl;(with_reducible rfl))|(apply l4;rfl;(with_reducible rfl))|(apply y7;rfl)|(with_reducible (first|apply u7|apply g8);intro hc)|(apply s7;rfl)
      any_goals omega
      all_goals
       refine cb ?_;simp only [N5,h0];rw [List.take_length] at hall;simp [*,List.take_length];try omega
end Go.Proofs.TryzL
namespace Go.Proofs.TryzL
open Go.Proofs.Lz
def dE (s:List UInt8):Bool:=(G7 s&&!rwordL.contains s)||(N5 s&&!rsymL.contains s)
set_option maxHeartbeats 2000000
theorem zc0 (s:List UInt8) (hl:s.length<2^60):Rets Vv 161 [.c (.str s)] (.c (.bool (dE s))):=by
 refine m7 q06 ?_;repeat' first|apply j2|exact q7|exact j8 rfl|(apply j7;rfl;rfl)|(apply s6;rfl;rfl)|(apply y9;rfl;(with_reducible rfl);rfl)|(apply y0;rfl;(with_reducible rfl);rfl)|(apply q6 (hc:=uE s hl);rfl;rfl;rfl)|(apply q6 (hc:=mK s);rfl;rfl;rfl)|(apply q6 (hc:=dG s hl);rfl;rfl;rfl)|(apply q6 (hc:=dP s);rfl;rfl;rfl)|apply j1|apply j3|apply j4|apply w9|(apply x8;rfl;(with_reducible rfl))|(apply b9;rfl;(with_reducible rfl))|(apply l4;rfl;(with_reducible rfl))|(apply qS;rfl)|(apply y7;rfl)|(with_reducible first|apply s4|apply s5)|(with_reducible apply C0;intro hc)|(apply s7;rfl)
 all_goals (simp only [dE, *];rfl)
def jN (s:List UInt8):Bool:=match s[0]? with
 | none=>false
 | some c=>upperB c
def bQ (m n:List UInt8):List UInt8:=if G7 m&&jN m&&dE n then m++[46]++n else []
theorem qn6 (m n:List UInt8) (hm:m.length<2^59) (hn:n.length<2^59):Rets Vv 174 [.c (.str m),.c (.str n)] (.c (.str (bQ m n))):=by
 refine m7 jb5 ?_;cases h0:m[0]? with
 | none=>
   have hw:G7 m=false:=by simp [G7,h0]
   repeat' first|apply j2|exact q7|exact j8 rfl|(apply j7;rfl;rfl)|(apply s6;rfl;rfl)|(apply y9;rfl;(with_reducible rfl);rfl)|(apply q6 (hc:=uE m (by omega));rfl;rfl;rfl)|(apply w8;focus (repeat (exact q8)))|apply j1|apply j3|apply j4|apply w9|(apply m5;rfl;(with_reducible rfl))|(apply x8;rfl;(with_reducible rfl))|(apply l4;rfl;(with_reducible rfl))|(apply y7;rfl)|(with_reducible first|apply s4|apply s5)|(with_reducible apply C0;intro hc)|(apply s7;rfl)
   all_goals first|(congr 1;simp [bQ, *];done)|(exfalso;simp_all;done)
 | some c=>
   repeat' first|apply j2|exact q7|exact j8 rfl|(apply j7;rfl;rfl)|(apply lY;rfl;rfl;(simp only [List.length_map,List.length_cons,List.length_nil,List.length_append,List.length_replicate];omega))|(apply s6;rfl;rfl)|(apply y9;rfl;(with_reducible rfl);rfl)|(apply y0;rfl;(with_reducible rfl);rfl)|(apply x7;rfl;rfl;rfl;assumption)|(apply q6 (hc:=uE m (by omega));rfl;rfl;rfl)|(apply q6 (hc:=zc0 n (by omega));rfl;rfl;rfl)|(apply q6 (hc:=nG c);rfl;rfl;rfl)|(apply w8;focus (repeat (first | exact q8 | (apply v6;rfl))))|apply j1|apply j3|apply j4|apply v8|apply w9|(apply m5;rfl;(with_reducible rfl))|(apply v7;rfl)|(apply x8;rfl;(with_reducible rfl))|(apply l4;rfl;(with_reducible rfl))|(apply y7;rfl)|(with_reducible first|apply s4|apply s5)|(with_reducible apply C0;intro hc)|(apply s7;rfl)
   all_goals first|(congr 1;simp [bQ,jN, *];done)|(exfalso;simp_all;done)
def bG (s:List UInt8):Option (List UInt8×List UInt8):=if (Lib.cut s [46]).2.2&&!(bQ (Lib.cut s [46]).1 (Lib.cut s [46]).2.1==[]) then some ((Lib.cut s [46]).1,(Lib.cut s [46]).2.1) else none
def splitV (o:Option (List UInt8×List UInt8)):WV:=match o with
 | none=>.tup [.c (.str []),.c (.str []),.c (.bool false)]
 | some p=>.tup [.c (.str p.1),.c (.str p.2),.c (.bool true)]
theorem j25 (s:List UInt8) (h:s.length<2^31):Rets Vv 173 [.c (.str s),.c (.str [46])] (.tup [.c (.str (Lib.cut s [46]).1),.c (.str (Lib.cut s [46]).2.1),.c (.bool (Lib.cut s [46]).2.2)]):=
 dT (V:=Vv) (f:=173) (xs:=[.str s,.str [46]]) (us:=[.str (Lib.cut s [46]).1,.str (Lib.cut s [46]).2.1,.bool (Lib.cut s [46]).2.2]) (g:=kF) rfl rfl (by simp only [kF];rw [if_pos (by omega)]) (by simp)
theorem qx3 (s:List UInt8):(Lib.cut s [46]).1.length<=s.length/\(Lib.cut s [46]).2.1.length<=s.length:=by
 unfold Lib.cut;split
 . simp;omega
 . simp
theorem zh5 (s:List UInt8) (hl:s.length<2^31):Rets Vv 160 [.c (.str s)] (splitV (bG s)):=by
 refine m7 qj7 ?_;obtain ⟨l1,l2⟩:=qx3 s;repeat' first|apply j2|exact q7|exact j8 rfl|(apply j7;rfl;rfl)|(apply j9;rfl;rfl;rfl)|(apply s6;rfl;rfl)|(apply y9;rfl;(with_reducible rfl);rfl)|(apply y0;rfl;(with_reducible rfl);rfl)|(apply A9;rfl;rfl;rfl)|(apply A7;rfl;rfl)|(apply q6 (hc:=j25 s hl);rfl;rfl;rfl)|(apply q6 (hc:=qn6 (Lib.cut s [46]).1 (Lib.cut s [46]).2.1 (by omega) (by omega));rfl;rfl;rfl)|(apply w8;focus (repeat (first | exact q8 | (apply v6;rfl))))|apply j1|apply j3|apply j4|apply v8|apply w9|(apply m5;rfl;(with_reducible rfl))|(apply v7;rfl)|(apply x8;rfl;(with_reducible rfl))|(apply l4;rfl;(with_reducible rfl))|(apply y7;rfl)|(with_reducible first|apply s4|apply s5)|(with_reducible (first|apply L1|apply L2|apply C0);intro hc)|(apply jJ;(exact ShI.c rfl);(exact ShI.c rfl);(exact ShI.c rfl);(exact by decide))
 all_goals (simp [bG,splitV, *])
def bW (s:List UInt8):Bool:=(bG s).isSome||dE s
theorem zx9 (s:List UInt8) (hl:s.length<2^31):Rets Vv 139 [.c (.str s)] (.c (.bool (bW s))):=by
 refine m7 jf5 ?_;cases h:bG s with
 | none=>
   have hs:Rets Vv 160 [.c (.str s)] (.tup [.c (.str []),.c (.str []),.c (.bool false)]):=by have:=zh5 s hl;rw [h] at this;exact this
   repeat' first|apply j2|exact q7|exact j8 rfl|(apply j7;rfl;rfl)|(apply y0;rfl;(with_reducible rfl);rfl)|(apply A9;rfl;rfl;rfl)|(apply A7;rfl;rfl)|(apply q6 (hc:=hs);rfl;rfl;rfl)|(apply q6 (hc:=zc0 s (by omega));rfl;rfl;rfl)|apply j1|apply j3|apply j4|apply w9|(apply x8;rfl;(with_reducible rfl))|(apply s7;rfl)
   all_goals (simp only [bW,h];rfl)
 | some p=>
   have hs:Rets Vv 160 [.c (.str s)] (.tup [.c (.str p.1),.c (.str p.2),.c (.bool true)]):=by have:=zh5 s hl;rw [h] at this;exact this
   repeat' first|apply j2|exact q7|exact j8 rfl|(apply j7;rfl;rfl)|(apply y9;rfl;(with_reducible rfl);rfl)|(apply A9;rfl;rfl;rfl)|(apply A7;rfl;rfl)|(apply q6 (hc:=hs);rfl;rfl;rfl)|apply j1|apply j3|apply j4|apply w9|(apply l4;rfl;(with_reducible rfl))|(apply s7;rfl)
   all_goals (simp only [bW,h];rfl)
def pV (b:List UInt8) (n:Int):List UInt8:=if decide (0<=n)&&bW b then b++[36]++Lib.itoa n else []
theorem q04 (n:Int) (h:-9223372036854775808<=n/\n<=9223372036854775807):Rets Vv 81 [.c (.int .i64 n)] (.c (.str (Lib.itoa n))):=
 pJ (V:=Vv) (f:=81) (xs:=[.int .i64 n]) (u:=.str (Lib.itoa n)) (g:=kH) rfl rfl (by simp only [kH];rw [if_pos h])
theorem qc9 (b:List UInt8) (n:Int) (hl:b.length<2^31) (hn:-9223372036854775808<=n/\n<=9223372036854775807):Rets Vv 119 [.c (.str b),.c (.int .i64 n)] (.c (.str (pV b n))):=by
 refine m7 q59 ?_;have hi:=Lib.itoa_length_le n hn.1 hn.2;repeat' first|apply j2|exact q7|exact j8 rfl|(apply j7;rfl;rfl)|(apply lY;rfl;rfl;(simp only [List.length_map,List.length_cons,List.length_nil,List.length_append,List.length_replicate];omega))|(apply j9;rfl;rfl;rfl)|(apply s6;rfl;rfl)|(apply y9;rfl;(with_reducible rfl);rfl)|(apply y0;rfl;(with_reducible rfl);rfl)|(apply q6 (hc:=zx9 b hl);rfl;rfl;rfl)|(apply q6 (hc:=q04 n hn);rfl;rfl;rfl)|(apply w8;focus (repeat (first | exact q8 | (apply v6;rfl))))|apply j1|apply j3|apply j4|apply v8|apply w9|(apply m5;rfl;(with_reducible rfl))|(apply v7;rfl)|(apply x8;rfl;(with_reducible rfl))|(apply l4;rfl;(with_reducible rfl))|(apply y7;rfl)|(with_reducible first|apply s4|apply s5)|(with_reducible (first|apply x6|apply x5|apply C0);intro hc)|(apply s7;rfl)
 all_goals first
  | (have:¬ 0<=n:=by omega
     simp [pV, *];done)
  | (have:0<=n:=by omega
     simp [pV, *];done)
theorem last_call (s:List UInt8) (h:s.length<2^31):Rets Vv 117 [.c (.str s),.c (.int .u8 36)] (.c (.int .i64 (Lib.lastIndexByte ⟨s.toArray⟩ 36))):=
 pJ (V:=Vv) (f:=117) (xs:=[.str s,.int .u8 36]) (u:=.int .i64 (Lib.lastIndexByte ⟨s.toArray⟩ 36)) (g:=uU) rfl rfl (by simp only [uU];rw [if_pos (by omega)])
theorem qf3 (s:List UInt8):-1<=Lib.lastIndexByte ⟨s.toArray⟩ 36/\Lib.lastIndexByte ⟨s.toArray⟩ 36<s.length:=by
 have h:=Lib.lastIndexByte_spec ⟨s.toArray⟩ 36;have hsz:(⟨s.toArray⟩:ByteArray).size=s.length:=by simp [ByteArray.size]
 rcases h with ⟨h,_⟩ | ⟨i,h1,h2,_⟩
 . rw [h];omega
 . rw [h2];rw [hsz] at h1;omega
def vG (s:List UInt8):WV:=match Lib.atoiAll s with
 | .ok v=>.tup [.c (.int .i64 v),.c .nili]
 | .range=>.tup [.c (.int .i64 (Lib.atoiSat s)),.c .opq]
 | _=>.tup [.c (.int .i64 0),.c .opq]
theorem qj8 (s:List UInt8) (h:s.length<2^31):Rets Vv 118 [.c (.str s)] (vG s):=by
 cases ha:Lib.atoiAll s with
 | ok v=>
   simp only [vG,ha];exact dT (V:=Vv) (f:=118) (xs:=[.str s]) (us:=[.int .i64 v,.nili]) (g:=jD) rfl rfl (by simp only [jD,ha];rw [if_pos (by omega)]) (by simp)
 | range=>
   simp only [vG,ha];exact dT (V:=Vv) (f:=118) (xs:=[.str s]) (us:=[.int .i64 (Lib.atoiSat s),.opq]) (g:=jD) rfl rfl (by simp only [jD,ha];rw [if_pos (by omega)]) (by simp)
 | _=>
   simp only [vG,ha];exact dT (V:=Vv) (f:=118) (xs:=[.str s]) (us:=[.int .i64 0,.opq]) (g:=jD) rfl rfl (by simp only [jD,ha];rw [if_pos (by omega)]) (by simp)
end Go.Proofs.TryzL
namespace Go.Proofs.TryzL
open Go.Proofs.Lz
def okA:Lib.NumEnd Int->Option Int
 | .ok v=>some v
 | _=>none
def kN (s:List UInt8) (k:Nat):Option (List UInt8×Int):=match okA (Lib.atoiAll (s.drop (k+1))) with
 | none=>none
 | some v=>if pV (s.take k) v=s then some (s.take k,v) else none
def xA (s:List UInt8):Option (List UInt8×Int):=if Lib.lastIndexByte ⟨s.toArray⟩ 36<0 then none else kN s (Lib.lastIndexByte ⟨s.toArray⟩ 36).toNat
def zZ (o:Option (List UInt8×Int)):WV:=match o with
 | none=>.tup [.c (.str []),.c (.int .i64 0),.c (.bool false)]
 | some p=>.tup [.c (.str p.1),.c (.int .i64 p.2),.c (.bool true)]
set_option maxHeartbeats 2000000
theorem tO (s:List UInt8) (hl:s.length<2^31):Rets Vv 92 [.c (.str s)] (zZ (xA s)):=by
 refine m7 j23 ?_;obtain ⟨b1,b2⟩:=qf3 s;by_cases h0:Lib.lastIndexByte ⟨s.toArray⟩ 36<0
 . repeat' first|apply j2|exact q7|(apply j7;rfl;rfl)|(apply b6;rfl;rfl;omega)|(apply j9;rfl;rfl;rfl)|(apply lW;rfl;rfl;omega;omega)|(apply q6 (hc:=last_call s hl);rfl;rfl;rfl)|(apply w8;focus (repeat (first | exact q8 | (apply v6;rfl))))|apply j1|apply j3|apply j4|apply v8|apply w9|(apply v7;rfl)|(with_reducible (first|apply x6|apply x5);intro hc)|(apply jJ;(exact ShI.c rfl);(exact ShI.c rfl);(exact ShI.c rfl);(exact by decide))
   . simp [xA,h0,zZ]
   . omega
 . obtain ⟨k,hk⟩:∃ k:Nat,Lib.lastIndexByte ⟨s.toArray⟩ 36=k:=⟨_,(Int.toNat_of_nonneg (by omega)).symm⟩;have hc:=last_call s hl;rw [hk] at hc b2 h0;have hb:xA s=kN s k:=by simp only [xA,hk];rw [if_neg h0];simp
   have hd:(s.drop (k+1)).length<2^31:=by rw [List.length_drop];omega
   have hat:=qj8 (s.drop (k+1)) hd;cases ha:Lib.atoiAll (s.drop (k+1)) with
   | ok v=>
     have hv:=Lib.atoiAll_bounds ha;simp only [vG,ha] at hat;have hm:=qc9 (s.take k) v (by rw [List.length_take];omega) hv;repeat' first|apply j2|exact q7|exact j8 rfl|(apply j7;rfl;rfl)|(apply b6;rfl;rfl;omega)|(apply j9;rfl;rfl;rfl)|(apply y9;rfl;(with_reducible rfl);rfl)|(apply y0;rfl;(with_reducible rfl);rfl)|(apply A9;rfl;rfl;rfl)|(apply A7;rfl;rfl)|(apply cK;rfl)|(apply mW;rfl;rfl;omega)|(apply qF;rfl;rfl;rfl;omega)|(apply q6 (hc:=hc);rfl;rfl;rfl)|(apply q6 (hc:=hat);rfl;rfl;rfl)|(apply q6 (hc:=hm);rfl;rfl;rfl)|(apply w8;focus (repeat (first | exact q8 | (apply v6;rfl))))|apply j1|apply j3|apply j4|apply v8|apply w9|(apply m5;rfl;(with_reducible rfl))|(apply v7;rfl)|(apply x8;rfl;(with_reducible rfl))|(apply l4;rfl;(with_reducible rfl))|(apply y7;rfl)|(with_reducible first|apply s4|apply s5)|(with_reducible (first|apply L1|apply L2|apply x6|apply x5|apply C0);intro hc)|(apply jJ;(exact ShI.c rfl);(exact ShI.c rfl);(exact ShI.c rfl);(exact by decide))
     all_goals first|(exfalso;omega)|(exfalso;simp at hc;done)|(rw [hb];simp [kN,ha,okA,zZ, *];done)
   | range=>
     simp only [vG,ha] at hat;repeat' first|apply j2|exact q7|exact j8 rfl|(apply j7;rfl;rfl)|(apply b6;rfl;rfl;omega)|(apply j9;rfl;rfl;rfl)|(apply y9;rfl;(with_reducible rfl);rfl)|(apply A9;rfl;rfl;rfl)|(apply A7;rfl;rfl)|(apply cK;rfl)|(apply mW;rfl;rfl;omega)|(apply qF;rfl;rfl;rfl;omega)|(apply q6 (hc:=hc);rfl;rfl;rfl)|(apply q6 (hc:=hat);rfl;rfl;rfl)|(apply w8;focus (repeat (first | exact q8 | (apply v6;rfl))))|apply j1|apply j3|apply j4|apply v8|apply w9|(apply m5;rfl;(with_reducible rfl))|(apply v7;rfl)|(apply x8;rfl;(with_reducible rfl))|(apply l4;rfl;(with_reducible rfl))|(apply y7;rfl)|(with_reducible (first|apply x6|apply x5|apply C0);intro hc)|(apply jJ;(exact ShI.c rfl);(exact ShI.c rfl);(exact ShI.c rfl);(exact by decide))
     all_goals first|(exfalso;omega)|(exfalso;simp at hc;done)|(rw [hb];simp [kN,ha,okA,zZ, *];done)
   | _=>
     simp only [vG,ha] at hat;repeat' first|apply j2|exact q7|exact j8 rfl|(apply j7;rfl;rfl)|(apply b6;rfl;rfl;omega)|(apply j9;rfl;rfl;rfl)|(apply y9;rfl;(with_reducible rfl);rfl)|(apply A9;rfl;rfl;rfl)|(apply A7;rfl;rfl)|(apply cK;rfl)|(apply mW;rfl;rfl;omega)|(apply qF;rfl;rfl;rfl;omega)|(apply q6 (hc:=hc);rfl;rfl;rfl)|(apply q6 (hc:=hat);rfl;rfl;rfl)|(apply w8;focus (repeat (first | exact q8 | (apply v6;rfl))))|apply j1|apply j3|apply j4|apply v8|apply w9|(apply m5;rfl;(with_reducible rfl))|(apply v7;rfl)|(apply x8;rfl;(with_reducible rfl))|(apply l4;rfl;(with_reducible rfl))|(apply y7;rfl)|(with_reducible (first|apply x6|apply x5|apply C0);intro hc)|(apply jJ;(exact ShI.c rfl);(exact ShI.c rfl);(exact ShI.c rfl);(exact by decide))
     all_goals first|(exfalso;omega)|(exfalso;simp at hc;done)|(rw [hb];simp [kN,ha,okA,zZ, *];done)
end Go.Proofs.TryzL
namespace Go.Proofs.TryzL
open Go.Proofs.Lz
set_option maxHeartbeats 2000000
def C4 (s:List UInt8):Nat:=if rwordL.contains s then 5 else if rsymL.contains s then 6 else if G7 s&&jN s then 2 else if G7 s then 1 else if N5 s&&s[0]?==some 58 then 4 else if N5 s then 3 else if (xA s).isSome then 7 else 0
theorem cJ (s:List UInt8) (hl:s.length<2^31):Rets Vv 60 [.c (.str s)] (.c (.int .i64 (C4 s))):=by
 refine m7 qt7 ?_;cases h0:s[0]? with
 | none=>
   have:s=[]:=by cases s<;>simp_all
   subst this;have hb:=tO [] hl;have hb':Rets Vv 92 [.c (.str [])] (zZ none):=hb;simp only [zZ] at hb';have e1:rwordL.contains []=false:=rfl;have e2:rsymL.contains []=false:=rfl;have e3:G7 []=false:=rfl;have e4:N5 []=false:=rfl;have h1:=mK [];have h2:=dP [];have h3:=uE [] (by simp);have h4:=dG [] (by simp);rw [e1] at h1;rw [e2] at h2;rw [e3] at h3;rw [e4] at h4;repeat' first|apply j2|exact q7|exact j8 rfl|(apply j7;rfl;rfl)|(apply y0;rfl;(with_reducible rfl);rfl)|(apply A9;rfl;rfl;rfl)|(apply A7;rfl;rfl)|(apply q6 (hc:=h1);rfl;rfl;rfl)|(apply q6 (hc:=h2);rfl;rfl;rfl)|(apply q6 (hc:=h3);rfl;rfl;rfl)|(apply q6 (hc:=h4);rfl;rfl;rfl)|(apply q6 (hc:=hb');rfl;rfl;rfl)|(apply w8;focus (repeat (first | exact q8 | (apply v6;rfl))))|apply j1|apply j3|apply j4|apply x3|apply v8|apply w9|(apply g9;rfl;(with_reducible rfl))|(apply b9;rfl;(with_reducible rfl))|(apply s7;rfl)
   all_goals rfl
 | some c=>
   cases hb:xA s with
   | none=>
     have hb':Rets Vv 92 [.c (.str s)] (zZ none):=hb▸tO s hl;simp only [zZ] at hb';repeat' first|apply j2|exact q7|exact j8 rfl|(apply j7;rfl;rfl)|(apply j9;rfl;rfl;rfl)|(apply y9;rfl;(with_reducible rfl);rfl)|(apply y0;rfl;(with_reducible rfl);rfl)|(apply x7;rfl;rfl;rfl;assumption)|(apply A9;rfl;rfl;rfl)|(apply A7;rfl;rfl)|(apply q6 (hc:=mK s);rfl;rfl;rfl)|(apply q6 (hc:=dP s);rfl;rfl;rfl)|(apply q6 (hc:=uE s (by omega));rfl;rfl;rfl)|(apply q6 (hc:=dG s (by omega));rfl;rfl;rfl)|(apply q6 (hc:=nG c);rfl;rfl;rfl)|(apply q6 (hc:=hb');rfl;rfl;rfl)|(apply w8;focus (repeat (first | exact q8 | (apply v6;rfl))))|apply j1|apply j3|apply j4|apply x3|apply v8|apply w9|(apply g9;rfl;(with_reducible rfl))|(apply v7;rfl)|(apply x8;rfl;(with_reducible rfl))|(apply b9;rfl;(with_reducible rfl))|(apply y7;rfl)|(with_reducible (first|apply u7|apply g8|apply C0);intro hc)|(apply s7;rfl)
     all_goals have e58:((c.toNat:Int)=58)↔c=58:=D7 (n:=58) (by decide)
     all_goals first|(exfalso;simp_all;done)|(congr 1;simp_all [C4,jN];done)
   | some p=>
     have hb':Rets Vv 92 [.c (.str s)] (zZ (some p)):=hb▸tO s hl;simp only [zZ] at hb';repeat' first|apply j2|exact q7|exact j8 rfl|(apply j7;rfl;rfl)|(apply j9;rfl;rfl;rfl)|(apply y9;rfl;(with_reducible rfl);rfl)|(apply y0;rfl;(with_reducible rfl);rfl)|(apply x7;rfl;rfl;rfl;assumption)|(apply A9;rfl;rfl;rfl)|(apply A7;rfl;rfl)|(apply q6 (hc:=mK s);rfl;rfl;rfl)|(apply q6 (hc:=dP s);rfl;rfl;rfl)|(apply q6 (hc:=uE s (by omega));rfl;rfl;rfl)|(apply q6 (hc:=dG s (by omega));rfl;rfl;rfl)|(apply q6 (hc:=nG c);rfl;rfl;rfl)|(apply q6 (hc:=hb');rfl;rfl;rfl)|(apply w8;focus (repeat (first | exact q8 | (apply v6;rfl))))|apply j1|apply j3|apply j4|apply x3|apply v8|apply w9|(apply m5;rfl;(with_reducible rfl))|(apply g9;rfl;(with_reducible rfl))|(apply v7;rfl)|(apply x8;rfl;(with_reducible rfl))|(apply b9;rfl;(with_reducible rfl))|(apply y7;rfl)|(with_reducible (first|apply u7|apply g8|apply C0);intro hc)|(apply s7;rfl)
     all_goals have e58:((c.toNat:Int)=58)↔c=58:=D7 (n:=58) (by decide)
     all_goals first|(exfalso;simp_all;done)|(congr 1;simp_all [C4,jN];done)
end Go.Proofs.TryzL
namespace Go.Proofs.TryzL
open Go.Proofs.Lz
set_option maxHeartbeats 2000000
theorem z27 (c:UInt8):Rets Vv 147 [.c (bC c)] (.c (.bool (lowerB c))):=by
 refine m7 jd7 ?_;repeat' first|apply j2|exact q7|exact j8 rfl|(apply j7;rfl;rfl)|(apply j9;rfl;rfl;rfl)|(apply y9;rfl;(with_reducible rfl);rfl)|(apply y0;rfl;(with_reducible rfl);rfl)|apply j1|apply j3|apply j4|apply w9|(apply x8;rfl;(with_reducible rfl))|(apply b9;rfl;(with_reducible rfl))|(apply l4;rfl;(with_reducible rfl))|(apply y7;rfl)|(with_reducible (first|apply x6|apply x5);intro hc)|(apply s7;rfl)
 all_goals (refine cb ?_;simp [lowerB];omega)
theorem cP (c:UInt8):Rets Vv 127 [.c (bC c)] (.c (.bool (upperB c))):=by
 refine m7 zq6 ?_;repeat' first|apply j2|exact q7|exact j8 rfl|(apply j7;rfl;rfl)|(apply j9;rfl;rfl;rfl)|(apply y9;rfl;(with_reducible rfl);rfl)|(apply y0;rfl;(with_reducible rfl);rfl)|apply j1|apply j3|apply j4|apply w9|(apply x8;rfl;(with_reducible rfl))|(apply b9;rfl;(with_reducible rfl))|(apply y7;rfl)|(with_reducible (first|apply x6|apply x5);intro hc)|(apply s7;rfl)
 all_goals (refine cb ?_;simp [upperB];omega)
theorem zo4 (c:UInt8):Rets Vv 148 [.c (bC c)] (.c (.bool (t7 c))):=by
 refine m7 j86 ?_;repeat' first|apply j2|exact q7|exact j8 rfl|(apply j7;rfl;rfl)|(apply j9;rfl;rfl;rfl)|(apply y9;rfl;(with_reducible rfl);rfl)|(apply y0;rfl;(with_reducible rfl);rfl)|apply j1|apply j3|apply j4|apply w9|(apply x8;rfl;(with_reducible rfl))|(apply b9;rfl;(with_reducible rfl))|(apply y7;rfl)|(with_reducible (first|apply x6|apply x5);intro hc)|(apply s7;rfl)
 all_goals (refine cb ?_;simp [t7];omega)
theorem u8i {a b:UInt8}:((a.toNat:Int)=(b.toNat:Int))↔a=b:=by rw [<-UInt8.toNat_inj];omega
theorem j24 (c:UInt8):Rets Vv 149 [.c (bC c)] (.c (.bool (u6 c))):=by
 refine m7 zq9 ?_;repeat' first|apply j2|exact q7|(apply j7;rfl;rfl)|apply j1|apply j3|apply j4|apply x3
 refine I0 (fun n:Nat=>[(0,.c (bC c)),(3,.c (.str symS)),(4,.c (.int .i64 n))]) (fun n=>n<=symS.length/\(symS.take n).all (· != c)=true) (fun n=>symS.length - n) 0 ?_ ⟨by omega,tk0⟩ ?_
 . repeat' first|exact q8|refine d5 rfl ?_
 rintro n ⟨hn,hall⟩;have h20:symS.length=20:=rfl;repeat' first|apply j2|exact q7|(apply j7;rfl;rfl)|(apply b6;rfl;rfl;omega)|(apply j9;rfl;rfl;rfl)|(apply u5;rfl)|(apply x7;rfl;rfl;rfl;exact gEg (by omega))|(apply w8;focus (repeat (first | exact q8 | (apply v6;rfl))))|apply j1|apply j3|apply j4|apply x3|apply v8|apply w9|apply l0|(apply v7;rfl)|(with_reducible (first|apply u7|apply g8|apply x6|apply x5);intro hc)|(apply s7;rfl)
 . refine cb ?_;rename_i hc;have e:=u8i.1 hc;simp only [u6,true_iff,List.contains_eq_mem,decide_eq_true_eq];rw [<-e];exact List.getElem_mem _
 . refine ⟨n+1,?_,rfl,⟨by omega,tkS (by omega) hall ?_⟩,by omega⟩
   . repeat' first|exact q8|refine d5 rfl ?_
   . rename_i hc;rw [u8i] at hc;simpa using hc
 . refine cb ?_;have:=tkE (by omega) hall;simp only [u6,List.contains_eq_mem];simp only [List.all_eq_true,bne_iff_ne] at this;constructor
   . intro h;cases h
   . intro h;exact absurd rfl (this c (by simpa using h))
end Go.Proofs.TryzL
