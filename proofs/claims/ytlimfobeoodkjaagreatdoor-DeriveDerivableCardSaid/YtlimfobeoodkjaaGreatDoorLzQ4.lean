/- Chapter 12: the reference names: bytes. -/
import Derived.Test.YtlimfobeoodkjaaGreatDoorLzSeat12
set_option linter.unusedSimpArgs false
set_option linter.unusedVariables false
namespace Go.Proofs.TryzL
open Go.Proofs.Lz
def bC (c:UInt8):CV:=.int .u8 c.toNat
def upperB (c:UInt8):Bool:=decide (65<=c.toNat/\c.toNat<=90)
def lowerB (c:UInt8):Bool:=decide (97<=c.toNat/\c.toNat<=122\/c.toNat=95)
def Y7 (c:UInt8):Bool:=decide (48<=c.toNat/\c.toNat<=57)
theorem cb {a b:Bool} (h:a=true↔b=true):CV.bool a=CV.bool b:=by rw [Bool.eq_iff_iff.2 h]
def symS:List UInt8:=[33,35,36,37,38,42,43,46,47,60,61,62,63,64,92,94,124,45,126,58]
def S3 (c:UInt8):Bool:=symS.contains c
theorem z79 (s:List UInt8) (c:UInt8):Rets Vv 211 [.c (.str s),.c (bC c)] (.c (.int .i64 (Lib.indexByte s c))):=by
 have h:=aV (V:=Vv) (f:=211) (xs:=[.str s,bC c]) (u:=.int .i64 (Lib.indexByte s c)) (g:=qC) rfl rfl (by simp [qC,bC]);exact h
theorem eP (c:UInt8):∀ s:List UInt8,decide (0<=Lib.indexByte s c)=s.contains c:=by
 intro s;induction s with
 | nil=>simp [Lib.indexByte]
 | cons x r ih=>
   have hge:=Lib.indexByte_ge r c;simp only [Lib.indexByte,List.contains_cons,<-ih];by_cases h:x=c
   . subst h;simp
   . have h1:(x==c)=false:=by simpa using h
     have h2:(c==x)=false:=by simpa using Ne.symm h
     simp only [h1,h2,Bool.false_eq_true,if_false,Bool.false_or];by_cases h3:Lib.indexByte r c=-1
     . simp [h3]
     . have h4:(Lib.indexByte r c==-1)=false:=by simpa using h3
       simp only [h4,Bool.false_eq_true,if_false,decide_eq_decide];omega
def rsymL:List (List UInt8):=[[46,46],[58,58],[61],[92],[124],[60,45],[45,62],[64],[126],[61,62]]
def rwordL:List (List UInt8):=[[97,115],[99,97,115,101],[99,108,97,115,115],[100,97,116,97],[100,101,114,105,118,105,110,103],[100,111],[101,108,115,101],[104,105,100,105,110,103],[105,102],[105,109,112,111,114,116],[105,110],[105,110,102,105,120],[105,110,102,105,120,108],[105,110,102,105,120,114],[105,110,115,116,97,110,99,101],[108,101,116],[109,111,100,117,108,101],[111,102],[113,117,97,108,105,102,105,101,100],[116,104,101,110],[119,104,101,114,101],[95]]
theorem iW (s:List UInt8):Rets Vv 95 [.c (.str s)] (.c (.bool (rsymL.contains s))):=by
 refine d4 zy0 ?_;repeat' first|apply x3|exact w9|(apply x4;rfl;rfl)|(apply u3;rfl;rfl;rfl)|(apply b9;focus (repeat (first | exact y6 | (apply s6;rfl))))|apply v6|apply v7|apply v8|apply f5|apply t7|apply x9|(apply E9;rfl;(with_reducible rfl))|(apply c9;rfl)|(with_reducible (first|apply M7|apply L9);intro hc)|(apply y8;rfl)
 all_goals (refine cb ?_;simp_all [rsymL])
set_option maxHeartbeats 4000000 in
theorem eG (s:List UInt8):Rets Vv 93 [.c (.str s)] (.c (.bool (rwordL.contains s))):=by
 refine d4 z25 ?_;repeat' first|apply x3|exact w9|(apply x4;rfl;rfl)|(apply u3;rfl;rfl;rfl)|(apply b9;focus (repeat (first | exact y6 | (apply s6;rfl))))|apply v6|apply v7|apply v8|apply f5|apply t7|apply x9|(apply E9;rfl;(with_reducible rfl))|(apply c9;rfl)|(with_reducible (first|apply M7|apply L9);intro hc)|(apply y8;rfl)
 all_goals (refine cb ?_;simp_all [rwordL])
def qR (c:UInt8):Bool:=upperB c||decide (97<=c.toNat/\c.toNat<=122)
theorem dQ (c:UInt8):Rets Vv 49 [.c (bC c)] (.c (.bool (upperB c))):=by
 refine d4 zt8 ?_;repeat' first|apply x3|exact w9|exact u6 rfl|(apply x4;rfl;rfl)|(apply u3;rfl;rfl;rfl)|(apply s9;rfl;(with_reducible rfl);rfl)|(apply l4;rfl;(with_reducible rfl);rfl)|apply v6|apply v7|apply v8|apply x9|(apply s7;rfl;(with_reducible rfl))|(apply K6;rfl;(with_reducible rfl))|(apply s8;rfl)|(with_reducible (first|apply o6|apply f6);intro hc)|(apply y8;rfl)
 all_goals (refine cb ?_;simp [upperB];omega)
theorem zt6 (c:UInt8):Rets Vv 92 [.c (bC c)] (.c (.bool (Y7 c))):=by
 refine d4 q00 ?_;repeat' first|apply x3|exact w9|exact u6 rfl|(apply x4;rfl;rfl)|(apply u3;rfl;rfl;rfl)|(apply s9;rfl;(with_reducible rfl);rfl)|(apply l4;rfl;(with_reducible rfl);rfl)|apply v6|apply v7|apply v8|apply x9|(apply s7;rfl;(with_reducible rfl))|(apply K6;rfl;(with_reducible rfl))|(apply s8;rfl)|(with_reducible (first|apply o6|apply f6);intro hc)|(apply y8;rfl)
 all_goals (refine cb ?_;simp [Y7];omega)
theorem tG (c:UInt8):Rets Vv 91 [.c (bC c)] (.c (.bool (qR c))):=by
 refine d4 zk7 ?_;repeat' first|apply x3|exact w9|exact u6 rfl|(apply x4;rfl;rfl)|(apply u3;rfl;rfl;rfl)|(apply s9;rfl;(with_reducible rfl);rfl)|(apply l4;rfl;(with_reducible rfl);rfl)|(apply w8 (hc:=dQ c);rfl;rfl;rfl)|apply v6|apply v7|apply v8|apply x9|(apply s7;rfl;(with_reducible rfl))|(apply K6;rfl;(with_reducible rfl))|(apply A9;rfl;(with_reducible rfl))|(apply zY;rfl)|(apply s8;rfl)|(with_reducible (first|apply o6|apply f6|apply H6);intro hc)|(apply y8;rfl)
 all_goals (refine cb ?_;simp [qR, *])
 all_goals omega
theorem hI (c:UInt8):Rets Vv 160 [.c (bC c)] (.c (.bool (S3 c))):=by
 refine d4 zm8 ?_;repeat' first|apply x3|exact w9|(apply x4;rfl;rfl)|(apply u3;rfl;rfl;rfl)|(apply w8 (hc:=z79 symS c);rfl;rfl;rfl)|apply v6|apply v7|apply v8|apply x9|(apply y8;rfl)
 rw [eP];rfl
def wcB (c:UInt8):Bool:=qR c||Y7 c||c==95||c==39
def wsB (c:UInt8):Bool:=qR c||c==95
def C7 (s:List UInt8):Bool:=match s[0]? with
 | none=>false
 | some c=>decide (s.length<=64)&&wsB c&&s.all wcB
theorem kC {c:UInt8} {n:Nat} (hn:n<256):((c.toNat:Int)=(n:Int))↔c=UInt8.ofNat n:=by
 constructor
 . intro h;have h1:c.toNat=n:=by omega
   apply UInt8.toNat_inj.1;rw [h1];simp;omega
 . intro h;subst h;simp;omega
theorem tk0 {α:Type} {s:List α} {p:α->Bool}:(s.take 0).all p=true:=by simp
theorem tkS {α:Type} {s:List α} {p:α->Bool} {n:Nat} (h:n<s.length) (h1:(s.take n).all p=true) (h2:p s[n]=true):(s.take (n+1)).all p=true:=by
 rw [List.take_add_one,List.all_append,h1,gEg h];simpa using h2
theorem tkE {α:Type} {s:List α} {p:α->Bool} {n:Nat} (h:s.length<=n) (h1:(s.take n).all p=true):s.all p=true:=by rwa [List.take_of_length_le h] at h1
theorem tkF {α:Type} {s:List α} {p:α->Bool} {n:Nat} (h:n<s.length) (h2:p s[n]=false):s.all p=false:=by
 rw [List.all_eq_false];exact ⟨s[n],List.getElem_mem h,by rw [h2];simp⟩
set_option maxHeartbeats 2000000
theorem kO (s:List UInt8) (hl:s.length<2^60):Rets Vv 48 [.c (.str s)] (.c (.bool (C7 s))):=by
 refine d4 iH ?_;cases h0:s[0]? with
 | none=>
   have:s=[]:=by cases s<;>simp_all
   subst this;repeat' first|apply x3|exact w9|exact u6 rfl|(apply x4;rfl;rfl)|(apply u3;rfl;rfl;rfl)|(apply B5;rfl)|(apply s9;rfl;(with_reducible rfl);rfl)|(apply l4;rfl;(with_reducible rfl);rfl)|(apply b9;focus (repeat (exact y6)))|apply v6|apply v7|apply v8|apply x9|(apply E9;rfl;(with_reducible rfl))|(apply s7;rfl;(with_reducible rfl))|(apply A9;rfl;(with_reducible rfl))|(apply zY;rfl)|(apply s8;rfl)|(with_reducible (first|apply M7|apply L9|apply o6|apply f6);intro hc)|(apply y8;rfl)
   all_goals first|rfl|(exfalso;simp_all;done)
 | some c=>
   have hne:s≠[]:=by intro e;rw [e] at h0;cases h0
   repeat' first|apply x3|exact w9|exact u6 rfl|(apply x4;rfl;rfl)|(apply u3;rfl;rfl;rfl)|(apply B5;rfl)|(apply G8;rfl;rfl)|(apply s9;rfl;(with_reducible rfl);rfl)|(apply l4;rfl;(with_reducible rfl);rfl)|(apply L1;rfl;rfl;rfl;assumption)|(apply w8 (hc:=tG c);rfl;rfl;rfl)|(apply b9;focus (repeat (first | exact y6 | (apply s6;rfl))))|apply v6|apply v7|apply v8|apply f5|apply t7|apply x9|(apply E9;rfl;(with_reducible rfl))|(apply wP;rfl;(with_reducible rfl))|(apply c9;rfl)|(apply s7;rfl;(with_reducible rfl))|(apply K6;rfl;(with_reducible rfl))|(apply A9;rfl;(with_reducible rfl))|(apply zY;rfl)|(apply s8;rfl)|(with_reducible first|apply G5|apply H5)|(with_reducible (first|apply M7|apply L9|apply jG|apply jS|apply o6|apply f6|apply H6);intro hc)|(apply y8;rfl)
   any_goals contradiction
   any_goals (refine cb ?_;simp [C7,h0];omega)
   any_goals (refine cb ?_;simp [C7,wsB,h0,<-UInt8.toNat_inj, *];omega)
   any_goals
    refine zJ (fun n:Nat=>[(0,.c (.str s)),(3,.c (.int .i64 n))]) (fun n=>n<=s.length/\(s.take n).all wcB=true) (fun n=>s.length - n) 0 ?_ ⟨by omega,tk0⟩ ?_
    . repeat' first|exact y6|refine I5 rfl ?_
    rintro n ⟨hn,hall⟩;repeat' first|apply x3|exact w9|exact u6 rfl|(apply x4;rfl;rfl)|(apply zD;rfl;rfl;omega)|(apply u3;rfl;rfl;rfl)|(apply B5;rfl)|(apply G8;rfl;rfl)|(apply s9;rfl;(with_reducible rfl);rfl)|(apply l4;rfl;(with_reducible rfl);rfl)|(apply L1;rfl;rfl;rfl;exact gEg (by omega))|(apply w8 (hc:=tG s[n]);rfl;rfl;rfl)|(apply w8 (hc:=zt6 s[n]);rfl;rfl;rfl)|(apply b9;focus (repeat (first | exact y6 | (apply s6;rfl))))|apply v6|apply v7|apply v8|apply f5|apply t7|apply x9|apply U2|(apply wP;rfl;(with_reducible rfl))|(apply c9;rfl)|(apply s7;rfl;(with_reducible rfl))|(apply K6;rfl;(with_reducible rfl))|(apply s8;rfl)|(with_reducible first|apply G5|apply H5)|(with_reducible (first|apply jG|apply jS|apply o6|apply f6|apply H6);intro hc)|(apply y8;rfl)
    any_goals
     refine ⟨n+1,?_,rfl,⟨by omega,tkS (by omega) hall ?_⟩,by omega⟩
     . repeat' first|exact y6|refine I5 rfl ?_
     . simp [wcB,<-UInt8.toNat_inj, *]<;>omega
    any_goals
     refine cb ?_;simp only [C7,h0];first
     | (rw [tkF (p:=wcB) (n:=n) (by omega) (by simp [wcB,<-UInt8.toNat_inj, *]<;>omega)];simp;done)
     | (rw [tkE (by omega) hall];simp [wsB,<-UInt8.toNat_inj, *]<;>omega)
end Go.Proofs.TryzL
namespace Go.Proofs.TryzL
open Go.Proofs.Lz
def M1 (s:List UInt8):Bool:=match s[0]? with
 | none=>false
 | some _=>decide (s.length<=64)&&s.all S3&&(decide (s.length=1)||decide (s.count 45<s.length))
theorem ctS {s:List UInt8} {n:Nat} (h:n<s.length):(s.take (n+1)).count 45=(s.take n).count 45+(if s[n]=45 then 1 else 0):=by
 rw [List.take_add_one,List.count_append,gEg h];by_cases e:s[n]=45
 . simp [e]
 . simp [e,List.count_cons]
set_option maxHeartbeats 2000000
theorem zr4 (s:List UInt8) (hl:s.length<2^60):Rets Vv 94 [.c (.str s)] (.c (.bool (M1 s))):=by
 refine d4 zi0 ?_;cases h0:s[0]? with
 | none=>
   have:s=[]:=by cases s<;>simp_all
   subst this;repeat' first|apply x3|exact w9|(apply x4;rfl;rfl)|apply v6|apply v7|apply v8
   refine nF (fun _:Unit=>[]) (fun _ _=>False) (fun _=>0) ?_ (fun _ _ h=>h.elim);repeat' first|apply x3|exact w9|exact u6 rfl|(apply x4;rfl;rfl)|(apply u3;rfl;rfl;rfl)|(apply B5;rfl)|(apply s9;rfl;(with_reducible rfl);rfl)|(apply l4;rfl;(with_reducible rfl);rfl)|(apply b9;focus (repeat (first | exact y6 | (apply s6;rfl))))|apply v6|apply v7|apply v8|apply f5|apply t7|apply x9|apply mJ|(apply E9;rfl;(with_reducible rfl))|(apply c9;rfl)|(apply s7;rfl;(with_reducible rfl))|(apply A9;rfl;(with_reducible rfl))|(apply s8;rfl)|(with_reducible (first|apply M7|apply L9|apply o6|apply f6);intro hc)|(apply y8;rfl)
   all_goals first|rfl|(exfalso;simp_all;done)
 | some c=>
   have hne:s≠[]:=by intro e;rw [e] at h0;cases h0
   have hlen:0<s.length:=by cases s<;>simp_all
   repeat' first|apply x3|exact w9|(apply x4;rfl;rfl)|apply v6|apply v7|apply v8
   refine nF (fun _:Unit=>[]) (fun _ _=>False) (fun _=>0) ?_ (fun _ _ h=>h.elim);repeat' first|apply x3|exact w9|exact u6 rfl|(apply x4;rfl;rfl)|(apply u3;rfl;rfl;rfl)|(apply B5;rfl)|(apply s9;rfl;(with_reducible rfl);rfl)|(apply l4;rfl;(with_reducible rfl);rfl)|(apply b9;focus (repeat (first | exact y6 | (apply s6;rfl))))|apply v6|apply v7|apply v8|apply f5|apply t7|apply x9|apply mJ|(apply E9;rfl;(with_reducible rfl))|(apply c9;rfl)|(apply s7;rfl;(with_reducible rfl))|(apply A9;rfl;(with_reducible rfl))|(apply s8;rfl)|(with_reducible (first|apply M7|apply L9|apply o6|apply f6);intro hc)|(apply y8;rfl)
   any_goals contradiction
   any_goals (refine cb ?_;simp [M1,h0];omega)
   any_goals
    refine zJ (fun n:Nat=>[(0,.c (.str s)),(3,.c (.int .i64 ((s.take n).count 45:Nat))),(4,.c (.int .i64 n))]) (fun n=>n<=s.length/\(s.take n).all S3=true) (fun n=>s.length - n) 0 ?_ ⟨by omega,tk0⟩ ?_
    . repeat' first|exact y6|refine I5 rfl ?_
    rintro n ⟨hn,hall⟩;have hcn:(s.take n).count 45<=n:=by have:=List.count_le_length (a:=(45:UInt8)) (l:=s.take n);rw [List.length_take] at this;omega
    by_cases hns:n<s.length
    . repeat' first|apply x3|exact w9|exact u6 rfl|(apply x4;rfl;rfl)|(apply zD;rfl;rfl;omega)|(apply u3;rfl;rfl;rfl)|(apply B5;rfl)|(apply G8;rfl;rfl)|(apply s9;rfl;(with_reducible rfl);rfl)|(apply l4;rfl;(with_reducible rfl);rfl)|(apply L1;rfl;rfl;rfl;exact gEg (by omega))|(apply w8 (hc:=hI s[n]);rfl;rfl;rfl)|(apply b9;focus (repeat (first | exact y6 | (apply s6;rfl))))|apply v6|apply v7|apply v8|apply f5|apply t7|apply x9|apply U2|(apply c9;rfl)|(apply s7;rfl;(with_reducible rfl))|(apply A9;rfl;(with_reducible rfl))|(apply s8;rfl)|(with_reducible first|apply G5|apply H5)|(with_reducible (first|apply qN|apply qJ|apply H6);intro hc)|(apply y8;rfl)
      any_goals omega
      any_goals
       refine ⟨n+1,?_,rfl,⟨by omega,tkS (by omega) hall ?_⟩,by omega⟩
       . rw [ctS hns];have e1:(s[n]=45)↔((s[n].toNat:Int)=45):=by rw [<-UInt8.toNat_inj];simp;omega
         simp only [e1, *,if_true,if_false];repeat' first|exact y6|refine I5 rfl ?_
       . simp [*]
      any_goals
       refine cb ?_;simp only [M1,h0];rw [tkF (p:=S3) (n:=n) hns (by simp [*])];simp
    . have hnl:n=s.length:=by omega
      subst hnl;repeat' first|apply x3|exact w9|exact u6 rfl|(apply x4;rfl;rfl)|(apply u3;rfl;rfl;rfl)|(apply B5;rfl)|(apply s9;rfl;(with_reducible rfl);rfl)|(apply l4;rfl;(with_reducible rfl);rfl)|(apply L1;rfl;rfl;rfl;exact gEg (by omega))|(apply b9;focus (repeat (first | exact y6 | (apply s6;rfl))))|apply v6|apply v7|apply v8|apply f5|apply t7|apply x9|apply U2|(apply c9;rfl)|(apply s7;rfl;(with_reducible rfl))|(apply A9;rfl;(with_reducible rfl))|(apply s8;rfl)|(with_reducible (first|apply qN|apply qJ);intro hc)|(apply y8;rfl)
      any_goals omega
      all_goals
       refine cb ?_;simp only [M1,h0];rw [List.take_length] at hall;simp [*,List.take_length];try omega
end Go.Proofs.TryzL
namespace Go.Proofs.TryzL
open Go.Proofs.Lz
def Y9 (s:List UInt8):Bool:=(C7 s&&!rwordL.contains s)||(M1 s&&!rsymL.contains s)
set_option maxHeartbeats 2000000
theorem iC (s:List UInt8) (hl:s.length<2^60):Rets Vv 50 [.c (.str s)] (.c (.bool (Y9 s))):=by
 refine d4 zl4 ?_;repeat' first|apply x3|exact w9|exact u6 rfl|(apply x4;rfl;rfl)|(apply G8;rfl;rfl)|(apply s9;rfl;(with_reducible rfl);rfl)|(apply l4;rfl;(with_reducible rfl);rfl)|(apply w8 (hc:=kO s hl);rfl;rfl;rfl)|(apply w8 (hc:=eG s);rfl;rfl;rfl)|(apply w8 (hc:=zr4 s hl);rfl;rfl;rfl)|(apply w8 (hc:=iW s);rfl;rfl;rfl)|apply v6|apply v7|apply v8|apply x9|(apply s7;rfl;(with_reducible rfl))|(apply K6;rfl;(with_reducible rfl))|(apply A9;rfl;(with_reducible rfl))|(apply zY;rfl)|(apply s8;rfl)|(with_reducible first|apply G5|apply H5)|(with_reducible apply H6;intro hc)|(apply y8;rfl)
 all_goals (simp only [Y9, *];rfl)
def U8 (s:List UInt8):Bool:=match s[0]? with
 | none=>false
 | some c=>upperB c
def D5 (m n:List UInt8):List UInt8:=if C7 m&&U8 m&&Y9 n then m++[46]++n else []
theorem uO (m n:List UInt8) (hm:m.length<2^59) (hn:n.length<2^59):Rets Vv 15 [.c (.str m),.c (.str n)] (.c (.str (D5 m n))):=by
 refine d4 z99 ?_;cases h0:m[0]? with
 | none=>
   have hw:C7 m=false:=by simp [C7,h0]
   repeat' first|apply x3|exact w9|exact u6 rfl|(apply x4;rfl;rfl)|(apply G8;rfl;rfl)|(apply s9;rfl;(with_reducible rfl);rfl)|(apply w8 (hc:=kO m (by omega));rfl;rfl;rfl)|(apply b9;focus (repeat (exact y6)))|apply v6|apply v7|apply v8|apply x9|(apply E9;rfl;(with_reducible rfl))|(apply s7;rfl;(with_reducible rfl))|(apply A9;rfl;(with_reducible rfl))|(apply s8;rfl)|(with_reducible first|apply G5|apply H5)|(with_reducible apply H6;intro hc)|(apply y8;rfl)
   all_goals first|(congr 1;simp [D5, *];done)|(exfalso;simp_all;done)
 | some c=>
   repeat' first|apply x3|exact w9|exact u6 rfl|(apply x4;rfl;rfl)|(apply lG;rfl;rfl;(simp only [List.length_map,List.length_cons,List.length_nil,List.length_append,List.length_replicate];omega))|(apply G8;rfl;rfl)|(apply s9;rfl;(with_reducible rfl);rfl)|(apply l4;rfl;(with_reducible rfl);rfl)|(apply L1;rfl;rfl;rfl;assumption)|(apply w8 (hc:=kO m (by omega));rfl;rfl;rfl)|(apply w8 (hc:=iC n (by omega));rfl;rfl;rfl)|(apply w8 (hc:=dQ c);rfl;rfl;rfl)|(apply b9;focus (repeat (first | exact y6 | (apply s6;rfl))))|apply v6|apply v7|apply v8|apply t7|apply x9|(apply E9;rfl;(with_reducible rfl))|(apply c9;rfl)|(apply s7;rfl;(with_reducible rfl))|(apply A9;rfl;(with_reducible rfl))|(apply s8;rfl)|(with_reducible first|apply G5|apply H5)|(with_reducible apply H6;intro hc)|(apply y8;rfl)
   all_goals first|(congr 1;simp [D5,U8, *];done)|(exfalso;simp_all;done)
def S1 (s:List UInt8):Option (List UInt8×List UInt8):=if (Lib.cut s [46]).2.2&&!(D5 (Lib.cut s [46]).1 (Lib.cut s [46]).2.1==[]) then some ((Lib.cut s [46]).1,(Lib.cut s [46]).2.1) else none
def splitV (o:Option (List UInt8×List UInt8)):WV:=match o with
 | none=>.tup [.c (.str []),.c (.str []),.c (.bool false)]
 | some p=>.tup [.c (.str p.1),.c (.str p.2),.c (.bool true)]
theorem zw9 (s:List UInt8) (h:s.length<2^31):Rets Vv 47 [.c (.str s),.c (.str [46])] (.tup [.c (.str (Lib.cut s [46]).1),.c (.str (Lib.cut s [46]).2.1),.c (.bool (Lib.cut s [46]).2.2)]):=
 zy6 (V:=Vv) (f:=47) (xs:=[.str s,.str [46]]) (us:=[.str (Lib.cut s [46]).1,.str (Lib.cut s [46]).2.1,.bool (Lib.cut s [46]).2.2]) (g:=qQ) rfl rfl (by simp only [qQ];rw [if_pos (by omega)]) (by simp)
theorem dH (s:List UInt8):(Lib.cut s [46]).1.length<=s.length/\(Lib.cut s [46]).2.1.length<=s.length:=by
 unfold Lib.cut;split
 . simp;omega
 . simp
theorem z66 (s:List UInt8) (hl:s.length<2^31):Rets Vv 14 [.c (.str s)] (splitV (S1 s)):=by
 refine d4 oW ?_;obtain ⟨l1,l2⟩:=dH s;repeat' first|apply x3|exact w9|exact u6 rfl|(apply x4;rfl;rfl)|(apply u3;rfl;rfl;rfl)|(apply G8;rfl;rfl)|(apply s9;rfl;(with_reducible rfl);rfl)|(apply l4;rfl;(with_reducible rfl);rfl)|(apply S0;rfl;rfl;rfl)|(apply S5;rfl;rfl)|(apply w8 (hc:=zw9 s hl);rfl;rfl;rfl)|(apply w8 (hc:=uO (Lib.cut s [46]).1 (Lib.cut s [46]).2.1 (by omega) (by omega));rfl;rfl;rfl)|(apply b9;focus (repeat (first | exact y6 | (apply s6;rfl))))|apply v6|apply v7|apply v8|apply t7|apply x9|(apply E9;rfl;(with_reducible rfl))|(apply c9;rfl)|(apply s7;rfl;(with_reducible rfl))|(apply A9;rfl;(with_reducible rfl))|(apply s8;rfl)|(with_reducible first|apply G5|apply H5)|(with_reducible (first|apply M7|apply L9|apply H6);intro hc)|(apply dO;(exact ShI.c rfl);(exact ShI.c rfl);(exact ShI.c rfl);(exact by decide))
 all_goals (simp [S1,splitV, *])
end Go.Proofs.TryzL
namespace Go.Proofs.TryzL
open Go.Proofs.Lz
set_option maxHeartbeats 2000000
theorem rQ (c:UInt8):Rets Vv 161 [.c (bC c)] (.c (.bool (lowerB c))):=by
 refine d4 zj5 ?_;repeat' first|apply x3|exact w9|exact u6 rfl|(apply x4;rfl;rfl)|(apply u3;rfl;rfl;rfl)|(apply s9;rfl;(with_reducible rfl);rfl)|(apply l4;rfl;(with_reducible rfl);rfl)|apply v6|apply v7|apply v8|apply x9|(apply s7;rfl;(with_reducible rfl))|(apply K6;rfl;(with_reducible rfl))|(apply A9;rfl;(with_reducible rfl))|(apply s8;rfl)|(with_reducible (first|apply o6|apply f6);intro hc)|(apply y8;rfl)
 all_goals (refine cb ?_;simp [lowerB];omega)
theorem pE (c:UInt8):Rets Vv 99 [.c (bC c)] (.c (.bool (upperB c))):=by
 refine d4 zy3 ?_;repeat' first|apply x3|exact w9|exact u6 rfl|(apply x4;rfl;rfl)|(apply u3;rfl;rfl;rfl)|(apply s9;rfl;(with_reducible rfl);rfl)|(apply l4;rfl;(with_reducible rfl);rfl)|apply v6|apply v7|apply v8|apply x9|(apply s7;rfl;(with_reducible rfl))|(apply K6;rfl;(with_reducible rfl))|(apply s8;rfl)|(with_reducible (first|apply o6|apply f6);intro hc)|(apply y8;rfl)
 all_goals (refine cb ?_;simp [upperB];omega)
theorem q22 (c:UInt8):Rets Vv 162 [.c (bC c)] (.c (.bool (Y7 c))):=by
 refine d4 zx7 ?_;repeat' first|apply x3|exact w9|exact u6 rfl|(apply x4;rfl;rfl)|(apply u3;rfl;rfl;rfl)|(apply s9;rfl;(with_reducible rfl);rfl)|(apply l4;rfl;(with_reducible rfl);rfl)|apply v6|apply v7|apply v8|apply x9|(apply s7;rfl;(with_reducible rfl))|(apply K6;rfl;(with_reducible rfl))|(apply s8;rfl)|(with_reducible (first|apply o6|apply f6);intro hc)|(apply y8;rfl)
 all_goals (refine cb ?_;simp [Y7];omega)
theorem u8i {a b:UInt8}:((a.toNat:Int)=(b.toNat:Int))↔a=b:=by rw [<-UInt8.toNat_inj];omega
theorem zx2 (c:UInt8):Rets Vv 163 [.c (bC c)] (.c (.bool (S3 c))):=by
 refine d4 zt7 ?_;repeat' first|apply x3|exact w9|(apply x4;rfl;rfl)|apply v6|apply v7|apply v8|apply f5
 refine zJ (fun n:Nat=>[(0,.c (bC c)),(3,.c (.str symS)),(4,.c (.int .i64 n))]) (fun n=>n<=symS.length/\(symS.take n).all (· != c)=true) (fun n=>symS.length - n) 0 ?_ ⟨by omega,tk0⟩ ?_
 . repeat' first|exact y6|refine I5 rfl ?_
 rintro n ⟨hn,hall⟩;have h20:symS.length=20:=rfl;repeat' first|apply x3|exact w9|(apply x4;rfl;rfl)|(apply zD;rfl;rfl;omega)|(apply u3;rfl;rfl;rfl)|(apply B5;rfl)|(apply L1;rfl;rfl;rfl;exact gEg (by omega))|(apply b9;focus (repeat (first | exact y6 | (apply s6;rfl))))|apply v6|apply v7|apply v8|apply f5|apply t7|apply x9|apply U2|(apply c9;rfl)|(with_reducible (first|apply qN|apply qJ|apply o6|apply f6);intro hc)|(apply y8;rfl)
 . refine cb ?_;rename_i hc;have e:=u8i.1 hc;simp only [S3,true_iff,List.contains_eq_mem,decide_eq_true_eq];rw [<-e];exact List.getElem_mem _
 . refine ⟨n+1,?_,rfl,⟨by omega,tkS (by omega) hall ?_⟩,by omega⟩
   . repeat' first|exact y6|refine I5 rfl ?_
   . rename_i hc;rw [u8i] at hc;simpa using hc
 . refine cb ?_;have:=tkE (by omega) hall;simp only [S3,List.contains_eq_mem];simp only [List.all_eq_true,bne_iff_ne] at this;constructor
   . intro h;cases h
   . intro h;exact absurd rfl (this c (by simpa using h))
theorem zi9 (s:List UInt8):Rets Vv 101 [.c (.str s)] (.c (.bool (rsymL.contains s))):=by
 refine d4 z34 ?_;repeat' first|apply x3|exact w9|(apply x4;rfl;rfl)|(apply u3;rfl;rfl;rfl)|(apply b9;focus (repeat (first | exact y6 | (apply s6;rfl))))|apply v6|apply v7|apply v8|apply f5|apply t7|apply x9|(apply E9;rfl;(with_reducible rfl))|(apply c9;rfl)|(with_reducible (first|apply M7|apply L9);intro hc)|(apply y8;rfl)
 all_goals (refine cb ?_;simp_all [rsymL])
theorem eE (s:List UInt8):Rets Vv 98 [.c (.str s)] (.c (.bool (rwordL.contains s))):=by
 refine d4 iU ?_;repeat' first|apply x3|exact w9|(apply x4;rfl;rfl)|(apply u3;rfl;rfl;rfl)|(apply b9;focus (repeat (first | exact y6 | (apply s6;rfl))))|apply v6|apply v7|apply v8|apply f5|apply t7|apply x9|(apply E9;rfl;(with_reducible rfl))|(apply c9;rfl)|(with_reducible (first|apply M7|apply L9);intro hc)|(apply y8;rfl)
 all_goals (refine cb ?_;simp_all [rwordL])
end Go.Proofs.TryzL
