/- Chapter 02: Lex. -/
import Derived.Test.YtencoceemejcnaaGreatDoorLzT33
import Derived.Test.YtencoceemejcnaaGreatDoorLzT43
import Derived.Test.YtencoceemejcnaaGreatDoorLzT70
set_option linter.unusedSimpArgs false
set_option linter.unusedVariables false
namespace Go.Proofs.TryzL
open Go.Proofs.Lz
set_option maxHeartbeats 4000000
theorem zb0 (c:UInt8):Rets Vv 121 [.c (bC c)] (.c (.int .i64 (match hexV c with | some v=>(v:Int) | none=>-1))):=by
 refine m7 zv5 ?_;have h71:=jR c;cases hd:t7 c with
 | true=>
   rw [hd] at h71;obtain ⟨b1,b2⟩:=xH hd;repeat' first|apply j2|exact q7|(apply j7;rfl;rfl)|(apply qA;rfl;rfl;omega)|(apply R1;rfl;omega)|(apply q6 (hc:=h71);rfl;rfl;rfl)|(apply w8;focus (repeat (first | exact q8 | (apply v6;rfl))))|apply j1|apply j3|apply j4|apply x3|apply w9|(apply m5;rfl;(with_reducible rfl))|(apply s7;rfl)
   try any_goals (exfalso;omega)
   unfold hexV;rw [if_pos hd];exact congrArg (CV.int .i64) (by dsimp only;omega)
 | false=>
   rw [hd] at h71;have hd':¬ t7 c=true:=by rw [hd];decide
   repeat' first|apply j2|exact q7|exact j8 rfl|(apply j7;rfl;rfl)|(apply b6;rfl;rfl;omega)|(apply qA;rfl;rfl;omega)|(apply j9;rfl;rfl;rfl)|(apply y9;rfl;(with_reducible rfl);rfl)|(apply y0;rfl;(with_reducible rfl);rfl)|(apply R1;rfl;omega)|(apply q6 (hc:=h71);rfl;rfl;rfl)|(apply w8;focus (repeat (first | exact q8 | (apply v6;rfl))))|apply j1|apply j3|apply j4|apply x3|apply v8|apply w9|(apply g9;rfl;(with_reducible rfl))|(apply v7;rfl)|(apply x8;rfl;(with_reducible rfl))|(apply b9;rfl;(with_reducible rfl))|(apply y7;rfl)|(with_reducible (first|apply x6|apply x5);intro hc)|(apply s7;rfl)
   try any_goals (exfalso;omega)
   all_goals unfold hexV
   all_goals rw [if_neg hd']
   all_goals first|(rw [if_pos (by omega)];exact congrArg (CV.int .i64) (by dsimp only;omega))|(rw [if_neg (by omega),if_pos (by omega)];exact congrArg (CV.int .i64) (by dsimp only;omega))|(rw [if_neg (by omega),if_neg (by omega)])
def stC (o:Option (Nat×Nat)):CV:=match o with
 | none=>unC (.skip 0)
 | some (code,p)=>unC (.bad code p [])
theorem zm2 (s:List UInt8) (i j:Nat) (hl:s.length<2^30):Rets Vv 97 [.c (.str s),.c (.int .i64 i),.c (.int .i64 j)] (.c (stC (a6 s i j))):=by
 refine m7 jf7 ?_;have hb:∀ p code:Nat,Rets Vv 76 [.c (.int .i64 code),.c (.int .i64 p),.c (.str [])] (.c (unC (.bad code p []))):=fun p code=>jA code p [];by_cases hj:j<s.length
 . have hg:s[j]?=some s[j]:=gEg hj;generalize s[j]=c at hg;have h94:=aP c;cases hk:N3 c with
   | false=>
     rw [hk] at h94;have e:a6 s i j=some (5,j):=by unfold a6;rw [hg];dsimp only;rw [if_pos hk]
     rw [e];repeat' first|apply j2|exact q7|(apply j7;rfl;rfl)|(apply j9;rfl;rfl;rfl)|(apply u5;rfl)|(apply s6;rfl;rfl)|(apply x7;rfl;rfl;rfl;assumption)|(apply m8;rfl;rfl;first | exact c6 (by first | exact rfl | assumption | exact j0 (by assumption)) | exact m9 (by first | exact rfl | assumption | exact j0 (by assumption)))|(apply u1;rfl;rfl;rfl;rfl;exact u4 (by first | exact rfl | assumption | exact j0 (by assumption)))|(apply q6 (hc:=h94);rfl;rfl;rfl)|(apply q6 (hc:=hb j 5);rfl;rfl;rfl)|(apply w8;focus (repeat (first | exact q8 | (apply v6;rfl) | (apply y6;rfl))))|apply j1|apply j3|apply j4|apply v8|apply w9|(apply v7;rfl)|(with_reducible first|exact G1|apply F9|apply s4|apply s5)|(with_reducible (first|apply x6|apply x5);intro hc)|(apply c8;rfl)
     try any_goals (exfalso;omega)
     all_goals first | rfl | trace_state
   | true=>
     rw [hk] at h94;by_cases h32:c.toNat<32
     . have e:a6 s i j=some (7,i):=by unfold a6;rw [hg];dsimp only;rw [if_neg (by rw [hk];decide),if_pos h32]
       rw [e];repeat' first|apply j2|exact q7|(apply j7;rfl;rfl)|(apply j9;rfl;rfl;rfl)|(apply u5;rfl)|(apply s6;rfl;rfl)|(apply x7;rfl;rfl;rfl;assumption)|(apply l6;rfl;rfl;rfl)|(apply m8;rfl;rfl;first | exact c6 (by first | exact rfl | assumption | exact j0 (by assumption)) | exact m9 (by first | exact rfl | assumption | exact j0 (by assumption)))|(apply u1;rfl;rfl;rfl;rfl;exact u4 (by first | exact rfl | assumption | exact j0 (by assumption)))|(apply q6 (hc:=h94);rfl;rfl;rfl)|(apply q6 (hc:=hb i 7);rfl;rfl;rfl)|(apply w8;focus (repeat (first | exact q8 | (apply v6;rfl) | (apply y6;rfl))))|apply j1|apply j3|apply j4|apply v8|apply w9|(apply v7;rfl)|(with_reducible first|exact C2|apply C3|apply s4|apply s5)|(with_reducible (first|apply x6|apply x5);intro hc)|(apply c8;rfl)
       try any_goals (exfalso;omega)
       all_goals first | rfl | trace_state
     . have e:a6 s i j=none:=by unfold a6;rw [hg];dsimp only;rw [if_neg (by rw [hk];decide),if_neg h32]
       rw [e];repeat' first|apply j2|exact q7|(apply j7;rfl;rfl)|(apply j9;rfl;rfl;rfl)|(apply u5;rfl)|(apply s6;rfl;rfl)|(apply x7;rfl;rfl;rfl;assumption)|(apply l6;rfl;rfl;rfl)|(apply m8;rfl;rfl;first | exact c6 (by first | exact rfl | assumption | exact j0 (by assumption)) | exact m9 (by first | exact rfl | assumption | exact j0 (by assumption)))|(apply u1;rfl;rfl;rfl;rfl;exact u4 (by first | exact rfl | assumption | exact j0 (by assumption)))|(apply q6 (hc:=h94);rfl;rfl;rfl)|(apply w8;focus (repeat (first | exact q8 | (apply v6;rfl) | (apply y6;rfl))))|apply j1|apply j3|apply j4|apply v8|apply w9|(apply v7;rfl)|(with_reducible first|exact C2|apply C3|apply s4|apply s5)|(with_reducible (first|apply x6|apply x5);intro hc)|(apply c8;rfl)
       try any_goals (exfalso;omega)
       all_goals first | rfl | trace_state
 . have e:a6 s i j=some (7,i):=by unfold a6;rw [List.getElem?_eq_none (by omega)]
   rw [e];repeat' first|apply j2|exact q7|(apply j7;rfl;rfl)|(apply j9;rfl;rfl;rfl)|(apply u5;rfl)|(apply x7;rfl;rfl;rfl;exact gEg (by omega))|(apply m8;rfl;rfl;first | exact c6 (by first | exact rfl | assumption | exact j0 (by assumption)) | exact m9 (by first | exact rfl | assumption | exact j0 (by assumption)))|(apply u1;rfl;rfl;rfl;rfl;exact u4 (by first | exact rfl | assumption | exact j0 (by assumption)))|(apply q6 (hc:=hb i 7);rfl;rfl;rfl)|(apply w8;focus (repeat (first | exact q8 | (apply v6;rfl) | (apply y6;rfl))))|apply j1|apply j3|apply j4|apply v8|apply w9|(apply v7;rfl)|(with_reducible (first|apply x6|apply x5);intro hc)|(apply c8;rfl)
   try any_goals (exfalso;omega)
   all_goals first | rfl | trace_state
def crC (r:CR):CV:=match r with
 | .bad code p=>unC (.bad code p [])
 | .ok b e=>unC (.tok 0 [] [] b.toNat e)
theorem uA {s:List UInt8} {i j code p:Nat} (h:a6 s i j=some (code,p)):code≠0:=by
 unfold a6 at h;split at h
 . injection h with h;injection h with h _;omega
 . split at h
   . injection h with h;injection h with h _;omega
   . split at h
     . injection h with h;injection h with h _;omega
     . cases h
end Go.Proofs.TryzL
namespace Go.Proofs.TryzL
open Go.Proofs.Lz
set_option maxHeartbeats 4000000
theorem yX {s:List UInt8} {i j:Nat} (hl:s.length<2^30) (h:a6 s i j=none):Rets Vv 97 [.c (.str s),.c (.int .i64 i),.c (.int .i64 j)] (.c (.agg [.int .i64 0,.str [],.str [],.int .i64 0,.bool false,.int .i64 0,.int .i64 0,.int .i64 0,.int .i64 0,.int .i64 0,.str []])):=by
 have:=zm2 s i j hl;rw [h] at this;exact this
theorem uD {s:List UInt8} {i j code p:Nat} (hl:s.length<2^30) (h:a6 s i j=some (code,p)):Rets Vv 97 [.c (.str s),.c (.int .i64 i),.c (.int .i64 j)] (.c (.agg [.int .i64 0,.str [],.str [],.int .i64 0,.bool false,.int .i64 0,.int .i64 0,.int .i64 0,.int .i64 code,.int .i64 p,.str []])):=by
 have:=zm2 s i j hl;rw [h] at this;exact this
theorem yO {s:List UInt8} {i j:Nat} (h:a6 s i j=none):∃ c,s[j]?=some c/\s.getD j 0=c/\j<s.length:=by
 unfold a6 at h;split at h
 . cases h
 . rename_i c hc;exact ⟨c,hc,by simp [List.getD,hc],(gEs hc).1⟩
def nR (s:List UInt8) (i j:Nat):CR:=match a6 s i j with
 | some (code,p)=>.bad code p
 | none=>E8 s i (s.getD j 0) (j+1)
theorem ji8 {c:UInt8} {v:Nat} (h:hexV c=some v):Rets Vv 121 [.c (bC c)] (.c (.int .i64 v))/\v<16:=by
 have:=zb0 c;rw [h] at this;refine ⟨this,?_⟩;unfold hexV at h;have:=c.toNat_lt;split at h
 . rename_i hd;have:=xH hd;injection h with h;omega
 . split at h
   . injection h with h;omega
   . split at h
     . injection h with h;omega
     . cases h
theorem q18 {c:UInt8} (h:hexV c=none):Rets Vv 121 [.c (bC c)] (.c (.int .i64 (-1))):=by
 have:=zb0 c;rw [h] at this;exact this
theorem z08 (s:List UInt8) (i j:Nat) (hl:s.length<2^30) (hij:i<=s.length):Rets Vv 98 [.c (.str s),.c (.int .i64 i),.c (.int .i64 j)] (.c (crC (nR s i j))):=by
 refine m7 ji1 ?_;have hb7:Rets Vv 76 [.c (.int .i64 7),.c (.int .i64 i),.c (.str [])] (.c (unC (.bad 7 i []))):=jA 7 i [];unfold nR;cases h:a6 s i j with
 | some cp=>
   obtain ⟨code,p⟩:=cp;have h1:=uD hl h;have hn:¬ (code:Int)=0:=by have:=uA h;omega
   repeat' first|apply j2|exact q7|exact G0 rfl|(apply j7;rfl;rfl)|(apply C5;rfl;rfl;rfl)|(apply b6;rfl;rfl;omega)|(apply j9;rfl;rfl;rfl)|(apply x7;rfl;rfl;rfl;exact gEg (by omega))|(apply l6;rfl;rfl;rfl)|(apply D9;rfl;exact E2 rfl)|(apply m8;rfl;rfl;first | exact c6 (by first | exact rfl | assumption | exact j0 (by assumption)) | exact m9 (by first | exact rfl | assumption | exact j0 (by assumption)))|(apply u1;rfl;rfl;rfl;rfl;exact u4 (by first | exact rfl | assumption | exact j0 (by assumption)))|(apply R1;rfl;omega)|(apply q6 (hc:=h1);rfl;rfl;rfl)|(apply w8;focus (repeat (first | exact q8 | (apply v6;rfl) | (apply y6;rfl))))|apply j1|apply j3|apply j4|apply v8|apply w9|(apply v7;rfl)|(with_reducible (first|apply f5|apply f6);intro hc)|(apply c8;rfl)
   try any_goals (exfalso;contradiction)
   all_goals first | rfl | trace_state
 | none=>
   have h1:=yX hl h;obtain ⟨c,hc,hgd,hlt⟩:=yO h;rw [hgd];unfold E8;have e92:((c.toNat:Int)=92)↔c=92:=D7 (n:=92) (by decide);by_cases hc92:c=92
   . rw [if_neg (by simp [hc92])];have hc92':(c.toNat:Int)=92:=e92.2 hc92;cases h2:a6 s i (j+1) with
     | some cp=>
       obtain ⟨code,p⟩:=cp;have h3:=uD hl h2;have hn:¬ (code:Int)=0:=by have:=uA h2;omega
       repeat' first|apply j2|exact q7|exact G0 rfl|(apply j7;rfl;rfl)|(apply C5;rfl;rfl;rfl)|(apply b6;rfl;rfl;omega)|(apply j9;rfl;rfl;rfl)|(apply x7;rfl;rfl;rfl;assumption)|(apply x7;rfl;rfl;rfl;exact gEg (by omega))|(apply l6;rfl;rfl;rfl)|(apply D9;rfl;exact E2 rfl)|(apply m8;rfl;rfl;first | exact c6 (by first | exact rfl | assumption | exact j0 (by assumption)) | exact m9 (by first | exact rfl | assumption | exact j0 (by assumption)))|(apply u1;rfl;rfl;rfl;rfl;exact u4 (by first | exact rfl | assumption | exact j0 (by assumption)))|(apply R1;rfl;omega)|(apply q6 (hc:=h1);rfl;rfl;rfl)|(apply q6 (hc:=h3);rfl;rfl;rfl)|(apply w8;focus (repeat (first | exact q8 | (apply v6;rfl) | (apply y6;rfl))))|apply j1|apply j3|apply j4|apply x3|apply v8|apply w9|(apply m5;rfl;(with_reducible rfl))|(apply v7;rfl)|(with_reducible (first|apply u7|apply g8|apply f5|apply f6);intro hc)|(apply c8;rfl)
       try any_goals (exfalso;contradiction)
       all_goals first | rfl | trace_state
     | none=>
       have h3:=yX hl h2;obtain ⟨d,hd,hgd2,hlt2⟩:=yO h2;rw [hgd2];dsimp only;have d110:((d.toNat:Int)=110)↔d=110:=D7 (n:=110) (by decide);have d116:((d.toNat:Int)=116)↔d=116:=D7 (n:=116) (by decide);have d92:((d.toNat:Int)=92)↔d=92:=D7 (n:=92) (by decide);have d39:((d.toNat:Int)=39)↔d=39:=D7 (n:=39) (by decide);have d34:((d.toNat:Int)=34)↔d=34:=D7 (n:=34) (by decide);have d120:((d.toNat:Int)=120)↔d=120:=D7 (n:=120) (by decide);have hw:IntKind.i64.wrap (d.toNat:Int)=d.toNat:=wrap64 (by have:=d.toNat_lt;omega);repeat' first|apply j2|exact q7|exact G0 rfl|(apply j7;rfl;rfl)|(apply C5;rfl;rfl;rfl)|(apply b6;rfl;rfl;omega)|(apply j9;rfl;rfl;rfl)|(apply x7;rfl;rfl;rfl;assumption)|(apply l6;rfl;rfl;rfl)|(apply D9;rfl;exact E2 rfl)|(apply m8;rfl;rfl;first | exact c6 (by first | exact rfl | assumption | exact j0 (by assumption)) | exact m9 (by first | exact rfl | assumption | exact j0 (by assumption)))|(apply u1;rfl;rfl;rfl;rfl;exact u4 (by first | exact rfl | assumption | exact j0 (by assumption)))|(apply R1;rfl;omega)|(apply q6 (hc:=h1);rfl;rfl;rfl)|(apply q6 (hc:=h3);rfl;rfl;rfl)|(apply q6 (hc:=hb7);rfl;rfl;rfl)|(apply w8;focus (repeat (first | exact q8 | (apply v6;rfl) | (apply y6;rfl))))|apply j1|apply j3|apply j4|apply x3|apply v8|apply w9|(apply m5;rfl;(with_reducible rfl))|(apply v7;rfl)|(with_reducible (first|apply u7|apply g8|apply f5|apply f6);intro hc)|(apply c8;rfl)
       try any_goals (exfalso;contradiction)
       any_goals first|(rw [if_pos (d110.1 (by assumption))];rfl)|(rw [if_neg (fun e=>absurd (d110.2 e) (by assumption)),if_pos (d116.1 (by assumption))];rfl)|(rw [if_neg (fun e=>absurd (d110.2 e) (by assumption)),if_neg (fun e=>absurd (d116.2 e) (by assumption)),if_pos (by first | exact .inl (d92.1 (by assumption)) | exact .inr (.inl (d39.1 (by assumption))) | exact .inr (.inr (d34.1 (by assumption))))];rfl)|(rw [if_neg (fun e=>absurd (d110.2 e) (by assumption)),if_neg (fun e=>absurd (d116.2 e) (by assumption)),if_neg (by rintro (e | e | e);exact absurd (d92.2 e) (by assumption);exact absurd (d39.2 e) (by assumption);exact absurd (d34.2 e) (by assumption)),if_neg (fun e=>absurd (d120.2 e) (by assumption))];rfl)|skip
       rw [if_neg (fun e=>absurd (d110.2 e) (by assumption)),if_neg (fun e=>absurd (d116.2 e) (by assumption)),if_neg (by rintro (e | e | e);exact absurd (d92.2 e) (by assumption);exact absurd (d39.2 e) (by assumption);exact absurd (d34.2 e) (by assumption)),if_pos (d120.1 (by assumption))];refine I0 (fun p:Nat×Nat=>[(0,.c (.str s)),(1,.c (.int .i64 i)),(2,.c (.int .i64 j)),(6,.lbox (some 11) (.c (.agg [.int .i64 0,.str [],.str [],.int .i64 0,.bool false,.int .i64 0,.int .i64 0,.int .i64 0,.int .i64 0,.int .i64 0,.str []]))),(7,.lbox (some 11) (.c (.agg [.int .i64 0,.str [],.str [],.int .i64 0,.bool false,.int .i64 0,.int .i64 0,.int .i64 0,.int .i64 0,.int .i64 0,.str []]))),(8,.c (.int .i64 p.2)),(9,.c (.int .i64 p.1))])
        (fun p=>((p.1=j+2/\p.2=0)\/(p.1=j+3/\p.2<16)\/(p.1=j+4/\p.2<256))/\hexS s i 2 0 (j+1+1)=hexS s i (j+4 - p.1) p.2 p.1) (fun p=>j+4 - p.1) (j+2,0) ?_ ⟨.inl ⟨rfl,rfl⟩,by dsimp only;rw [show j+4 - (j+2)=2 by omega]⟩ ?_
       . repeat' first|exact q8|refine d5 rfl ?_
       rintro ⟨k,v⟩ ⟨hk,hv⟩;dsimp only at hk hv;dsimp only;rw [hv];by_cases hk4:k<j+4
       . have hS:hexS s i (j+4 - k) v k=match a6 s i k with
          | some (code,p)=>.bad code p
          | none=>match hexV (s.getD k 0) with
            | none=>.bad 7 i
            | some d=>hexS s i (j+4 - (k+1)) (16 * v+d) (k+1):=by
          rw [show j+4 - k=(j+4 - (k+1))+1 by omega,hexS];rfl
         rw [hS];cases h5:a6 s i k with
         | some cp=>
           obtain ⟨code,p⟩:=cp;have h6:=uD hl h5;have hn:¬ (code:Int)=0:=by have:=uA h5;omega
           repeat' first|apply j2|exact q7|exact G0 rfl|(apply j7;rfl;rfl)|(apply C5;rfl;rfl;rfl)|(apply b6;rfl;rfl;omega)|(apply j9;rfl;rfl;rfl)|(apply x7;rfl;rfl;rfl;exact gEg (by omega))|(apply l6;rfl;rfl;rfl)|(apply D9;rfl;exact E2 rfl)|(apply u1;rfl;rfl;rfl;rfl;exact u4 (by first | exact rfl | assumption | exact j0 (by assumption)))|(apply q6 (hc:=h6);rfl;rfl;rfl)|(apply w8;focus (repeat (first | exact q8 | (apply v6;rfl) | (apply y6;rfl))))|apply j1|apply j3|apply j4|apply x3|apply v8|apply w9|apply l0|(apply v7;rfl)|(with_reducible (first|apply f5|apply f6|apply x6|apply x5);intro hc)|(apply c8;rfl)
           try any_goals (exfalso;omega)
           try any_goals (exfalso;contradiction)
           all_goals first | rfl | trace_state
         | none=>
           have h6:=yX hl h5;obtain ⟨d,hd5,hgd5,hlt5⟩:=yO h5;rw [hgd5];dsimp only;cases h7:hexV d with
           | none=>
             have h8:=q18 h7;repeat' first|apply j2|exact q7|exact G0 rfl|(apply j7;rfl;rfl)|(apply C5;rfl;rfl;rfl)|(apply b6;rfl;rfl;omega)|(apply Y6;rfl;rfl;omega)|(apply j9;rfl;rfl;rfl)|(apply x7;rfl;rfl;rfl;assumption)|(apply l6;rfl;rfl;rfl)|(apply D9;rfl;exact E2 rfl)|(apply u1;rfl;rfl;rfl;rfl;exact u4 (by first | exact rfl | assumption | exact j0 (by assumption)))|(apply q6 (hc:=h6);rfl;rfl;rfl)|(apply q6 (hc:=h8);rfl;rfl;rfl)|(apply q6 (hc:=hb7);rfl;rfl;rfl)|(apply w8;focus (repeat (first | exact q8 | (apply v6;rfl) | (apply y6;rfl))))|apply j1|apply j3|apply j4|apply x3|apply v8|apply w9|apply l0|(apply v7;rfl)|(with_reducible (first|apply f5|apply f6|apply x6|apply x5);intro hc)|(apply c8;rfl)
             try any_goals (exfalso;omega)
             all_goals first | rfl | trace_state
           | some w=>
             obtain ⟨h8,hw16⟩:=ji8 h7;repeat' first|apply j2|exact q7|exact G0 rfl|(apply j7;rfl;rfl)|(apply C5;rfl;rfl;rfl)|(apply b6;rfl;rfl;omega)|(apply Y6;rfl;rfl;omega)|(apply j9;rfl;rfl;rfl)|(apply x7;rfl;rfl;rfl;assumption)|(apply l6;rfl;rfl;rfl)|(apply D9;rfl;exact E2 rfl)|(apply u1;rfl;rfl;rfl;rfl;exact u4 (by first | exact rfl | assumption | exact j0 (by assumption)))|(apply q6 (hc:=h6);rfl;rfl;rfl)|(apply q6 (hc:=h8);rfl;rfl;rfl)|(apply w8;focus (repeat (first | exact q8 | (apply v6;rfl) | (apply y6;rfl))))|apply j1|apply j3|apply j4|apply x3|apply v8|apply w9|apply l0|(apply v7;rfl)|(with_reducible (first|apply f5|apply f6|apply x6|apply x5);intro hc)|(apply c8;rfl)
             try any_goals (exfalso;omega)
             refine ⟨(k+1,16 * v+w),?_,rfl,⟨by dsimp only;omega,by first | (dsimp only;done) | (dsimp only;rw [hv,hS];try simp only [h5,hgd5,h7])⟩,by dsimp only;omega⟩;have e4:((v:Int) * 16+(w:Int))=((16 * v+w:Nat):Int):=by omega
             repeat' first|exact q8|refine d5 rfl ?_|refine d5 ?_ ?_
             all_goals (show WV.c (CV.int .i64 ((v:Int) * 16+(w:Int)))=_;rw [e4])
       . have hk':k=j+4:=by omega
         have hv':v<256:=by omega
         have e5:hexS s i (j+4 - k) v k=.ok (UInt8.ofNat v) k:=by rw [show j+4 - k=0 by omega];rfl
         have e6:(UInt8.ofNat v).toNat=v:=by simp;omega
         rw [e5];repeat' first|apply j2|exact q7|(apply j7;rfl;rfl)|(apply b6;rfl;rfl;omega)|(apply j9;rfl;rfl;rfl)|(apply l6;rfl;rfl;rfl)|(apply u1;rfl;rfl;rfl;rfl;exact u4 (by first | exact rfl | assumption | exact j0 (by assumption)))|(apply w8;focus (repeat (first | exact q8 | (apply v6;rfl) | (apply y6;rfl))))|apply j1|apply j3|apply j4|apply x3|apply v8|apply w9|apply l0|(apply v7;rfl)|(with_reducible (first|apply x6|apply x5);intro hc)|(apply c8;rfl)
         try any_goals (exfalso;omega)
         have e7:crC (.ok (UInt8.ofNat v) k)=CV.agg [.int .i64 0,.str [],.str [],.int .i64 (UInt8.ofNat v).toNat,.bool false,.int .i64 0,.int .i64 0,.int .i64 k,.int .i64 0,.int .i64 0,.str []]:=rfl;rw [e7,e6,hk'];rfl
   . rw [if_pos hc92];have hc92':¬ (c.toNat:Int)=92:=fun e=>hc92 (e92.1 e);have hw:IntKind.i64.wrap (c.toNat:Int)=c.toNat:=wrap64 (by have:=c.toNat_lt;omega);repeat' first|apply j2|exact q7|exact G0 rfl|(apply j7;rfl;rfl)|(apply C5;rfl;rfl;rfl)|(apply b6;rfl;rfl;omega)|(apply j9;rfl;rfl;rfl)|(apply x7;rfl;rfl;rfl;assumption)|(apply l6;rfl;rfl;rfl)|(apply D9;rfl;exact E2 rfl)|(apply m8;rfl;rfl;first | exact c6 (by first | exact rfl | assumption | exact j0 (by assumption)) | exact m9 (by first | exact rfl | assumption | exact j0 (by assumption)))|(apply u1;rfl;rfl;rfl;rfl;exact u4 (by first | exact rfl | assumption | exact j0 (by assumption)))|(apply wE;rfl)|(apply q6 (hc:=h1);rfl;rfl;rfl)|(apply w8;focus (repeat (first | exact q8 | (apply v6;rfl) | (apply y6;rfl))))|apply j1|apply j3|apply j4|apply v8|apply w9|(apply v7;rfl)|(with_reducible (first|apply f5|apply f6);intro hc)|(apply c8;rfl)
     try any_goals (exfalso;contradiction)
     all_goals first | rfl | (rw [hw];rfl)
end Go.Proofs.TryzL
namespace Go.Proofs.TryzL
open Go.Proofs.Lz
set_option maxHeartbeats 4000000
theorem bT {s:List UInt8} {i e:Nat} {c:UInt8} {acc:List Tok} (hc:s[i]?=some c) (h:E3 s i c=some (.skip e)):i6 s i acc=i6 s e acc:=by
 obtain ⟨hi,rfl⟩:=gEs hc;rw [i6,dif_pos hi,h];dsimp only;rw [dif_pos (xX hc h).1]
theorem tU {s nm:List UInt8} {i code p:Nat} {c:UInt8} {acc:List Tok} (hc:s[i]?=some c) (h:E3 s i c=some (.bad code p nm)):i6 s i acc=.bad code nm (plc s p).1 (plc s p).2:=by
 obtain ⟨hi,rfl⟩:=gEs hc;rw [i6,dif_pos hi,h]
theorem tN {s nm:List UInt8} {i code p:Nat} {c:UInt8} {acc:List Tok} (hc:s[i]?=some c) (h:E3 s i c=none) (hu:b8 s i c=.bad code p nm):i6 s i acc=.bad code nm (plc s p).1 (plc s p).2:=by
 obtain ⟨hi,rfl⟩:=gEs hc;rw [i6,dif_pos hi,h];dsimp only;rw [hu]
theorem tV {s q t:List UInt8} {i e:Nat} {op n:Int} {c:UInt8} {acc:List Tok} (hc:s[i]?=some c) (h:E3 s i c=none) (hu:b8 s i c=.tok op q t n e) (ha:16384<=acc.length):i6 s i acc=.bad 3 [] (plc s i).1 (plc s i).2:=by
 obtain ⟨hi,rfl⟩:=gEs hc;rw [i6,dif_pos hi,h];dsimp only;rw [hu];dsimp only;rw [if_pos ha]
theorem sX {s q t:List UInt8} {i e:Nat} {op n:Int} {c:UInt8} {acc:List Tok} (hc:s[i]?=some c) (h:E3 s i c=none) (hu:b8 s i c=.tok op q t n e) (ha:¬ 16384<=acc.length):i6 s i acc=i6 s e (acc++[⟨op,q,t,n,false,(plc s i).1,(plc s i).2⟩]):=by
 obtain ⟨hi,rfl⟩:=gEs hc;rw [i6,dif_pos hi,h];dsimp only;rw [hu];dsimp only;rw [if_neg ha,dif_pos (vL hc hu).1]
theorem z50 {H:q9} {s:List UInt8} {id i:Nat} {t6:CV} {N:f4} {B:Hs} {R:RP} (hH:ScH id (j5 s i) H) (hi:i<s.length) (hl:s.length<2^30) (hlen:([]:List Tok).length<=16384)
 (hgo:∀ (acc':List Tok) (e:Nat) (t':CV) H',i6 s i ([]:List Tok)=i6 s e acc'->i<e->e<=s.length->acc'.length<=16384->ScH id (j5 s e) H'->∀ fr,KpL [0,3,4,5,6] fr [0,3,4,5,6] (l7 s id acc' t')->R.go 0 fr H')
 (hbad:∀ code nm l c' H',i6 s i ([]:List Tok)=.bad code nm l c'->∀ fr:WFr,fr.env 2=.nils->fr.env 3=.lbox (some 4) (.c (i7 code nm l c'))->R.ret fr H') :
 WP Vv (qK E9) (FL (l7 s id ([]:List Tok) t6) []) H N B R:=by
 have hc:s[i]?=some s[i]:=gEg hi;generalize s[i]=c at hc;refine qb9 hH hc hl ?_ ?_ ?_
 . intro e H' h1 h2 fr hk;exact hgo _ e _ H' (bT hc h1) (xX hc h1).1 (xX hc h1).2 hlen h2 fr hk
 . intro code p nm H' h1 fr h2 h3;exact hbad _ _ _ _ H' (tU hc h1) fr h2 h3
 . intro H' hn hH';have g:∀ op q t n e H',b8 s i c=.tok op q t n e->([]:List Tok).length+1<=16384->ScH id (j5 s e) H'->∀ fr,KpL [0,3,4,5,6] fr [0,3,4,5,6] (l7 s id (([]:List Tok)++[⟨op,q,t,n,false,(plc s i).1,(plc s i).2⟩]) (E6 ⟨op,q,t,n,false,(plc s i).1,(plc s i).2⟩))->R.go 0 fr H':=
    fun op q t n e H' h1 h2 h3 fr hk=>hgo _ e _ H' (sX hc hn h1 (by omega)) (vL hc h1).1 (vL hc h1).2 (by simp only [List.length_append,List.length_singleton];exact h2) h3 fr hk
   have ov:∀ op q t n e H',b8 s i c=.tok op q t n e->16384<=([]:List Tok).length->∀ fr:WFr,fr.env 2=.nils->fr.env 3=.lbox (some 4) (.c (i7 3 [] (plc s i).1 (plc s i).2))->R.ret fr H':=
    fun op q t n e H' h1 h2 fr h3 h4=>hbad _ _ _ _ H' (tV hc hn h1 h2) fr h3 h4
   have bd:∀ code p nm H',b8 s i c=.bad code p nm->∀ fr:WFr,fr.env 2=.nils->fr.env 3=.lbox (some 4) (.c (i7 code nm (plc s p).1 (plc s p).2))->R.ret fr H':=
    fun code p nm H' h1 fr h2 h3=>hbad _ _ _ _ H' (tN hc hn h1) fr h2 h3
   by_cases hcl:(upperB c||lowerB c)=true
   . exact q84 hH' hc hl hlen g ov bd hcl
   by_cases hd:t7 c=true
   . exact qj3 hH' hc hl hlen g ov bd hcl hd
   by_cases hq:c=39\/c=34
   . exact ql5 hH' hc hl hlen g ov bd hcl hd hq
   by_cases hs:u6 c=true
   . exact q70 hH' hc hl hlen g ov bd hcl hd hq hs
   by_cases hp:spS.contains c=true
   . exact j71 hH' hc hl hlen g ov bd hcl hd hq hs hp
   . exact ql2 hH' hc hl hlen g ov bd hcl hd hq hs hp
theorem qt5 {H:q9} {s:List UInt8} {id i:Nat} {a:Tok} {r:List Tok} {t6:CV} {N:f4} {B:Hs} {R:RP} (hH:ScH id (j5 s i) H) (hi:i<s.length) (hl:s.length<2^30) (hlen:(a::r).length<=16384)
 (hgo:∀ (acc':List Tok) (e:Nat) (t':CV) H',i6 s i (a::r)=i6 s e acc'->i<e->e<=s.length->acc'.length<=16384->ScH id (j5 s e) H'->∀ fr,KpL [0,3,4,5,6] fr [0,3,4,5,6] (l7 s id acc' t')->R.go 0 fr H')
 (hbad:∀ code nm l c' H',i6 s i (a::r)=.bad code nm l c'->∀ fr:WFr,fr.env 2=.nils->fr.env 3=.lbox (some 4) (.c (i7 code nm l c'))->R.ret fr H') :
 WP Vv (qK E9) (FL (l7 s id (a::r) t6) []) H N B R:=by
 have hc:s[i]?=some s[i]:=gEg hi;generalize s[i]=c at hc;refine j27 hH hc hl ?_ ?_ ?_
 . intro e H' h1 h2 fr hk;exact hgo _ e _ H' (bT hc h1) (xX hc h1).1 (xX hc h1).2 hlen h2 fr hk
 . intro code p nm H' h1 fr h2 h3;exact hbad _ _ _ _ H' (tU hc h1) fr h2 h3
 . intro H' hn hH';have g:∀ op q t n e H',b8 s i c=.tok op q t n e->(a::r).length+1<=16384->ScH id (j5 s e) H'->∀ fr,KpL [0,3,4,5,6] fr [0,3,4,5,6] (l7 s id ((a::r)++[⟨op,q,t,n,false,(plc s i).1,(plc s i).2⟩]) (E6 ⟨op,q,t,n,false,(plc s i).1,(plc s i).2⟩))->R.go 0 fr H':=
    fun op q t n e H' h1 h2 h3 fr hk=>hgo _ e _ H' (sX hc hn h1 (by omega)) (vL hc h1).1 (vL hc h1).2 (by simp only [List.length_append,List.length_singleton];exact h2) h3 fr hk
   have ov:∀ op q t n e H',b8 s i c=.tok op q t n e->16384<=(a::r).length->∀ fr:WFr,fr.env 2=.nils->fr.env 3=.lbox (some 4) (.c (i7 3 [] (plc s i).1 (plc s i).2))->R.ret fr H':=
    fun op q t n e H' h1 h2 fr h3 h4=>hbad _ _ _ _ H' (tV hc hn h1 h2) fr h3 h4
   have bd:∀ code p nm H',b8 s i c=.bad code p nm->∀ fr:WFr,fr.env 2=.nils->fr.env 3=.lbox (some 4) (.c (i7 code nm (plc s p).1 (plc s p).2))->R.ret fr H':=
    fun code p nm H' h1 fr h2 h3=>hbad _ _ _ _ H' (tN hc hn h1) fr h2 h3
   by_cases hcl:(upperB c||lowerB c)=true
   . exact zr5 hH' hc hl hlen g ov bd hcl
   by_cases hd:t7 c=true
   . exact jf0 hH' hc hl hlen g ov bd hcl hd
   by_cases hq:c=39\/c=34
   . exact qz3 hH' hc hl hlen g ov bd hcl hd hq
   by_cases hs:u6 c=true
   . exact qg9 hH' hc hl hlen g ov bd hcl hd hq hs
   by_cases hp:spS.contains c=true
   . exact qe1 hH' hc hl hlen g ov bd hcl hd hq hs hp
   . exact q20 hH' hc hl hlen g ov bd hcl hd hq hs hp
end Go.Proofs.TryzL
namespace Go.Proofs.TryzL
open Go.Proofs.Lz
set_option maxHeartbeats 4000000
def cA:List Tok->CV
 | []=>.frz none []
 | t::r=>.frz (some 7) ((t::r).map E6)
def dW:LR->WV
 | .bad code nm l c=>.tup [.c (.frz none []),.c (i7 code nm l c)]
 | .ok l=>.tup [.c (cA l),.c zF]
def V2 (s:List UInt8):LR:=if 65536<s.length then .bad 3 [] 0 0 else i6 s 0 []
def tR:List Tok->WV
 | []=>.nils
 | t::r=>.view (.sl 5 0 0) true 0 38 (some 7) ((t::r).map E6)
theorem j09:Vv.fn 11=some { body:=(ICode.region [⟨some 2,none,.mv (.k .nils)⟩,⟨some 3,none,.lbox (some 4) (.k (.c (.agg [.int .i64 0,.str [],.int .i64 0,.int .i64 0])))⟩]).seq (ICode.scope 0 [0,3,4,5,6] (((ICode.region [⟨some 12,none,.mv (.t 0)⟩,⟨some 13,none,.len true (.t 12)⟩,⟨some 14,none,.bin .gtr (.t 13) (.k (.c (.int .i64 65536)))⟩]).seq (ICode.cond (.t 14) ((ICode.keep [3]).seq ((ICode.region [⟨some 15,none,.build [.c (.int .i64 0),.c (.str []),.c (.int .i64 0),.c (.int .i64 0)] [(0,1,.k (.c (.int .i64 3)))]⟩,⟨some 2,none,.mv (.k .nils)⟩,⟨none,none,.store (some 4) (.t 3) (.t 15)⟩]).seq ICode.ret)) ((ICode.keep [0,3]).seq ICode.skip))).seq ((ICode.region [⟨some 16,none,.mv (.t 0)⟩,⟨some 17,none,.build [.c (.str []),.c (.int .i64 0),.c (.int .i64 0),.c (.int .i64 0),.c (.int .i64 0),.c (.str []),.c (.int .i64 0),.c (.int .i64 0)] [(0,1,.t 16),(2,1,.k (.c (.int .i64 1))),(3,1,.k (.c (.int .i64 1)))]⟩,⟨some 18,none,.hbox (some 8) (.t 17)⟩,⟨some 4,none,.mv (.t 18)⟩]).seq ((ICode.region [⟨some 5,none,.mv (.k .nils)⟩]).seq ((ICode.region [⟨some 6,none,.lbox (some 7) (.k (.c (.agg [.int .i64 0,.str [],.str [],.int .i64 0,.bool false,.int .i64 0,.int .i64 0])))⟩]).seq ((ICode.region [⟨some 7,none,.mv (.k (.c (.bool false)))⟩]).seq ((ICode.region [⟨some 8,none,.mv (.k (.c (.int .i64 0)))⟩,⟨some 9,none,.mv (.k (.c (.int .i64 0)))⟩]).seq ((ICode.label 0).seq qW))))))) (ICode.skip.seq qW)),res:=[.tmp 2,.cell 3 (some 4)] }:=rfl
theorem yG {s:List UInt8} {i:Nat} {acc:List Tok} (h:¬ i<s.length):i6 s i acc=.ok acc:=by rw [i6,dif_neg h]
theorem j99 {H:q9} {s:List UInt8} {id i:Nat} {t6:CV} {N:f4} {B:Hs} {R:RP} (hH:ScH id (j5 s i) H) (hi:i<=s.length) (hl:s.length<2^30) (hlen:([]:List Tok).length<=16384)
 (hgo:∀ (acc':List Tok) (e:Nat) (t':CV) H',i6 s i ([]:List Tok)=i6 s e acc'->i<e->e<=s.length->acc'.length<=16384->ScH id (j5 s e) H'->∀ fr,KpL [0,3,4,5,6] fr [0,3,4,5,6] (l7 s id acc' t')->R.go 0 fr H')
 (hend:i6 s i ([]:List Tok)=.ok ([]:List Tok)->∀ fr:WFr,fr.env 2=tR ([]:List Tok)->fr.env 3=.lbox (some 4) (.c zF)->R.ret fr H)
 (hbad:∀ code nm l c' H',i6 s i ([]:List Tok)=.bad code nm l c'->∀ fr:WFr,fr.env 2=.nils->fr.env 3=.lbox (some 4) (.c (i7 code nm l c'))->R.ret fr H') :
 WP Vv qW (FL (l7 s id ([]:List Tok) t6) []) H N B R:=by
 have hr:=fun hi=>@z50 H s id i t6 N B R hH hi hl hlen hgo hbad;unfold qW lexP0;generalize hT:qK E9=T at *;unfold l7 at *;unfold ScH at hH;repeat' first|apply j2|exact q7|exact j8 rfl|(apply j7;rfl;rfl)|(apply j9;rfl;rfl;rfl)|(apply u5;rfl)|(apply l6;rfl;rfl;rfl)|(apply C7;rfl;rfl)|(apply m6;rfl;rfl)|(apply s9;rfl;rfl)|(apply l5;rfl;rfl)|(apply u1;rfl;rfl;rfl;rfl;exact u4 (by first | exact rfl | assumption | exact j0 (by assumption)))|(apply t8;rfl;rfl;(assumption);rfl)|(apply w8;focus (repeat (first | exact q8 | (apply v6;rfl) | (apply F7;rfl) | (apply d6;rfl) | (apply y6;rfl))))|apply j1|apply j3|apply j4|apply v8|apply w9|(apply v7;rfl)|(with_reducible (first|apply x6|apply x5);intro hc)
 . refine hend (yG ?_) _ rfl rfl;have e:(j5 s i).pos=i:=rfl;omega
 . refine hr ?_;have e:(j5 s i).pos=i:=rfl;omega
theorem q99 {H:q9} {s:List UInt8} {id i:Nat} {a:Tok} {r:List Tok} {t6:CV} {N:f4} {B:Hs} {R:RP} (hH:ScH id (j5 s i) H) (hi:i<=s.length) (hl:s.length<2^30) (hlen:(a::r).length<=16384)
 (hgo:∀ (acc':List Tok) (e:Nat) (t':CV) H',i6 s i (a::r)=i6 s e acc'->i<e->e<=s.length->acc'.length<=16384->ScH id (j5 s e) H'->∀ fr,KpL [0,3,4,5,6] fr [0,3,4,5,6] (l7 s id acc' t')->R.go 0 fr H')
 (hend:i6 s i (a::r)=.ok (a::r)->∀ fr:WFr,fr.env 2=tR (a::r)->fr.env 3=.lbox (some 4) (.c zF)->R.ret fr H)
 (hbad:∀ code nm l c' H',i6 s i (a::r)=.bad code nm l c'->∀ fr:WFr,fr.env 2=.nils->fr.env 3=.lbox (some 4) (.c (i7 code nm l c'))->R.ret fr H') :
 WP Vv qW (FL (l7 s id (a::r) t6) []) H N B R:=by
 have hr:=fun hi=>@qt5 H s id i a r t6 N B R hH hi hl hlen hgo hbad;unfold qW lexP0;generalize hT:qK E9=T at *;unfold l7 at *;unfold ScH at hH;repeat' first|apply j2|exact q7|exact j8 rfl|(apply j7;rfl;rfl)|(apply j9;rfl;rfl;rfl)|(apply u5;rfl)|(apply l6;rfl;rfl;rfl)|(apply P0;rfl;rfl;rfl)|(apply m6;rfl;rfl)|(apply s9;rfl;rfl)|(apply l5;rfl;rfl)|(apply u1;rfl;rfl;rfl;rfl;exact u4 (by first | exact rfl | assumption | exact j0 (by assumption)))|(apply t8;rfl;rfl;(assumption);rfl)|(apply w8;focus (repeat (first | exact q8 | (apply v6;rfl) | (apply D6;rfl;rfl) | (apply d6;rfl) | (apply y6;rfl))))|apply j1|apply j3|apply j4|apply v8|apply w9|(apply v7;rfl)|(with_reducible (first|apply x6|apply x5);intro hc)
 . refine hend (yG ?_) _ rfl rfl;have e:(j5 s i).pos=i:=rfl;omega
 . refine hr ?_;have e:(j5 s i).pos=i:=rfl;omega
theorem qr9 {fr:WFr} {H:q9} {xs:List CV} {f:CV} (h1:fr.env 2=.view (.sl 5 0 0) true 0 38 (some 7) xs) (h2:fr.env 3=.lbox (some 4) (.c f)):fin [.tmp 2,.cell 3 (some 4)] (.tup [.c (.frz (some 7) xs),.c f]) fr H:=by
 refine ⟨[.view (.sl 5 0 0) true 0 38 (some 7) xs,.c f],.tup [.own true 38 (some 7) xs,.c f],D8 false [.sl 5 0 0] H,?_,?_,rfl⟩
 . simp only [J4,h1,h2,if_true];rfl
 . unfold qL;rw [if_pos ⟨by exact List.nodup_cons.2 ⟨by simp [H7,E4,I6],List.nodup_nil⟩,rfl,.inr rfl⟩];rfl
theorem fN {fr:WFr} {H:q9} {acc:List Tok} {f:CV} (h1:fr.env 2=tR acc) (h2:fr.env 3=.lbox (some 4) (.c f)):fin [.tmp 2,.cell 3 (some 4)] (.tup [.c (cA acc),.c f]) fr H:=by
 cases acc with
 | nil=>exact z54 (by decide) (.nils h1) h2
 | cons a r=>exact qr9 h1 h2
theorem pX {fr:WFr} {H:q9} {f:CV} (h1:fr.env 2=.nils) (h2:fr.env 3=.lbox (some 4) (.c f)):fin [.tmp 2,.cell 3 (some 4)] (.tup [.c (.frz none []),.c f]) fr H:=z54 (by decide) (.nils h1) h2
theorem ja2 (s:List UInt8) (hl:s.length<=9223372036854775807):Rets Vv 11 [.c (.str s)] (dW (V2 s)):=by
 refine m7 j09 ?_;generalize hL:qW=L;repeat' first|apply j2|exact j8 rfl|(apply C7;rfl;rfl)|(apply m8;rfl;rfl;first | exact c6 (by first | exact rfl | assumption | exact j0 (by assumption)) | exact m9 (by first | exact rfl | assumption | exact j0 (by assumption)))|apply j1|apply j3|apply j4
 refine sO (fun p:List Tok×Nat×CV=>l7 s 0 p.1 p.2.2) (fun (p:List Tok×Nat×CV) H'=>p.1.length<=16384/\p.2.1<=s.length/\ScH 0 (j5 s p.2.1) H'/\i6 s p.2.1 p.1=i6 s 0 []/\s.length<=65536) (fun (p:List Tok×Nat×CV)=>s.length - p.2.1) ?_ ?_
 . have hpl:plc s 0=(1,1):=rfl;repeat' first|apply j2|exact q7|exact j8 rfl|(apply j7;rfl;rfl)|(apply j9;rfl;rfl;rfl)|(apply u5;rfl)|(apply l6;rfl;rfl;rfl)|(apply C7;rfl;rfl)|(apply m6;rfl;rfl)|(apply m8;rfl;rfl;first | exact c6 (by first | exact rfl | assumption | exact j0 (by assumption)) | exact m9 (by first | exact rfl | assumption | exact j0 (by assumption)))|(apply u1;rfl;rfl;rfl;rfl;exact u4 (by first | exact rfl | assumption | exact j0 (by assumption)))|(apply vE;rfl;rfl)|(apply w8;focus (repeat (first | exact q8 | (apply v6;rfl) | (apply y6;rfl))))|apply j1|apply j3|apply j4|apply v8|apply w9|apply lZ|(apply v7;rfl)|(with_reducible (first|apply x6|apply x5);intro hc)|(apply V1;(exact ShI.nils rfl);(exact ShI.cell rfl);(exact by decide))
   . unfold V2;rw [if_pos (by omega)];rfl
   . have e:V2 s=i6 s 0 []:=by unfold V2;rw [if_neg (by omega)]
     have hH:ScH 0 (j5 s 0) [.var (some 8) (scC (j5 s 0))]:=rfl;have gg:∀ (acc':List Tok) (e:Nat) (t':CV) H',i6 s 0 []=i6 s e acc'->0<e->e<=s.length->acc'.length<=16384->ScH 0 (j5 s e) H'->∀ fr,KpL [0,3,4,5,6] fr [0,3,4,5,6] (l7 s 0 acc' t')->(0=0/\∃ s':List Tok×Nat×CV,KpL [0,3,4,5,6] fr [0,3,4,5,6] (l7 s 0 s'.1 s'.2.2)/\(s'.1.length<=16384/\s'.2.1<=s.length/\ScH 0 (j5 s s'.2.1) H'/\i6 s s'.2.1 s'.1=i6 s 0 []/\s.length<=65536)):=
      fun acc' e t' H' g1 g2 g3 g4 g5 fr g6=>⟨rfl,(acc',e,t'),g6,⟨g4,g3,g5,g1.symm,by omega⟩⟩
     rw [e];subst hL;unfold qW lexP0;generalize hT:qK E9=T;repeat' first|apply j2|exact q7|exact j8 rfl|(apply j7;rfl;rfl)|(apply j9;rfl;rfl;rfl)|(apply u5;rfl)|(apply l6;rfl;rfl;rfl)|(apply C7;rfl;rfl)|(apply m6;rfl;rfl)|(apply s9;rfl;rfl)|(apply l5;rfl;rfl)|(apply u1;rfl;rfl;rfl;rfl;exact u4 (by first | exact rfl | assumption | exact j0 (by assumption)))|(apply t8;rfl;rfl;(assumption);rfl)|(apply w8;focus (repeat (first | exact q8 | (apply v6;rfl) | (apply F7;rfl) | (apply d6;rfl) | (apply y6;rfl))))|apply j1|apply j3|apply j4|apply v8|apply w9|(apply v7;rfl)|(with_reducible (first|apply x6|apply x5);intro hc)|(apply V1;(exact ShI.nils rfl);(exact ShI.cell rfl);(exact by decide))
     . have e1:(j5 s 0).pos=0:=rfl;have e0:i6 s 0 []=.ok []:=yG (by omega);rw [e0];rfl
     . subst hT;have e1:(j5 s 0).pos=0:=rfl;refine z50 (t6:=E6 ⟨0,[],[],0,false,0,0⟩) hH (by omega) (by omega) (by simp) gg ?_;intro code nm l c' H' k fr k1 k2;rw [k];exact pX k1 k2
 . rintro ⟨acc,j,t6⟩ H ⟨h1,h2,h3,h4,h5⟩;dsimp only at h1 h2 h3 h4 h5;dsimp only;repeat' first|apply j1|apply v8
   subst hL;have e:V2 s=i6 s j acc:=by unfold V2;rw [if_neg (by omega),h4]
   have gg:∀ (acc':List Tok) (e:Nat) (t':CV) H',i6 s j acc=i6 s e acc'->j<e->e<=s.length->acc'.length<=16384->ScH 0 (j5 s e) H'->∀ fr,KpL [0,3,4,5,6] fr [0,3,4,5,6] (l7 s 0 acc' t')->(0=0/\∃ s':List Tok×Nat×CV,KpL [0,3,4,5,6] fr [0,3,4,5,6] (l7 s 0 s'.1 s'.2.2)/\(s'.1.length<=16384/\s'.2.1<=s.length/\ScH 0 (j5 s s'.2.1) H'/\i6 s s'.2.1 s'.1=i6 s 0 []/\s.length<=65536)/\s.length - s'.2.1<s.length - j):=
    fun acc' e t' H' g1 g2 g3 g4 g5 fr g6=>⟨rfl,(acc',e,t'),g6,⟨g4,g3,g5,g1.symm.trans h4,h5⟩,by dsimp only;omega⟩
   rw [e];cases acc with
   | nil=>
     refine j99 h3 h2 (by omega) h1 gg ?_ ?_
     . intro k fr k1 k2;rw [k];exact fN k1 k2
     . intro code nm l c' H' k fr k1 k2;rw [k];exact pX k1 k2
   | cons a r=>
     refine q99 h3 h2 (by omega) h1 gg ?_ ?_
     . intro k fr k1 k2;rw [k];exact fN k1 k2
     . intro code nm l c' H' k fr k1 k2;rw [k];exact pX k1 k2
end Go.Proofs.TryzL
