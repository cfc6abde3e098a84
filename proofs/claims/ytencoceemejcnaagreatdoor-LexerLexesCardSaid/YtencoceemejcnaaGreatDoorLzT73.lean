/- Chapter 02: the reference's Lex: one unit. -/
import Derived.Test.YtencoceemejcnaaGreatDoorLzT55
import Derived.Test.YtencoceemejcnaaGreatDoorLzT70
import Derived.Test.YtencoceemejcnaaGreatDoorLzT72
set_option linter.unusedSimpArgs false
set_option linter.unusedVariables false
namespace Go.Proofs.TryzL
open Go.Proofs.Lz
set_option maxHeartbeats 4000000
theorem bL {s:List UInt8} {i j code p:Nat} (h:a6 s i j=some (code,p)):code≠0:=by
 unfold a6 at h;split at h
 . injection h with h;injection h with h _;omega
 . split at h
   . injection h with h;injection h with h _;omega
   . split at h
     . injection h with h;injection h with h _;omega
     . cases h
theorem j95 {s:List UInt8} {i:Nat}:∀ n v k code p,hexS s i n v k=.bad code p->code≠0:=by
 intro n;induction n with
 | zero=>intro v k code p h;cases h
 | succ n ih=>
   intro v k code p h;rw [hexS] at h;split at h
   . rename_i h1;injection h with h _;subst h;exact bL h1
   . split at h
     . injection h with h _;omega
     . exact ih _ _ _ _ h
theorem rH {s:List UInt8} {i k code p:Nat} {c:UInt8} (h:E8 s i c k=.bad code p):code≠0:=by
 unfold E8 at h;split at h
 . cases h
 . split at h
   . rename_i h1;injection h with h _;subst h;exact bL h1
   . dsimp only at h;split at h
     . cases h
     . split at h
       . cases h
       . split at h
         . cases h
         . split at h
           . exact j95 _ _ _ _ _ h
           . injection h with h _;omega
theorem qa6 {s:List UInt8} {i:Nat} {m:UInt8}:∀ n t j code p,s.length+1 - j<=n->A6 s i m t j=.bad code p->code≠0:=by
 intro n;induction n with
 | zero=>
   intro t j code p hn h;have hs:a6 s i j=some (7,i):=by unfold a6;rw [List.getElem?_eq_none (by omega)]
   rw [A6] at h;split at h
   . rename_i h1;injection h with h _;subst h;exact bL h1
   . rename_i h1;rw [hs] at h1;cases h1
 | succ n ih=>
   intro t j code p hn h;rw [A6] at h;split at h
   . rename_i h1;injection h with h _;subst h;exact bL h1
   . split at h
     . cases h
     . split at h
       . injection h with h _;omega
       . split at h
         . rename_i h1;injection h with h _;subst h;exact rH h1
         . rename_i b e h1;split at h
           . injection h with h _;omega
           . exact ih _ _ _ _ (by have:=xR h1;omega) h
theorem z74 {s:List UInt8} {i:Nat} {c:UInt8} {code p:Nat} {nm:List UInt8} (h:b8 s i c=.bad code p nm):code≠0:=by
 have wu:∀ {q t e},l9 i q t e=.bad code p nm->code≠0:=by
  intro q t e h;unfold l9 at h;split at h
  . injection h with h _ _;omega
  . split at h
    . injection h with h _ _;omega
    . cases h
 unfold b8 at h;split at h
 . unfold J7 at h;dsimp only at h;split at h<;>exact wu h
 . split at h
   . unfold J6 at h;split at h
     . injection h with h _ _;omega
     . cases h
   . split at h
     . unfold I7 jK at h;split at h
       . rename_i h1;injection h with h _ _;subst h;exact qa6 _ _ _ _ _ (Nat.le_refl _) h1
       . split at h
         . split at h
           . injection h with h _ _;omega
           . cases h
         . cases h
     . split at h
       . exact wu h
       . split at h
         . cases h
         . injection h with h _ _;omega
end Go.Proofs.TryzL
namespace Go.Proofs.TryzL
open Go.Proofs.Lz
set_option maxHeartbeats 4000000
section
variable {s t:List UInt8} {i j code p e:Nat} {m b:UInt8}
theorem rY (h:a6 s i j=some (code,p)):A6 s i m t j=.bad code p:=by
 rw [A6];split
 . rename_i h0;rw [h] at h0;injection h0 with h0;injection h0 with h1 h2;subst h1 h2;rfl
 . rename_i h0;rw [h] at h0;cases h0
theorem tQ (h:a6 s i j=none) (hm:s.getD j 0=m):A6 s i m t j=.ok t (j+1):=by
 rw [A6];split
 . rename_i h0;rw [h] at h0;cases h0
 . rw [if_pos hm]
theorem jd5 (h:a6 s i j=none) (hm:s.getD j 0≠39):A6 s i 39 [b] j=.bad 7 i:=by
 rw [A6];split
 . rename_i h0;rw [h] at h0;cases h0
 . rw [if_neg hm,if_pos ⟨rfl,rfl⟩]
theorem zk8 (h:a6 s i j=none) (hm:s.getD j 0≠m) (h1:¬ (m=39/\t.length=1)) (hc:E8 s i (s.getD j 0) (j+1)=.bad code p):A6 s i m t j=.bad code p:=by
 rw [A6];split
 . rename_i h0;rw [h] at h0;cases h0
 . rw [if_neg hm,if_neg h1];split
   . rename_i h0;rw [hc] at h0;injection h0 with h1 h2;subst h1 h2;rfl
   . rename_i h0;rw [hc] at h0;cases h0
theorem z04 (h:a6 s i j=none) (hm:s.getD j 0≠m) (h1:¬ (m=39/\t.length=1)) (hc:E8 s i (s.getD j 0) (j+1)=.ok b e):A6 s i m t j=if 200<t.length+1 then .bad 3 i else A6 s i m (t++[b]) e:=by
 rw [A6];split
 . rename_i h0;rw [h] at h0;cases h0
 . rw [if_neg hm,if_neg h1];split
   . rename_i h0;rw [hc] at h0;cases h0
   . rename_i h0;rw [hc] at h0;injection h0 with h1 h2;subst h1 h2;rfl
end
theorem z07 {s:List UInt8} {i j code p:Nat} (hl:s.length<2^30) (hi:i<=s.length) (h:a6 s i j=none) (hc:E8 s i (s.getD j 0) (j+1)=.bad code p):Rets Vv 98 [.c (.str s),.c (.int .i64 i),.c (.int .i64 j)] (.c (.agg [.int .i64 0,.str [],.str [],.int .i64 0,.bool false,.int .i64 0,.int .i64 0,.int .i64 0,.int .i64 code,.int .i64 p,.str []])):=by
 have:=z08 s i j hl hi;unfold nR at this;rw [h] at this;dsimp only at this;rw [hc] at this;exact this
theorem zj1 {s:List UInt8} {i j e:Nat} {b:UInt8} (hl:s.length<2^30) (hi:i<=s.length) (h:a6 s i j=none) (hc:E8 s i (s.getD j 0) (j+1)=.ok b e):Rets Vv 98 [.c (.str s),.c (.int .i64 i),.c (.int .i64 j)] (.c (.agg [.int .i64 0,.str [],.str [],.int .i64 b.toNat,.bool false,.int .i64 0,.int .i64 0,.int .i64 e,.int .i64 0,.int .i64 0,.str []])):=by
 have:=z08 s i j hl hi;unfold nR at this;rw [h] at this;dsimp only at this;rw [hc] at this;exact this
theorem qg7 (s:List UInt8) (i:Nat) (hl:s.length<2^30) (hi:i<s.length):Rets Vv 73 [.c (.str s),.c (.int .i64 i)] (.c (unC (I7 s i 39))):=by
 refine m7 jc1 ?_;have hb7:Rets Vv 76 [.c (.int .i64 7),.c (.int .i64 i),.c (.str [])] (.c (unC (.bad 7 i []))):=jA 7 i [];unfold I7;cases h1:a6 s i (i+1) with
 | some cp=>
   obtain ⟨code,p⟩:=cp;have h2:=uD hl h1;have hn:¬ (code:Int)=0:=by have:=uA h1;omega
   rw [rY h1];repeat' first|apply j2|exact q7|exact G0 rfl|(apply j7;rfl;rfl)|(apply C5;rfl;rfl;rfl)|(apply b6;rfl;rfl;omega)|(apply j9;rfl;rfl;rfl)|(apply x7;rfl;rfl;rfl;exact gEg (by omega))|(apply D9;rfl;exact E2 rfl)|(apply m8;rfl;rfl;first | exact c6 (by first | exact rfl | assumption | exact j0 (by assumption)) | exact m9 (by first | exact rfl | assumption | exact j0 (by assumption)))|(apply u1;rfl;rfl;rfl;rfl;exact u4 (by first | exact rfl | assumption | exact j0 (by assumption)))|(apply q6 (hc:=h2);rfl;rfl;rfl)|(apply w8;focus (repeat (first | exact q8 | (apply v6;rfl) | (apply y6;rfl))))|apply j1|apply j3|apply j4|apply v8|apply w9|(apply v7;rfl)|(with_reducible (first|apply u7|apply g8|apply f5|apply f6);intro hc)|(apply c8;rfl)
   try any_goals (exfalso;contradiction)
   all_goals first | rfl | trace_state
 | none=>
   have h2:=yX hl h1;obtain ⟨c,hc,hgd,hlt⟩:=yO h1;have e39:((c.toNat:Int)=39)↔c=39:=D7 (n:=39) (by decide);by_cases hc39:c=39
   . have hc39':(c.toNat:Int)=39:=e39.2 hc39;rw [tQ h1 (by rw [hgd,hc39])];repeat' first|apply j2|exact q7|exact G0 rfl|(apply j7;rfl;rfl)|(apply C5;rfl;rfl;rfl)|(apply b6;rfl;rfl;omega)|(apply j9;rfl;rfl;rfl)|(apply x7;rfl;rfl;rfl;assumption)|(apply D9;rfl;exact E2 rfl)|(apply m8;rfl;rfl;first | exact c6 (by first | exact rfl | assumption | exact j0 (by assumption)) | exact m9 (by first | exact rfl | assumption | exact j0 (by assumption)))|(apply u1;rfl;rfl;rfl;rfl;exact u4 (by first | exact rfl | assumption | exact j0 (by assumption)))|(apply q6 (hc:=h2);rfl;rfl;rfl)|(apply q6 (hc:=hb7);rfl;rfl;rfl)|(apply w8;focus (repeat (first | exact q8 | (apply v6;rfl) | (apply y6;rfl))))|apply j1|apply j3|apply j4|apply v8|apply w9|(apply v7;rfl)|(with_reducible (first|apply u7|apply g8|apply f5|apply f6);intro hc)|(apply c8;rfl)
     try any_goals (exfalso;contradiction)
     all_goals first | rfl | trace_state
   . have hc39':¬ (c.toNat:Int)=39:=fun e=>hc39 (e39.1 e);have hne:s.getD (i+1) 0≠39:=by rw [hgd];exact hc39
     cases h3:E8 s i (s.getD (i+1) 0) (i+1+1) with
     | bad code p=>
       have h4:=z07 hl (by omega) h1 h3;have hn:¬ (code:Int)=0:=by have:=rH h3;omega
       rw [zk8 h1 hne (by simp) h3];repeat' first|apply j2|exact q7|exact G0 rfl|(apply j7;rfl;rfl)|(apply C5;rfl;rfl;rfl)|(apply b6;rfl;rfl;omega)|(apply j9;rfl;rfl;rfl)|(apply x7;rfl;rfl;rfl;assumption)|(apply D9;rfl;exact E2 rfl)|(apply m8;rfl;rfl;first | exact c6 (by first | exact rfl | assumption | exact j0 (by assumption)) | exact m9 (by first | exact rfl | assumption | exact j0 (by assumption)))|(apply u1;rfl;rfl;rfl;rfl;exact u4 (by first | exact rfl | assumption | exact j0 (by assumption)))|(apply q6 (hc:=h2);rfl;rfl;rfl)|(apply q6 (hc:=h4);rfl;rfl;rfl)|(apply w8;focus (repeat (first | exact q8 | (apply v6;rfl) | (apply y6;rfl))))|apply j1|apply j3|apply j4|apply v8|apply w9|(apply v7;rfl)|(with_reducible (first|apply u7|apply g8|apply f5|apply f6);intro hc)|(apply c8;rfl)
       try any_goals (exfalso;contradiction)
       all_goals first | rfl | trace_state
     | ok b e=>
       have h4:=zj1 hl (by omega) h1 h3;rw [z04 h1 hne (by simp) h3,if_neg (by simp)];cases h5:a6 s i e with
       | some cp=>
         obtain ⟨code,p⟩:=cp;have h6:=uD hl h5;have hn:¬ (code:Int)=0:=by have:=uA h5;omega
         rw [rY h5];repeat' first|apply j2|exact q7|exact G0 rfl|(apply j7;rfl;rfl)|(apply C5;rfl;rfl;rfl)|(apply b6;rfl;rfl;omega)|(apply j9;rfl;rfl;rfl)|(apply x7;rfl;rfl;rfl;assumption)|(apply x7;rfl;rfl;rfl;exact gEg (by omega))|(apply l6;rfl;rfl;rfl)|(apply D9;rfl;exact E2 rfl)|(apply m8;rfl;rfl;first | exact c6 (by first | exact rfl | assumption | exact j0 (by assumption)) | exact m9 (by first | exact rfl | assumption | exact j0 (by assumption)))|(apply u1;rfl;rfl;rfl;rfl;exact u4 (by first | exact rfl | assumption | exact j0 (by assumption)))|(apply q6 (hc:=h2);rfl;rfl;rfl)|(apply q6 (hc:=h4);rfl;rfl;rfl)|(apply q6 (hc:=h6);rfl;rfl;rfl)|(apply w8;focus (repeat (first | exact q8 | (apply v6;rfl) | (apply y6;rfl))))|apply j1|apply j3|apply j4|apply v8|apply w9|(apply v7;rfl)|(with_reducible (first|apply u7|apply g8|apply f5|apply f6);intro hc)|(apply c8;rfl)
         try any_goals (exfalso;contradiction)
         all_goals first | rfl | trace_state
       | none=>
         have h6:=yX hl h5;obtain ⟨d,hd,hgd5,hlt5⟩:=yO h5;have d39:((d.toNat:Int)=39)↔d=39:=D7 (n:=39) (by decide);by_cases hd39:d=39
         . have hd39':(d.toNat:Int)=39:=d39.2 hd39;rw [List.nil_append,tQ h5 (by rw [hgd5,hd39])];repeat' first|apply j2|exact q7|exact G0 rfl|(apply j7;rfl;rfl)|(apply C5;rfl;rfl;rfl)|(apply b6;rfl;rfl;omega)|(apply j9;rfl;rfl;rfl)|(apply x7;rfl;rfl;rfl;assumption)|(apply l6;rfl;rfl;rfl)|(apply D9;rfl;exact E2 rfl)|(apply m8;rfl;rfl;first | exact c6 (by first | exact rfl | assumption | exact j0 (by assumption)) | exact m9 (by first | exact rfl | assumption | exact j0 (by assumption)))|(apply u1;rfl;rfl;rfl;rfl;exact u4 (by first | exact rfl | assumption | exact j0 (by assumption)))|(apply q6 (hc:=h2);rfl;rfl;rfl)|(apply q6 (hc:=h4);rfl;rfl;rfl)|(apply q6 (hc:=h6);rfl;rfl;rfl)|(apply w8;focus (repeat (first | exact q8 | (apply v6;rfl) | (apply y6;rfl))))|apply j1|apply j3|apply j4|apply v8|apply w9|(apply v7;rfl)|(with_reducible (first|apply u7|apply g8|apply f5|apply f6);intro hc)|(apply c8;rfl)
           try any_goals (exfalso;contradiction)
           all_goals first | rfl | trace_state
         . have hd39':¬ (d.toNat:Int)=39:=fun e=>hd39 (d39.1 e);rw [List.nil_append,jd5 h5 (by rw [hgd5];exact hd39)];repeat' first|apply j2|exact q7|exact G0 rfl|(apply j7;rfl;rfl)|(apply C5;rfl;rfl;rfl)|(apply b6;rfl;rfl;omega)|(apply j9;rfl;rfl;rfl)|(apply x7;rfl;rfl;rfl;assumption)|(apply l6;rfl;rfl;rfl)|(apply D9;rfl;exact E2 rfl)|(apply m8;rfl;rfl;first | exact c6 (by first | exact rfl | assumption | exact j0 (by assumption)) | exact m9 (by first | exact rfl | assumption | exact j0 (by assumption)))|(apply u1;rfl;rfl;rfl;rfl;exact u4 (by first | exact rfl | assumption | exact j0 (by assumption)))|(apply q6 (hc:=h2);rfl;rfl;rfl)|(apply q6 (hc:=h4);rfl;rfl;rfl)|(apply q6 (hc:=h6);rfl;rfl;rfl)|(apply q6 (hc:=hb7);rfl;rfl;rfl)|(apply w8;focus (repeat (first | exact q8 | (apply v6;rfl) | (apply y6;rfl))))|apply j1|apply j3|apply j4|apply v8|apply w9|(apply v7;rfl)|(with_reducible (first|apply u7|apply g8|apply f5|apply f6);intro hc)|(apply c8;rfl)
           try any_goals (exfalso;contradiction)
           all_goals first | rfl | trace_state
end Go.Proofs.TryzL
namespace Go.Proofs.TryzL
open Go.Proofs.Lz
set_option maxHeartbeats 4000000
theorem q48 (s:List UInt8) (i:Nat) (hl:s.length<2^30) (hi:i<s.length):Rets Vv 74 [.c (.str s),.c (.int .i64 i)] (.c (unC (I7 s i 34))):=by
 refine m7 qj2 ?_;have hb3:Rets Vv 76 [.c (.int .i64 3),.c (.int .i64 i),.c (.str [])] (.c (unC (.bad 3 i []))):=jA 3 i [];repeat' first|apply j2|exact q7|exact j8 rfl|(apply j7;rfl;rfl)|(apply b6;rfl;rfl;omega)|(apply C7;rfl;rfl)|(apply m8;rfl;rfl;first | exact c6 (by first | exact rfl | assumption | exact j0 (by assumption)) | exact m9 (by first | exact rfl | assumption | exact j0 (by assumption)))|apply j1|apply j3|apply j4|apply x3
 refine I0 (fun p:List UInt8×Nat=>[(0,.c (.str s)),(1,.c (.int .i64 i)),(4,.lbox (some 11) (.c (.agg [.int .i64 0,.str [],.str [],.int .i64 0,.bool false,.int .i64 0,.int .i64 0,.int .i64 0,.int .i64 0,.int .i64 0,.str []]))),(5,tW p.1),(6,.c (.int .i64 p.2))])
  (fun p=>p.1.length<=200/\p.2<=s.length+1/\A6 s i 34 [] (i+1)=A6 s i 34 p.1 p.2) (fun p=>s.length+1 - p.2) ([],i+1) ?_ ⟨Nat.zero_le _,by dsimp only;omega,rfl⟩ ?_
 . repeat' first|exact q8|refine d5 rfl ?_
 rintro ⟨t,j⟩ ⟨ht,hj,he⟩;dsimp only at ht hj he;dsimp only;unfold I7;rw [he];cases h1:a6 s i j with
 | some cp=>
   obtain ⟨code,p⟩:=cp;have h2:=uD hl h1;have hn:¬ (code:Int)=0:=by have:=uA h1;omega
   rw [rY h1];cases t<;>unfold tW
   . repeat' first|apply j2|exact q7|exact j8 rfl|exact G0 rfl|(apply j7;rfl;rfl)|(apply C5;rfl;rfl;rfl)|(apply j9;rfl;rfl;rfl)|(apply x7;rfl;rfl;rfl;exact gEg (by omega))|(apply C7;rfl;rfl)|(apply D9;rfl;exact E2 rfl)|(apply m8;rfl;rfl;first | exact c6 (by first | exact rfl | assumption | exact j0 (by assumption)) | exact m9 (by first | exact rfl | assumption | exact j0 (by assumption)))|(apply u1;rfl;rfl;rfl;rfl;exact u4 (by first | exact rfl | assumption | exact j0 (by assumption)))|(apply q6 (hc:=h2);rfl;rfl;rfl)|(apply w8;focus (repeat (first | exact q8 | (apply v6;rfl) | (apply F7;rfl) | (apply y6;rfl))))|apply j1|apply j3|apply j4|apply x3|apply v8|apply w9|(apply v7;rfl)|(with_reducible (first|apply u7|apply g8|apply f5|apply f6);intro hc)|(apply c8;rfl)
     try any_goals (exfalso;contradiction)
     all_goals first | rfl | trace_state
   . repeat' first|apply j2|exact q7|exact j8 rfl|exact G0 rfl|(apply j7;rfl;rfl)|(apply C5;rfl;rfl;rfl)|(apply j9;rfl;rfl;rfl)|(apply x7;rfl;rfl;rfl;exact gEg (by omega))|(apply P0;rfl;rfl;rfl)|(apply D9;rfl;exact E2 rfl)|(apply m8;rfl;rfl;first | exact c6 (by first | exact rfl | assumption | exact j0 (by assumption)) | exact m9 (by first | exact rfl | assumption | exact j0 (by assumption)))|(apply u1;rfl;rfl;rfl;rfl;exact u4 (by first | exact rfl | assumption | exact j0 (by assumption)))|(apply q6 (hc:=h2);rfl;rfl;rfl)|(apply w8;focus (repeat (first | exact q8 | (apply v6;rfl) | (apply D6;rfl;rfl) | (apply y6;rfl))))|apply j1|apply j3|apply j4|apply x3|apply v8|apply w9|(apply v7;rfl)|(with_reducible (first|apply u7|apply g8|apply f5|apply f6);intro hc)|(apply c8;rfl)
     try any_goals (exfalso;contradiction)
     all_goals first | rfl | trace_state
 | none=>
   have h2:=yX hl h1;obtain ⟨c,hc,hgd,hlt⟩:=yO h1;have e34:((c.toNat:Int)=34)↔c=34:=D7 (n:=34) (by decide);by_cases hc34:c=34
   . have hc34':(c.toNat:Int)=34:=e34.2 hc34;rw [tQ h1 (by rw [hgd,hc34])];cases t with
     | nil=>
       have hbc:M3 []=some []:=rfl;unfold tW;repeat' first|apply j2|exact q7|exact j8 rfl|exact G0 rfl|(apply j7;rfl;rfl)|(apply C5;rfl;rfl;rfl)|(apply b6;rfl;rfl;omega)|(apply pM;rfl;assumption)|(apply j9;rfl;rfl;rfl)|(apply x7;rfl;rfl;rfl;assumption)|(apply l6;rfl;rfl;rfl)|(apply C7;rfl;rfl)|(apply D9;rfl;exact E2 rfl)|(apply m8;rfl;rfl;first | exact c6 (by first | exact rfl | assumption | exact j0 (by assumption)) | exact m9 (by first | exact rfl | assumption | exact j0 (by assumption)))|(apply u1;rfl;rfl;rfl;rfl;exact u4 (by first | exact rfl | assumption | exact j0 (by assumption)))|(apply q6 (hc:=h2);rfl;rfl;rfl)|(apply w8;focus (repeat (first | exact q8 | (apply v6;rfl) | (apply F7;rfl) | (apply y6;rfl))))|apply j1|apply j3|apply j4|apply x3|apply v8|apply w9|(apply v7;rfl)|(with_reducible (first|apply u7|apply g8|apply f5|apply f6);intro hc)|(apply c8;rfl)
       try any_goals (exfalso;contradiction)
       all_goals first | rfl | trace_state
     | cons x y=>
       have hbc:M3 ((x::y).map bC)=some (x::y):=z13 _;unfold tW;repeat' first|apply j2|exact q7|exact j8 rfl|exact G0 rfl|(apply j7;rfl;rfl)|(apply C5;rfl;rfl;rfl)|(apply b6;rfl;rfl;omega)|(apply pM;rfl;assumption)|(apply j9;rfl;rfl;rfl)|(apply x7;rfl;rfl;rfl;assumption)|(apply l6;rfl;rfl;rfl)|(apply P0;rfl;rfl;rfl)|(apply D9;rfl;exact E2 rfl)|(apply m8;rfl;rfl;first | exact c6 (by first | exact rfl | assumption | exact j0 (by assumption)) | exact m9 (by first | exact rfl | assumption | exact j0 (by assumption)))|(apply u1;rfl;rfl;rfl;rfl;exact u4 (by first | exact rfl | assumption | exact j0 (by assumption)))|(apply q6 (hc:=h2);rfl;rfl;rfl)|(apply w8;focus (repeat (first | exact q8 | (apply v6;rfl) | (apply D6;rfl;rfl) | (apply y6;rfl))))|apply j1|apply j3|apply j4|apply x3|apply v8|apply w9|(apply v7;rfl)|(with_reducible (first|apply u7|apply g8|apply f5|apply f6);intro hc)|(apply c8;rfl)
       try any_goals (exfalso;contradiction)
       all_goals first | rfl | trace_state
   . have hc34':¬ (c.toNat:Int)=34:=fun e=>hc34 (e34.1 e);have hne:s.getD j 0≠34:=by rw [hgd];exact hc34
     cases h3:E8 s i (s.getD j 0) (j+1) with
     | bad code p=>
       have h4:=z07 hl (by omega) h1 h3;have hn:¬ (code:Int)=0:=by have:=rH h3;omega
       rw [zk8 h1 hne (by simp) h3];cases t<;>unfold tW
       . repeat' first|apply j2|exact q7|exact j8 rfl|exact G0 rfl|exact vO rfl|(apply j7;rfl;rfl)|(apply C5;rfl;rfl;rfl)|(apply j9;rfl;rfl;rfl)|(apply jI;rfl)|(apply x7;rfl;rfl;rfl;assumption)|(apply zO;(iterate 6 rfl))|(apply C7;rfl;rfl)|(apply zC;rfl;rfl;rfl)|(apply D9;rfl;exact E2 rfl)|(apply m8;rfl;rfl;first | exact c6 (by first | exact rfl | assumption | exact j0 (by assumption)) | exact m9 (by first | exact rfl | assumption | exact j0 (by assumption)))|(apply u1;rfl;rfl;rfl;rfl;exact u4 (by first | exact rfl | assumption | exact j0 (by assumption)))|(apply wE;rfl)|(apply kB;rfl;rfl;(omega))|(apply q6 (hc:=h2);rfl;rfl;rfl)|(apply q6 (hc:=h4);rfl;rfl;rfl)|(apply w8;focus (repeat (first | exact q8 | (apply v6;rfl) | (apply F7;rfl) | (apply y6;rfl))))|apply j1|apply j3|apply j4|apply x3|apply v8|apply w9|(apply v7;rfl)|(with_reducible (first|apply u7|apply g8|apply f5|apply f6);intro hc)|(apply c8;rfl)
         try any_goals (exfalso;contradiction)
         all_goals first | rfl | trace_state
       . repeat' first|apply j2|exact q7|exact j8 rfl|exact G0 rfl|exact vO rfl|(apply j7;rfl;rfl)|(apply C5;rfl;rfl;rfl)|(apply j9;rfl;rfl;rfl)|(apply Z3;rfl)|(apply x7;rfl;rfl;rfl;assumption)|(apply zO;(iterate 6 rfl))|(apply zC;rfl;rfl;rfl)|(apply P0;rfl;rfl;rfl)|(apply D9;rfl;exact E2 rfl)|(apply m8;rfl;rfl;first | exact c6 (by first | exact rfl | assumption | exact j0 (by assumption)) | exact m9 (by first | exact rfl | assumption | exact j0 (by assumption)))|(apply u1;rfl;rfl;rfl;rfl;exact u4 (by first | exact rfl | assumption | exact j0 (by assumption)))|(apply wE;rfl)|(apply uO;rfl;rfl;(omega))|(apply q6 (hc:=h2);rfl;rfl;rfl)|(apply q6 (hc:=h4);rfl;rfl;rfl)|(apply w8;focus (repeat (first | exact q8 | (apply v6;rfl) | (apply D6;rfl;rfl) | (apply y6;rfl))))|apply j1|apply j3|apply j4|apply x3|apply v8|apply w9|(apply v7;rfl)|(with_reducible (first|apply u7|apply g8|apply f5|apply f6);intro hc)|(apply c8;rfl)
         try any_goals (exfalso;contradiction)
         all_goals first | rfl | trace_state
     | ok b e=>
       have h4:=zj1 hl (by omega) h1 h3;have hel:=rO (by omega) h3;have hge:=xR h3;have hw:IntKind.u8.wrap (b.toNat:Int)=b.toNat:=by have:=b.toNat_lt;simp [IntKind.wrap,IntKind.bits,IntKind.signed];omega
       rw [z04 h1 hne (by simp) h3];by_cases h200:200<t.length+1
       . rw [if_pos h200];have h200':t.length=200:=by omega
         cases t with
         | nil=>simp at h200'
         | cons x y=>
           unfold tW;have hml:((x::y).map bC).length=200:=by rw [List.length_map];exact h200'
           repeat' first|apply j2|exact q7|exact j8 rfl|exact G0 rfl|exact vO rfl|(apply j7;rfl;rfl)|(apply C5;rfl;rfl;rfl)|(apply j9;rfl;rfl;rfl)|(apply Z3;rfl)|(apply x7;rfl;rfl;rfl;assumption)|(apply zO;(iterate 6 rfl))|(apply zC;rfl;rfl;rfl)|(apply P0;rfl;rfl;rfl)|(apply D9;rfl;exact E2 rfl)|(apply m8;rfl;rfl;first | exact c6 (by first | exact rfl | assumption | exact j0 (by assumption)) | exact m9 (by first | exact rfl | assumption | exact j0 (by assumption)))|(apply u1;rfl;rfl;rfl;rfl;exact u4 (by first | exact rfl | assumption | exact j0 (by assumption)))|(apply wE;rfl)|(apply uO;rfl;rfl;(omega))|(apply q6 (hc:=h2);rfl;rfl;rfl)|(apply q6 (hc:=h4);rfl;rfl;rfl)|(apply q6 (hc:=hb3);rfl;rfl;rfl)|(apply w8;focus (repeat (first | exact q8 | (apply v6;rfl) | (apply D6;rfl;rfl) | (apply y6;rfl))))|apply j1|apply j3|apply j4|apply x3|apply v8|apply w9|(apply v7;rfl)|(with_reducible (first|apply u7|apply g8|apply f5|apply f6);intro hc)|(apply c8;rfl)
           try any_goals (exfalso;contradiction)
           try any_goals (exfalso;omega)
           all_goals first | rfl | trace_state
       . rw [if_neg h200];cases t with
         | nil=>
           unfold tW;repeat' first|apply j2|exact q7|exact j8 rfl|exact G0 rfl|exact vO rfl|(apply j7;rfl;rfl)|(apply C5;rfl;rfl;rfl)|(apply j9;rfl;rfl;rfl)|(apply jI;rfl)|(apply x7;rfl;rfl;rfl;assumption)|(apply zO;(iterate 6 rfl))|(apply C7;rfl;rfl)|(apply zC;rfl;rfl;rfl)|(apply D9;rfl;exact E2 rfl)|(apply m8;rfl;rfl;first | exact c6 (by first | exact rfl | assumption | exact j0 (by assumption)) | exact m9 (by first | exact rfl | assumption | exact j0 (by assumption)))|(apply u1;rfl;rfl;rfl;rfl;exact u4 (by first | exact rfl | assumption | exact j0 (by assumption)))|(apply wE;rfl)|(apply kB;rfl;rfl;(omega))|(apply q6 (hc:=h2);rfl;rfl;rfl)|(apply q6 (hc:=h4);rfl;rfl;rfl)|(apply w8;focus (repeat (first | exact q8 | (apply v6;rfl) | (apply F7;rfl) | (apply y6;rfl))))|apply j1|apply j3|apply j4|apply x3|apply v8|apply w9|(apply v7;rfl)|(with_reducible (first|apply u7|apply g8|apply f5|apply f6);intro hc)|(apply c8;rfl)
           try any_goals (exfalso;contradiction)
           try any_goals (exfalso;omega)
           refine ⟨([b],e),?_,rfl,⟨by simp,by dsimp only;omega,rfl⟩,by dsimp only;omega⟩;dsimp only;rw [hw];repeat' first|exact q8|refine d5 rfl ?_
         | cons x y=>
           unfold tW;have hy:y.length+1<=200:=ht;have hml:((x::y).map bC).length=(x::y).length:=List.length_map _;repeat' first|apply j2|exact q7|exact j8 rfl|exact G0 rfl|exact vO rfl|(apply j7;rfl;rfl)|(apply C5;rfl;rfl;rfl)|(apply j9;rfl;rfl;rfl)|(apply Z3;rfl)|(apply x7;rfl;rfl;rfl;assumption)|(apply zO;(iterate 6 rfl))|(apply zC;rfl;rfl;rfl)|(apply P0;rfl;rfl;rfl)|(apply D9;rfl;exact E2 rfl)|(apply m8;rfl;rfl;first | exact c6 (by first | exact rfl | assumption | exact j0 (by assumption)) | exact m9 (by first | exact rfl | assumption | exact j0 (by assumption)))|(apply u1;rfl;rfl;rfl;rfl;exact u4 (by first | exact rfl | assumption | exact j0 (by assumption)))|(apply wE;rfl)|(apply uO;rfl;rfl;(simp only [List.length_map,List.length_cons,List.length_nil,List.length_append,List.length_replicate];omega))|(apply q6 (hc:=h2);rfl;rfl;rfl)|(apply q6 (hc:=h4);rfl;rfl;rfl)|(apply w8;focus (repeat (first | exact q8 | (apply v6;rfl) | (apply D6;rfl;rfl) | (apply y6;rfl))))|apply j1|apply j3|apply j4|apply x3|apply v8|apply w9|(apply v7;rfl)|(with_reducible (first|apply u7|apply g8|apply f5|apply f6);intro hc)|(apply c8;rfl)
           try any_goals (exfalso;contradiction)
           try any_goals (exfalso;omega)
           refine ⟨(x::y++[b],e),?_,rfl,⟨by simp at h200 ⊢;omega,by dsimp only;omega,rfl⟩,by dsimp only;omega⟩;dsimp only;rw [hw];repeat' first|exact q8|refine d5 rfl ?_|refine d5 ?_ ?_
           all_goals exact (zl5 x b y).symm
end Go.Proofs.TryzL
namespace Go.Proofs.TryzL
open Go.Proofs.Lz
set_option maxHeartbeats 4000000
def wQ (s:List UInt8) (i:Nat) (c:UInt8):U:=match E3 s i c with
 | some u=>u
 | none=>b8 s i c
theorem jf3 {s:List UInt8} {i:Nat} {c:UInt8} (hc:s[i]?=some c) (hs:u6 c=true) (h:K9 (x9 u6 s i)=true):c=45:=by
 obtain ⟨r,er⟩:=kO (p:=u6) hc hs;rw [er] at h;unfold K9 at h;simp only [Bool.and_eq_true,List.all_cons] at h;simpa using h.2.1
section
variable {s:List UInt8} {i:Nat} {c:UInt8}
theorem qd4 (hc:s[i]?=some c) (h:c≠32/\c≠9/\c≠10) (hp:[123,45].isPrefixOf (s.drop i)=true):wQ s i c=qC (cmtS s i 0 i):=by
 have h123:c=123:=by have:=(pre2_iff.1 hp).1;rw [hc] at this;injection this
 unfold wQ E3;rw [if_neg (by simp [h]),if_neg (by rintro ⟨a,_⟩;rw [h123] at a;cases a),if_pos hp]
theorem qa9 (hc:s[i]?=some c) (h:c≠32/\c≠9/\c≠10) (hs:u6 c=true) (hd:K9 (x9 u6 s i)=true):wQ s i c=qC (lineS s i):=by
 unfold wQ E3;rw [if_neg (by simp [h]),if_pos ⟨jf3 hc hs hd,hd⟩]
theorem sP (h:c≠32/\c≠9/\c≠10) (hp:¬ [123,45].isPrefixOf (s.drop i)=true) (hd:c=45->K9 (x9 u6 s i)=false):wQ s i c=b8 s i c:=by
 unfold wQ E3;rw [if_neg (by simp [h]),if_neg (by rintro ⟨a,b⟩;rw [hd a] at b;cases b),if_neg hp]
end
theorem qx9 {s:List UInt8} {i:Nat} {c:UInt8} (hc:s[i]?=some c):P8 s (i:Int) ((i:Int)+1) [c]:=by
 obtain ⟨hi,e⟩:=gEs hc;refine fR (b:=i+1) (by omega) hi ?_;rw [Nat.add_sub_cancel_left,List.drop_eq_getElem_cons hi,e];rfl
end Go.Proofs.TryzL
