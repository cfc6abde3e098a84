/- Chapter 02: the law about limits. -/
import Derived.Test.YtencoceemejcnaaGreatDoorLzT73i
import Derived.Test.YtencoceemejcnaaGreatDoorLzT73
import Derived.Test.YtencoceemejcnaaGreatDoorLzT72
import Derived.Test.YtencoceemejcnaaGreatDoorLzT55
import Derived.Test.YtencoceemejcnaaGreatDoorLzT33
set_option linter.unusedSimpArgs false
set_option linter.unusedVariables false
namespace Go.Proofs.TryzL
open Go.Proofs.Lz
set_option maxHeartbeats 4000000
theorem jc9 (s:List UInt8) (i:Nat) (c:UInt8) (hl:s.length<2^30) (hc:s[i]?=some c) (hw:c≠32/\c≠9/\c≠10):Rets Vv 37 [.c (.str s),.c (.int .i64 i)] (.c (unC (wQ s i c))):=by
 have hi:i<s.length:=(gEs hc).1;have c123:((c.toNat:Int)=123)↔c=123:=D7 (n:=123) (by decide);have c39:((c.toNat:Int)=39)↔c=39:=D7 (n:=39) (by decide);have c34:((c.toNat:Int)=34)↔c=34:=D7 (n:=34) (by decide);have n39:c=39↔c.toNat=39:=u8n (n:=39) (by decide);have n34:c=34↔c.toNat=34:=u8n (n:=34) (by decide);by_cases hp:[123,45].isPrefixOf (s.drop i)=true
 . rw [qd4 hc hw hp];have h62:=j65 s i hl hp;obtain ⟨p1,p2⟩:=pre2_iff.1 hp;have q1:(c.toNat:Int)=123:=by rw [hc] at p1;injection p1 with p1;exact c123.2 p1
   have q2:i+1<s.length:=(gEs p2).1;exact zu1 hl hc hi q2 q1 p2 (by decide) h62
 have hnp:∀ f:UInt8,s[i+1]?=some f->¬ ((c.toNat:Int)=123/\(f.toNat:Int)=45):=by
  rintro f hf ⟨e1,e2⟩;have f45:((f.toNat:Int)=45)↔f=45:=D7 (n:=45) (by decide);exact hp (pre2_iff.2 ⟨by rw [hc,c123.1 e1],by rw [hf,f45.1 e2]⟩)
 by_cases hcl:(upperB c||lowerB c)=true
 . have h65:=ji9 s i c hl hc hcl;have hcl0:=hcl;simp [upperB,lowerB] at hcl0;rw [sP hw hp (by intro e;rw [e] at hcl;cases hcl)];have e:b8 s i c=J7 s i:=by unfold b8;rw [if_pos hcl]
   rw [e];cases hu:upperB c<;>cases hlo:lowerB c
   . rw [hu,hlo] at hcl;cases hcl
   . exact j56 hl hc hi hnp hu hlo h65
   . exact q16 hl hc hi hnp hu hlo h65
   . exact qf8 hl hc hi hnp hu hlo h65
 have hu:upperB c=false:=by rw [<-Bool.not_eq_true];intro h;exact hcl (by rw [h];rfl)
 have hlo:lowerB c=false:=by rw [<-Bool.not_eq_true];intro h;exact hcl (by rw [h];simp)
 cases hs:u6 c with
 | true=>
   obtain ⟨r,er⟩:=kO (p:=u6) hc hs;have h67:=zc6 s i (by omega) hl;have hS:=mL (p:=u6) (s:=s) (j:=i) (by omega);have hle:=hS.1.2.2;have hall:=bP (p:=u6) (s:=s) (j:=i);have h68:=zd0 (x9 u6 s i) (by omega);have hne:x9 u6 s i≠[]:=by rw [er];simp
   cases hdd:K9 (x9 u6 s i) with
   | true=>
     rw [hdd] at h68;rw [qa9 hc hw hs hdd];exact zx3 hl hc hi hnp hu hlo hs (by omega) hS h67 h68 (qr0 s i hl (by omega))
   | false=>
     rw [hdd] at h68;rw [sP hw hp (fun _=>hdd)];have hsl:=nO hs;have e:b8 s i c=l9 i [] (x9 u6 s i) (i+(x9 u6 s i).length):=by
      unfold b8;rw [if_neg hcl,if_neg (by simp [t7];omega),if_neg (by rw [n39,n34];omega),if_pos hs]
     rw [e];have w:=mI (q:=[]) (i:=i) (a:=i) (e:=i+(x9 u6 s i).length) (t:=x9 u6 s i) hl (Nat.le_refl _) hS (.inr ⟨rfl,rfl⟩) (fun h=>mD (.inr (z22 hne h hall hdd)));exact jf4 hl hc hi hnp hu hlo hs (by omega) hS h67 h68 w
 | false=>
   have h45:c=45->K9 (x9 u6 s i)=false:=by intro e;rw [e] at hs;cases hs
   rw [sP hw hp h45];cases hd:t7 c with
   | true=>
     have e:b8 s i c=J6 s i:=by unfold b8;rw [if_neg hcl,if_pos hd]
     rw [e];exact qr1 hl hc hi hnp hu hlo hs hd (qc4 s i hl (by omega))
   | false=>
     have hd':¬ t7 c=true:=by rw [hd];decide
     by_cases h39:c=39
     . have e:b8 s i c=I7 s i 39:=by unfold b8;rw [if_neg hcl,if_neg hd',if_pos (.inl h39),h39]
       rw [e];exact j55 hl hc hi hnp hu hlo hs hd (c39.2 h39) (qg7 s i hl hi)
     . by_cases h34:c=34
       . have e:b8 s i c=I7 s i 34:=by unfold b8;rw [if_neg hcl,if_neg hd',if_pos (.inr h34),h34]
         rw [e];exact j77 hl hc hi hnp hu hlo hs hd (c34.2 h34) (q48 s i hl hi)
       . cases hsp:spS.contains c with
         | true=>
           have e:b8 s i c=.tok 8 [] [c] 0 (i+1):=by
            unfold b8;rw [if_neg hcl,if_neg hd',if_neg (by rintro (h | h);exact h39 h;exact h34 h),if_neg (by rw [hs];decide),if_pos hsp]
           rw [e];exact qm5 hl hc hi hnp hu hlo hs hd (fun e=>h39 (c39.1 e)) (fun e=>h34 (c34.1 e)) hsp
         | false=>
           have e:b8 s i c=.bad 5 i []:=by
            unfold b8;rw [if_neg hcl,if_neg hd',if_neg (by rintro (h | h);exact h39 h;exact h34 h),if_neg (by rw [hs];decide),if_neg (by rw [hsp];decide)]
           rw [e];exact zs8 hl hc hi hnp hu hlo hs hd (fun e=>h39 (c39.1 e)) (fun e=>h34 (c34.1 e)) hsp
end Go.Proofs.TryzL
namespace Go.Proofs.TryzL
open Go.Proofs.Lz
set_option maxHeartbeats 4000000
theorem dF {s:List UInt8} {i j code p:Nat} (hi:i<=s.length) (h:a6 s i j=some (code,p)):p<=s.length:=by
 unfold a6 at h;split at h
 . injection h with h;injection h with _ h;omega
 . rename_i c hc;have:=(gEs hc).1;split at h
   . injection h with h;injection h with _ h;omega
   . split at h
     . injection h with h;injection h with _ h;omega
     . cases h
theorem j39 {s:List UInt8} {i:Nat} (hi:i<=s.length):∀ n v k code p,hexS s i n v k=.bad code p->p<=s.length:=by
 intro n;induction n with
 | zero=>intro v k code p h;cases h
 | succ n ih=>
   intro v k code p h;rw [hexS] at h;split at h
   . rename_i h1;injection h with _ h;subst h;exact dF hi h1
   . split at h
     . injection h with _ h;omega
     . exact ih _ _ _ _ h
theorem jg5 {s:List UInt8} {i k code p:Nat} {c:UInt8} (hi:i<=s.length) (h:E8 s i c k=.bad code p):p<=s.length:=by
 unfold E8 at h;split at h
 . cases h
 . split at h
   . rename_i h1;injection h with _ h;subst h;exact dF hi h1
   . dsimp only at h;split at h
     . cases h
     . split at h
       . cases h
       . split at h
         . cases h
         . split at h
           . exact j39 hi _ _ _ _ _ h
           . injection h with _ h;omega
theorem q05 {s:List UInt8} {i:Nat} {m:UInt8} (hi:i<=s.length):∀ n t j code p,s.length+1 - j<=n->A6 s i m t j=.bad code p->p<=s.length:=by
 intro n;induction n with
 | zero=>
   intro t j code p hn h;have hs:a6 s i j=some (7,i):=by unfold a6;rw [List.getElem?_eq_none (by omega)]
   rw [A6] at h;split at h
   . rename_i h1;injection h with _ h;subst h;exact dF hi h1
   . rename_i h1;rw [hs] at h1;cases h1
 | succ n ih=>
   intro t j code p hn h;rw [A6] at h;split at h
   . rename_i h1;injection h with _ h;subst h;exact dF hi h1
   . split at h
     . cases h
     . split at h
       . injection h with _ h;omega
       . split at h
         . rename_i h1;injection h with _ h;subst h;exact jg5 hi h1
         . rename_i b e h1;split at h
           . injection h with _ h;omega
           . exact ih _ _ _ _ (by have:=xR h1;omega) h
theorem zk2 {s:List UInt8} {i:Nat} {c:UInt8} {code p:Nat} {nm:List UInt8} (hi:i<=s.length) (h:b8 s i c=.bad code p nm):p<=s.length:=by
 have wu:∀ {q t e},l9 i q t e=.bad code p nm->p<=s.length:=by
  intro q t e h;unfold l9 at h;split at h
  . injection h with _ h _;omega
  . split at h
    . injection h with _ h _;omega
    . cases h
 unfold b8 at h;split at h
 . unfold J7 at h;dsimp only at h;split at h<;>exact wu h
 . split at h
   . unfold J6 at h;split at h
     . injection h with _ h _;omega
     . cases h
   . split at h
     . unfold I7 jK at h;split at h
       . rename_i h1;injection h with _ h _;subst h;exact q05 hi _ _ _ _ _ (Nat.le_refl _) h1
       . split at h
         . split at h
           . injection h with _ h _;omega
           . cases h
         . cases h
     . split at h
       . exact wu h
       . split at h
         . cases h
         . injection h with _ h _;omega
theorem j30 (t:List UInt8):Z6 t≠0:=by
 unfold Z6;repeat' split
 all_goals decide
theorem qy0 {s q t:List UInt8} {i e:Nat} {c:UInt8} {op n:Int} (h:b8 s i c=.tok op q t n e):op≠0:=by
 have wu:∀ {q' t' e'},l9 i q' t' e'=.tok op q t n e->op≠0:=by
  intro q' t' e' h;unfold l9 at h;split at h
  . cases h
  . split at h
    . cases h
    . injection h with h _ _ _ _;rw [<-h];exact j30 _
 unfold b8 at h;split at h
 . unfold J7 at h;dsimp only at h;split at h<;>exact wu h
 . split at h
   . unfold J6 at h;split at h
     . cases h
     . injection h with h _ _ _ _;omega
   . split at h
     . unfold I7 jK at h;split at h
       . cases h
       . split at h
         . split at h
           . cases h
           . injection h with h _ _ _ _;omega
         . injection h with h _ _ _ _;omega
     . split at h
       . exact wu h
       . split at h
         . injection h with h _ _ _ _;omega
         . cases h
theorem zx7 (s:List UInt8):∀ n j code p,s.length - j<=n->lineS s j=.bad code p->p<=s.length:=by
 intro n;induction n with
 | zero=>intro j code p hn h;rw [lineS,dif_pos (by omega)] at h;cases h
 | succ n ih=>
   intro j code p hn h;rw [lineS] at h;split at h
   . cases h
   . split at h
     . cases h
     . split at h
       . injection h with _ h;omega
       . exact ih _ _ _ (by omega) h
theorem qy6 (s:List UInt8) (i:Nat) (hi:i<=s.length):∀ n d j code p,s.length - j<=n->cmtS s i d j=.bad code p->p<=s.length:=by
 intro n;induction n with
 | zero=>intro d j code p hn h;rw [cmtS,dif_pos (by omega)] at h;injection h with _ h;omega
 | succ n ih=>
   intro d j code p hn h;rw [cmtS] at h;split at h
   . injection h with _ h;omega
   . split at h
     . exact ih _ _ _ _ (by omega) h
     . split at h
       . split at h
         . cases h
         . exact ih _ _ _ _ (by omega) h
       . split at h
         . injection h with _ h;omega
         . exact ih _ _ _ _ (by omega) h
theorem oV {s:List UInt8} {i:Nat} {c:UInt8} {code p:Nat} {nm:List UInt8} (hi:i<=s.length) (h:E3 s i c=some (.bad code p nm)):p<=s.length:=by
 have cu:∀ {r:KR},(∀ code p,r=.bad code p->p<=s.length)->qC r=.bad code p nm->p<=s.length:=by
  intro r hr h;cases r with
  | bad c q=>injection h with _ h _;subst h;exact hr _ _ rfl
  | ok e=>cases h
 unfold E3 at h;split at h
 . cases h
 . split at h
   . injection h with h;exact cu (fun _ _ e=>zx7 s _ _ _ _ (Nat.le_refl _) e) h
   . split at h
     . injection h with h;exact cu (fun _ _ e=>qy6 s _ hi _ _ _ _ _ (Nat.le_refl _) e) h
     . cases h
end Go.Proofs.TryzL
namespace Go.Proofs.TryzL
open Go.Proofs.Lz
set_option maxHeartbeats 4000000
def k12 (s:List UInt8) (acc:List Tok) (i:Nat):List (Nat×WV):=[(0,.c (.str s)),(3,.lbox (some 4) (.c zF)),(4,O4 acc),(5,.c (.int .i64 i))]
theorem zr2 {s:List UInt8} {i:Nat} {c:UInt8} {H:q9} {N:f4} {B:Hs} {R:RP} (hl:s.length<2^30) (hc:s[i]?=some c) (hi:i<s.length) (hw:(c.toNat:Int)=32\/(c.toNat:Int)=9\/(c.toNat:Int)=10) (hgo:∀ fr,KpL [0,3,4,5] fr [0,3,4,5] (k12 s ([]:List Tok) (i+1))->N fr H):WP Vv zK (FL (k12 s ([]:List Tok) i) []) H N B R:=by
 unfold k12 O4 at *;repeat' first|apply j2|exact q7|exact j8 rfl|(apply j7;rfl;rfl)|(apply b6;rfl;rfl;omega)|(apply j9;rfl;rfl;rfl)|(apply u5;rfl)|(apply y9;rfl;(with_reducible rfl);rfl)|(apply y0;rfl;(with_reducible rfl);rfl)|(apply x7;rfl;rfl;rfl;assumption)|(apply w8;focus (repeat (first | exact q8 | (apply v6;rfl) | (apply F7;rfl) | (apply y6;rfl))))|apply j1|apply j3|apply j4|apply x3|apply v8|apply l0|(apply T9;rfl)|(apply m5;rfl;(with_reducible rfl))|(apply v7;rfl)|(apply x8;rfl;(with_reducible rfl))|(apply l4;rfl;(with_reducible rfl))|(apply y7;rfl)|(with_reducible apply u7;intro hc;try (exfalso;omega))|(with_reducible apply g8;intro hc;try (exfalso;omega))|(with_reducible apply x6;intro hc;try (exfalso;omega))|(with_reducible apply x5;intro hc;try (exfalso;omega))
 try any_goals (exfalso;omega)
 try any_goals (exfalso;contradiction)
 all_goals
  refine hgo _ ?_;repeat' first|exact q8|refine d5 rfl ?_
theorem zz2 {s:List UInt8} {i:Nat} {c:UInt8} {H:q9} {N:f4} {B:Hs} {R:RP} (hl:s.length<2^30) (hc:s[i]?=some c) (hi:i<s.length) (w1:¬ (c.toNat:Int)=32) (w2:¬ (c.toNat:Int)=9) (w3:¬ (c.toNat:Int)=10) {e:Nat} (h37:Rets Vv 37 [.c (.str s),.c (.int .i64 i)] (.c (unC (.skip e)))) (hgo:∀ fr,KpL [0,3,4,5] fr [0,3,4,5] (k12 s ([]:List Tok) e)->N fr H):WP Vv zK (FL (k12 s ([]:List Tok) i) []) H N B R:=by
 unfold k12 O4 at *;unfold unC at h37;repeat' first|apply j2|exact q7|exact G0 rfl|(apply j7;rfl;rfl)|(apply C5;rfl;rfl;rfl)|(apply j9;rfl;rfl;rfl)|(apply u5;rfl)|(apply y0;rfl;(with_reducible rfl);rfl)|(apply x7;rfl;rfl;rfl;assumption)|(apply D9;rfl;exact E2 rfl)|(apply m8;rfl;rfl;first | exact c6 (by first | exact rfl | assumption | exact j0 (by assumption)) | exact m9 (by first | exact rfl | assumption | exact j0 (by assumption)))|(apply u1;rfl;rfl;rfl;rfl;exact u4 (by first | exact rfl | assumption | exact j0 (by assumption)))|(apply q6 (hc:=h37);rfl;rfl;rfl)|(apply w8;focus (repeat (first | exact q8 | (apply v6;rfl) | (apply F7;rfl) | (apply y6;rfl))))|apply j1|apply j3|apply j4|apply x3|apply v8|(apply v7;rfl)|(apply x8;rfl;(with_reducible rfl))|(apply y7;rfl)|(with_reducible apply u7;intro hc;try (exfalso;omega))|(with_reducible apply g8;intro hc;try (exfalso;omega))|(with_reducible apply f5;intro hc;try (exfalso;omega))|(with_reducible apply f6;intro hc;try (exfalso;omega))|(with_reducible apply x6;intro hc;try (exfalso;omega))|(with_reducible apply x5;intro hc;try (exfalso;omega))
 try any_goals (exfalso;omega)
 try any_goals (exfalso;contradiction)
 all_goals
  refine hgo _ ?_;repeat' first|exact q8|refine d5 rfl ?_
theorem zf0 {s:List UInt8} {i:Nat} {c:UInt8} {H:q9} {N:f4} {B:Hs} {R:RP} (hl:s.length<2^30) (hc:s[i]?=some c) (hi:i<s.length) (w1:¬ (c.toNat:Int)=32) (w2:¬ (c.toNat:Int)=9) (w3:¬ (c.toNat:Int)=10) {code p:Nat} {nm:List UInt8} (hcd:code≠0) (hp:p<=s.length) (h37:Rets Vv 37 [.c (.str s),.c (.int .i64 i)] (.c (unC (.bad code p nm)))) (hbad:∀ fr:WFr,fr.env 2=.nils->fr.env 3=.lbox (some 4) (.c (i7 code nm (plc s p).1 (plc s p).2))->R.ret fr H):WP Vv zK (FL (k12 s ([]:List Tok) i) []) H N B R:=by
 have h38:=tJ s p code nm hp hl;have hcd':¬ (code:Int)=0:=by omega
 unfold k12 O4 at *;unfold unC at h37;unfold i7 at hbad;repeat' first|apply j2|exact q7|exact G0 rfl|(apply j7;rfl;rfl)|(apply C5;rfl;rfl;rfl)|(apply j9;rfl;rfl;rfl)|(apply u5;rfl)|(apply y0;rfl;(with_reducible rfl);rfl)|(apply x7;rfl;rfl;rfl;assumption)|(apply C7;rfl;rfl)|(apply D9;rfl;exact E2 rfl)|(apply m8;rfl;rfl;first | exact c6 (by first | exact rfl | assumption | exact j0 (by assumption)) | exact m9 (by first | exact rfl | assumption | exact j0 (by assumption)))|(apply u1;rfl;rfl;rfl;rfl;exact u4 (by first | exact rfl | assumption | exact j0 (by assumption)))|(apply q6 (hc:=h37);rfl;rfl;rfl)|(apply q6 (hc:=h38);rfl;rfl;rfl)|(apply w8;focus (repeat (first | exact q8 | (apply v6;rfl) | (apply F7;rfl) | (apply y6;rfl))))|apply j1|apply j3|apply j4|apply x3|apply v8|apply w9|(apply v7;rfl)|(apply x8;rfl;(with_reducible rfl))|(apply y7;rfl)|(with_reducible apply u7;intro hc;try (exfalso;omega))|(with_reducible apply g8;intro hc;try (exfalso;omega))|(with_reducible apply f5;intro hc;try (exfalso;omega))|(with_reducible apply f6;intro hc;try (exfalso;omega))|(with_reducible apply x6;intro hc;try (exfalso;omega))|(with_reducible apply x5;intro hc;try (exfalso;omega))
 try any_goals (exfalso;omega)
 try any_goals (exfalso;contradiction)
 all_goals exact hbad _ rfl rfl
theorem zs7 {s:List UInt8} {i:Nat} {c:UInt8} {a:Tok} {r:List Tok} {H:q9} {N:f4} {B:Hs} {R:RP} (hl:s.length<2^30) (hc:s[i]?=some c) (hi:i<s.length) (hw:(c.toNat:Int)=32\/(c.toNat:Int)=9\/(c.toNat:Int)=10) (hgo:∀ fr,KpL [0,3,4,5] fr [0,3,4,5] (k12 s (a::r) (i+1))->N fr H):WP Vv zK (FL (k12 s (a::r) i) []) H N B R:=by
 unfold k12 O4 at *;repeat' first|apply j2|exact q7|exact j8 rfl|(apply j7;rfl;rfl)|(apply b6;rfl;rfl;omega)|(apply j9;rfl;rfl;rfl)|(apply u5;rfl)|(apply y9;rfl;(with_reducible rfl);rfl)|(apply y0;rfl;(with_reducible rfl);rfl)|(apply x7;rfl;rfl;rfl;assumption)|(apply w8;focus (repeat (first | exact q8 | (apply v6;rfl) | (apply D6;rfl;rfl) | (apply y6;rfl))))|apply j1|apply j3|apply j4|apply x3|apply v8|apply l0|(apply T9;rfl)|(apply m5;rfl;(with_reducible rfl))|(apply v7;rfl)|(apply x8;rfl;(with_reducible rfl))|(apply l4;rfl;(with_reducible rfl))|(apply y7;rfl)|(with_reducible apply u7;intro hc;try (exfalso;omega))|(with_reducible apply g8;intro hc;try (exfalso;omega))|(with_reducible apply x6;intro hc;try (exfalso;omega))|(with_reducible apply x5;intro hc;try (exfalso;omega))
 try any_goals (exfalso;omega)
 try any_goals (exfalso;contradiction)
 all_goals
  refine hgo _ ?_;repeat' first|exact q8|refine d5 rfl ?_
theorem j35 {s:List UInt8} {i:Nat} {c:UInt8} {a:Tok} {r:List Tok} {H:q9} {N:f4} {B:Hs} {R:RP} (hl:s.length<2^30) (hc:s[i]?=some c) (hi:i<s.length) (w1:¬ (c.toNat:Int)=32) (w2:¬ (c.toNat:Int)=9) (w3:¬ (c.toNat:Int)=10) {e:Nat} (h37:Rets Vv 37 [.c (.str s),.c (.int .i64 i)] (.c (unC (.skip e)))) (hgo:∀ fr,KpL [0,3,4,5] fr [0,3,4,5] (k12 s (a::r) e)->N fr H):WP Vv zK (FL (k12 s (a::r) i) []) H N B R:=by
 unfold k12 O4 at *;unfold unC at h37;repeat' first|apply j2|exact q7|exact G0 rfl|(apply j7;rfl;rfl)|(apply C5;rfl;rfl;rfl)|(apply j9;rfl;rfl;rfl)|(apply u5;rfl)|(apply y0;rfl;(with_reducible rfl);rfl)|(apply x7;rfl;rfl;rfl;assumption)|(apply D9;rfl;exact E2 rfl)|(apply m8;rfl;rfl;first | exact c6 (by first | exact rfl | assumption | exact j0 (by assumption)) | exact m9 (by first | exact rfl | assumption | exact j0 (by assumption)))|(apply u1;rfl;rfl;rfl;rfl;exact u4 (by first | exact rfl | assumption | exact j0 (by assumption)))|(apply q6 (hc:=h37);rfl;rfl;rfl)|(apply w8;focus (repeat (first | exact q8 | (apply v6;rfl) | (apply D6;rfl;rfl) | (apply y6;rfl))))|apply j1|apply j3|apply j4|apply x3|apply v8|(apply v7;rfl)|(apply x8;rfl;(with_reducible rfl))|(apply y7;rfl)|(with_reducible apply u7;intro hc;try (exfalso;omega))|(with_reducible apply g8;intro hc;try (exfalso;omega))|(with_reducible apply f5;intro hc;try (exfalso;omega))|(with_reducible apply f6;intro hc;try (exfalso;omega))|(with_reducible apply x6;intro hc;try (exfalso;omega))|(with_reducible apply x5;intro hc;try (exfalso;omega))
 try any_goals (exfalso;omega)
 try any_goals (exfalso;contradiction)
 all_goals
  refine hgo _ ?_;repeat' first|exact q8|refine d5 rfl ?_
theorem eE {s:List UInt8} {i:Nat} {c:UInt8} {a:Tok} {r:List Tok} {H:q9} {N:f4} {B:Hs} {R:RP} (hl:s.length<2^30) (hc:s[i]?=some c) (hi:i<s.length) (w1:¬ (c.toNat:Int)=32) (w2:¬ (c.toNat:Int)=9) (w3:¬ (c.toNat:Int)=10) {code p:Nat} {nm:List UInt8} (hcd:code≠0) (hp:p<=s.length) (h37:Rets Vv 37 [.c (.str s),.c (.int .i64 i)] (.c (unC (.bad code p nm)))) (hbad:∀ fr:WFr,fr.env 2=.nils->fr.env 3=.lbox (some 4) (.c (i7 code nm (plc s p).1 (plc s p).2))->R.ret fr H):WP Vv zK (FL (k12 s (a::r) i) []) H N B R:=by
 have h38:=tJ s p code nm hp hl;have hcd':¬ (code:Int)=0:=by omega
 unfold k12 O4 at *;unfold unC at h37;unfold i7 at hbad;repeat' first|apply j2|exact q7|exact G0 rfl|(apply j7;rfl;rfl)|(apply C5;rfl;rfl;rfl)|(apply j9;rfl;rfl;rfl)|(apply u5;rfl)|(apply y0;rfl;(with_reducible rfl);rfl)|(apply x7;rfl;rfl;rfl;assumption)|(apply C7;rfl;rfl)|(apply D9;rfl;exact E2 rfl)|(apply m8;rfl;rfl;first | exact c6 (by first | exact rfl | assumption | exact j0 (by assumption)) | exact m9 (by first | exact rfl | assumption | exact j0 (by assumption)))|(apply u1;rfl;rfl;rfl;rfl;exact u4 (by first | exact rfl | assumption | exact j0 (by assumption)))|(apply q6 (hc:=h37);rfl;rfl;rfl)|(apply q6 (hc:=h38);rfl;rfl;rfl)|(apply w8;focus (repeat (first | exact q8 | (apply v6;rfl) | (apply D6;rfl;rfl) | (apply y6;rfl))))|apply j1|apply j3|apply j4|apply x3|apply v8|apply w9|(apply v7;rfl)|(apply x8;rfl;(with_reducible rfl))|(apply y7;rfl)|(with_reducible apply u7;intro hc;try (exfalso;omega))|(with_reducible apply g8;intro hc;try (exfalso;omega))|(with_reducible apply f5;intro hc;try (exfalso;omega))|(with_reducible apply f6;intro hc;try (exfalso;omega))|(with_reducible apply x6;intro hc;try (exfalso;omega))|(with_reducible apply x5;intro hc;try (exfalso;omega))
 try any_goals (exfalso;omega)
 try any_goals (exfalso;contradiction)
 all_goals exact hbad _ rfl rfl
end Go.Proofs.TryzL
namespace Go.Proofs.TryzL
open Go.Proofs.Lz
set_option maxHeartbeats 4000000
theorem jb3 {s:List UInt8} {i:Nat} {c:UInt8} {H:q9} {N:f4} {B:Hs} {R:RP} (hl:s.length<2^30) (hc:s[i]?=some c) (hi:i<s.length) (w1:¬ (c.toNat:Int)=32) (w2:¬ (c.toNat:Int)=9) (w3:¬ (c.toNat:Int)=10) {op n:Int} {q t:List UInt8} {e:Nat} (hop:¬ op=0) (hlen:([]:List Tok).length<16384) (h37:Rets Vv 37 [.c (.str s),.c (.int .i64 i)] (.c (unC (.tok op q t n e)))) (hgo:∀ fr,KpL [0,3,4,5] fr [0,3,4,5] (k12 s (([]:List Tok)++[⟨op,q,t,n,false,(plc s i).1,(plc s i).2⟩]) e)->N fr H):WP Vv zK (FL (k12 s ([]:List Tok) i) []) H N B R:=by
 have h39:=cM s i (by omega) hl;unfold k12 O4 at *;unfold unC at h37;repeat' first|apply j2|exact q7|exact j8 rfl|exact G0 rfl|exact vO rfl|(apply j7;rfl;rfl)|(apply C5;rfl;rfl;rfl)|(apply j9;rfl;rfl;rfl)|(apply u5;rfl)|(apply jI;rfl)|(apply y0;rfl;(with_reducible rfl);rfl)|(apply x7;rfl;rfl;rfl;assumption)|(apply zO;(iterate 6 rfl))|(apply C7;rfl;rfl)|(apply zC;rfl;rfl;rfl)|(apply D9;rfl;exact E2 rfl)|(apply A9;rfl;rfl;rfl)|(apply m8;rfl;rfl;first | exact c6 (by first | exact rfl | assumption | exact j0 (by assumption)) | exact m9 (by first | exact rfl | assumption | exact j0 (by assumption)))|(apply u1;rfl;rfl;rfl;rfl;exact u4 (by first | exact rfl | assumption | exact j0 (by assumption)))|(apply kW;(iterate 8 rfl);exact pC (by first | exact rfl | assumption | exact j0 (by assumption)))|(apply A7;rfl;rfl)|(apply kB;rfl;rfl;(omega))|(apply q6 (hc:=h37);rfl;rfl;rfl)|(apply q6 (hc:=h39);rfl;rfl;rfl)|(apply w8;focus (repeat (first | exact q8 | (apply v6;rfl) | (apply F7;rfl) | (apply y6;rfl))))|apply j1|apply j3|apply j4|apply x3|apply v8|(apply v7;rfl)|(apply x8;rfl;(with_reducible rfl))|(apply y7;rfl)|(with_reducible apply u7;intro hc;try (exfalso;omega))|(with_reducible apply g8;intro hc;try (exfalso;omega))|(with_reducible apply f5;intro hc;try (exfalso;omega))|(with_reducible apply f6;intro hc;try (exfalso;omega))|(with_reducible apply x6;intro hc;try (exfalso;omega))|(with_reducible apply x5;intro hc;try (exfalso;omega))
 try any_goals (exfalso;omega)
 try any_goals (exfalso;contradiction)
 all_goals
  refine hgo _ ?_;repeat' first|exact q8|refine d5 rfl ?_
theorem j20 {s:List UInt8} {i:Nat} {c:UInt8} {a:Tok} {r:List Tok} {H:q9} {N:f4} {B:Hs} {R:RP} (hl:s.length<2^30) (hc:s[i]?=some c) (hi:i<s.length) (w1:¬ (c.toNat:Int)=32) (w2:¬ (c.toNat:Int)=9) (w3:¬ (c.toNat:Int)=10) {op n:Int} {q t:List UInt8} {e:Nat} (hop:¬ op=0) (hlen:(a::r).length<16384) (h37:Rets Vv 37 [.c (.str s),.c (.int .i64 i)] (.c (unC (.tok op q t n e)))) (hgo:∀ fr,KpL [0,3,4,5] fr [0,3,4,5] (k12 s ((a::r)++[⟨op,q,t,n,false,(plc s i).1,(plc s i).2⟩]) e)->N fr H):WP Vv zK (FL (k12 s (a::r) i) []) H N B R:=by
 have h39:=cM s i (by omega) hl;have hr:r.length+1<16384:=hlen;have e1:k12 s (a::r++[⟨op,q,t,n,false,(plc s i).1,(plc s i).2⟩]) e=[(0,.c (.str s)),(3,.lbox (some 4) (.c zF)),(4,.own true 38 (some 7) ((a::r).map E6++[.agg [.int .i64 op,.str q,.str t,.int .i64 n,.bool false,.int .i64 (plc s i).1,.int .i64 (plc s i).2]])),(5,.c (.int .i64 e))]:=by unfold k12;rw [z87];rfl
 rw [e1] at hgo;unfold k12 O4 at *;unfold unC at h37;repeat' first|apply j2|exact q7|exact j8 rfl|exact G0 rfl|exact vO rfl|(apply j7;rfl;rfl)|(apply C5;rfl;rfl;rfl)|(apply j9;rfl;rfl;rfl)|(apply u5;rfl)|(apply Z3;rfl)|(apply y0;rfl;(with_reducible rfl);rfl)|(apply x7;rfl;rfl;rfl;assumption)|(apply zO;(iterate 6 rfl))|(apply zC;rfl;rfl;rfl)|(apply P0;rfl;rfl;rfl)|(apply D9;rfl;exact E2 rfl)|(apply A9;rfl;rfl;rfl)|(apply m8;rfl;rfl;first | exact c6 (by first | exact rfl | assumption | exact j0 (by assumption)) | exact m9 (by first | exact rfl | assumption | exact j0 (by assumption)))|(apply u1;rfl;rfl;rfl;rfl;exact u4 (by first | exact rfl | assumption | exact j0 (by assumption)))|(apply kW;(iterate 8 rfl);exact pC (by first | exact rfl | assumption | exact j0 (by assumption)))|(apply A7;rfl;rfl)|(apply uO;rfl;rfl;(simp only [List.length_map,List.length_cons,List.length_nil,List.length_append,List.length_replicate];omega))|(apply q6 (hc:=h37);rfl;rfl;rfl)|(apply q6 (hc:=h39);rfl;rfl;rfl)|(apply w8;focus (repeat (first | exact q8 | (apply v6;rfl) | (apply D6;rfl;rfl) | (apply y6;rfl))))|apply j1|apply j3|apply j4|apply x3|apply v8|(apply v7;rfl)|(apply x8;rfl;(with_reducible rfl))|(apply y7;rfl)|(with_reducible apply u7;intro hc;try (exfalso;omega))|(with_reducible apply g8;intro hc;try (exfalso;omega))|(with_reducible apply f5;intro hc;try (exfalso;omega))|(with_reducible apply f6;intro hc;try (exfalso;omega))|(with_reducible apply x6;intro hc;try (exfalso;omega))|(with_reducible apply x5;intro hc;try (exfalso;omega))
 try any_goals (exfalso;omega)
 try any_goals (exfalso;contradiction)
 all_goals
  refine hgo _ ?_;repeat' first|exact q8|refine d5 rfl ?_
theorem q88 {s:List UInt8} {i:Nat} {c:UInt8} {a:Tok} {r:List Tok} {H:q9} {N:f4} {B:Hs} {R:RP} (hl:s.length<2^30) (hc:s[i]?=some c) (hi:i<s.length) (w1:¬ (c.toNat:Int)=32) (w2:¬ (c.toNat:Int)=9) (w3:¬ (c.toNat:Int)=10) {op n:Int} {q t:List UInt8} {e:Nat} (hop:¬ op=0) (hlen:(a::r).length=16384) (h37:Rets Vv 37 [.c (.str s),.c (.int .i64 i)] (.c (unC (.tok op q t n e)))) (hbad:∀ fr:WFr,fr.env 2=.nils->fr.env 3=.lbox (some 4) (.c (i7 3 [] (plc s i).1 (plc s i).2))->R.ret fr H):WP Vv zK (FL (k12 s (a::r) i) []) H N B R:=by
 have h38:Rets Vv 38 [.c (.str s),.c (.int .i64 i),.c (.int .i64 3),.c (.str [])] (.c (.agg [.int .i64 3,.str [],.int .i64 (plc s i).1,.int .i64 (plc s i).2])):=tJ s i 3 [] (by omega) hl;have hr:((a::r).map E6).length=16384:=by rw [List.length_map];exact hlen
 unfold k12 O4 at *;unfold unC at h37;unfold i7 at hbad;repeat' first|apply j2|exact q7|exact j8 rfl|exact G0 rfl|(apply j7;rfl;rfl)|(apply C5;rfl;rfl;rfl)|(apply j9;rfl;rfl;rfl)|(apply u5;rfl)|(apply Z3;rfl)|(apply y0;rfl;(with_reducible rfl);rfl)|(apply x7;rfl;rfl;rfl;assumption)|(apply C7;rfl;rfl)|(apply P0;rfl;rfl;rfl)|(apply D9;rfl;exact E2 rfl)|(apply m8;rfl;rfl;first | exact c6 (by first | exact rfl | assumption | exact j0 (by assumption)) | exact m9 (by first | exact rfl | assumption | exact j0 (by assumption)))|(apply u1;rfl;rfl;rfl;rfl;exact u4 (by first | exact rfl | assumption | exact j0 (by assumption)))|(apply q6 (hc:=h37);rfl;rfl;rfl)|(apply q6 (hc:=h38);rfl;rfl;rfl)|(apply w8;focus (repeat (first | exact q8 | (apply v6;rfl) | (apply D6;rfl;rfl) | (apply y6;rfl))))|apply j1|apply j3|apply j4|apply x3|apply v8|apply w9|(apply v7;rfl)|(apply x8;rfl;(with_reducible rfl))|(apply y7;rfl)|(with_reducible apply u7;intro hc;try (exfalso;omega))|(with_reducible apply g8;intro hc;try (exfalso;omega))|(with_reducible apply f5;intro hc;try (exfalso;omega))|(with_reducible apply f6;intro hc;try (exfalso;omega))|(with_reducible apply x6;intro hc;try (exfalso;omega))|(with_reducible apply x5;intro hc;try (exfalso;omega))
 try any_goals (exfalso;omega)
 try any_goals (exfalso;contradiction)
 all_goals exact hbad _ rfl rfl
end Go.Proofs.TryzL
namespace Go.Proofs.TryzL
open Go.Proofs.Lz
set_option maxHeartbeats 4000000
theorem j92 {fr:WFr} {H:q9} {xs:List CV} {f:CV} (h1:fr.env 2=.view (.sl 4 0 0) true 0 38 (some 7) xs) (h2:fr.env 3=.lbox (some 4) (.c f)):fin [.tmp 2,.cell 3 (some 4)] (.tup [.c (.frz (some 7) xs),.c f]) fr H:=by
 refine ⟨[.view (.sl 4 0 0) true 0 38 (some 7) xs,.c f],.tup [.own true 38 (some 7) xs,.c f],D8 false [.sl 4 0 0] H,?_,?_,rfl⟩
 . simp only [J4,h1,h2,if_true];rfl
 . unfold qL;rw [if_pos ⟨by exact List.nodup_cons.2 ⟨by simp [H7,E4,I6],List.nodup_nil⟩,rfl,.inr rfl⟩];rfl
structure G12 (s:List UInt8) (i:Nat) (acc:List Tok) (N:f4) (R:RP) (H:q9):Prop where
 go:∀ (acc':List Tok) (e:Nat),i6 s i acc=i6 s e acc'->i<e->e<=s.length->acc'.length<=16384->∀ fr,KpL [0,3,4,5] fr [0,3,4,5] (k12 s acc' e)->N fr H
 bad:∀ code nm l c,i6 s i acc=.bad code nm l c->∀ fr:WFr,fr.env 2=.nils->fr.env 3=.lbox (some 4) (.c (i7 code nm l c))->R.ret fr H
theorem qx4 {s:List UInt8} {i:Nat} {acc:List Tok} {N:f4} {B:Hs} {R:RP} {H:q9} (hl:s.length<2^30) (hi:i<s.length) (ha:acc.length<=16384) (g:G12 s i acc N R H):WP Vv zK (FL (k12 s acc i) []) H N B R:=by
 have hc:s[i]?=some s[i]:=gEg hi;generalize s[i]=c at hc;have c32:((c.toNat:Int)=32)↔c=32:=D7 (n:=32) (by decide);have c9:((c.toNat:Int)=9)↔c=9:=D7 (n:=9) (by decide);have c10:((c.toNat:Int)=10)↔c=10:=D7 (n:=10) (by decide);by_cases hw:c=32\/c=9\/c=10
 . have hb:E3 s i c=some (.skip (i+1)):=by unfold E3;rw [if_pos hw]
   have hw':(c.toNat:Int)=32\/(c.toNat:Int)=9\/(c.toNat:Int)=10:=by rw [c32,c9,c10];exact hw
   have hgo:=g.go acc (i+1) (bT hc hb) (by omega) (by omega) ha;cases acc with
   | nil=>exact zr2 hl hc hi hw' hgo
   | cons a r=>exact zs7 hl hc hi hw' hgo
 . have n32:¬ (c.toNat:Int)=32:=fun e=>hw (.inl (c32.1 e));have n9:¬ (c.toNat:Int)=9:=fun e=>hw (.inr (.inl (c9.1 e)));have n10:¬ (c.toNat:Int)=10:=fun e=>hw (.inr (.inr (c10.1 e)));have h37:=jc9 s i c hl hc ⟨fun e=>hw (.inl e),fun e=>hw (.inr (.inl e)),fun e=>hw (.inr (.inr e))⟩;unfold wQ at h37;cases hb:E3 s i c with
   | some u=>
     rw [hb] at h37;cases u with
     | tok a b c d e=>exact absurd hb qt4
     | skip e=>
       have hgo:=g.go acc e (bT hc hb) (xX hc hb).1 (xX hc hb).2 ha;cases acc with
       | nil=>exact zz2 hl hc hi n32 n9 n10 h37 hgo
       | cons a r=>exact j35 hl hc hi n32 n9 n10 h37 hgo
     | bad code p nm=>
       have hbad:=g.bad _ _ _ _ (tU hc hb);cases acc with
       | nil=>exact zf0 hl hc hi n32 n9 n10 (nD hb) (oV (by omega) hb) h37 hbad
       | cons a r=>exact eE hl hc hi n32 n9 n10 (nD hb) (oV (by omega) hb) h37 hbad
   | none=>
     rw [hb] at h37;dsimp only at h37;cases hu:b8 s i c with
     | skip e=>exact absurd hu j79
     | bad code p nm=>
       rw [hu] at h37;have hbad:=g.bad _ _ _ _ (tN hc hb hu);cases acc with
       | nil=>exact zf0 hl hc hi n32 n9 n10 (z74 hu) (zk2 (by omega) hu) h37 hbad
       | cons a r=>exact eE hl hc hi n32 n9 n10 (z74 hu) (zk2 (by omega) hu) h37 hbad
     | tok op q t n e=>
       rw [hu] at h37;have hop:=qy0 hu;by_cases hov:16384<=acc.length
       . have hbad:=g.bad _ _ _ _ (tV hc hb hu hov);cases acc with
         | nil=>simp at hov
         | cons a r=>exact q88 hl hc hi n32 n9 n10 hop (by omega) h37 hbad
       . have hgo:=g.go _ e (sX hc hb hu hov) (vL hc hu).1 (vL hc hu).2 (by simp;omega);cases acc with
         | nil=>exact jb3 hl hc hi n32 n9 n10 hop (by simp) h37 hgo
         | cons a r=>exact j20 hl hc hi n32 n9 n10 hop (by omega) h37 hgo
theorem qb0 (s:List UInt8) (hl:s.length<=9223372036854775807):Rets Vv 12 [.c (.str s)] (dW (V2 s)):=by
 refine m7 zu4 ?_;by_cases hbig:65536<s.length
 . have e:V2 s=.bad 3 [] 0 0:=by unfold V2;rw [if_pos hbig]
   rw [e];repeat' first|apply j2|exact q7|exact j8 rfl|(apply j7;rfl;rfl)|(apply j9;rfl;rfl;rfl)|(apply u5;rfl)|(apply l6;rfl;rfl;rfl)|(apply C7;rfl;rfl)|(apply m8;rfl;rfl;first | exact c6 (by first | exact rfl | assumption | exact j0 (by assumption)) | exact m9 (by first | exact rfl | assumption | exact j0 (by assumption)))|(apply u1;rfl;rfl;rfl;rfl;exact u4 (by first | exact rfl | assumption | exact j0 (by assumption)))|(apply w8;focus (repeat (first | exact q8 | (apply y6;rfl))))|apply j1|apply j3|apply j4|apply w9|(apply v7;rfl)|(with_reducible apply x6;intro hc;try (exfalso;omega))|(with_reducible apply x5;intro hc;try (exfalso;omega))|(apply V1;(exact ShI.nils rfl);(exact ShI.cell rfl);(exact by decide))
   try any_goals (exfalso;omega)
   all_goals first | rfl | trace_state
 . have e:V2 s=i6 s 0 []:=by unfold V2;rw [if_neg hbig]
   rw [e];repeat' first|apply j2|exact q7|exact j8 rfl|(apply j7;rfl;rfl)|(apply j9;rfl;rfl;rfl)|(apply u5;rfl)|(apply C7;rfl;rfl)|(apply m8;rfl;rfl;first | exact c6 (by first | exact rfl | assumption | exact j0 (by assumption)) | exact m9 (by first | exact rfl | assumption | exact j0 (by assumption)))|(apply w8;focus (repeat (first | exact q8 | (apply v6;rfl) | (apply y6;rfl))))|apply j1|apply j3|apply j4|apply x3|apply v8|(apply v7;rfl)|(with_reducible apply x6;intro hc;try (exfalso;omega))|(with_reducible apply x5;intro hc;try (exfalso;omega))
   try any_goals (exfalso;omega)
   refine I0 (fun p:List Tok×Nat=>k12 s p.1 p.2) (fun p:List Tok×Nat=>p.1.length<=16384/\p.2<=s.length/\i6 s p.2 p.1=i6 s 0 []) (fun p:List Tok×Nat=>s.length - p.2) ([],0) ?_ ⟨Nat.zero_le _,Nat.zero_le _,rfl⟩ ?_
   . unfold k12 O4 zF;repeat' first|exact q8|refine d5 rfl ?_
   rintro ⟨acc,i⟩ ⟨h1,h2,h3⟩;dsimp only at h1 h2 h3;dsimp only;by_cases hi:i<s.length
   . refine qx4 (by omega) hi h1 ⟨?_,?_⟩
     . intro acc' e' k1 k2 k3 k4 fr k5;exact ⟨(acc',e'),k5,rfl,⟨k4,k3,k1.symm.trans h3⟩,by dsimp only;omega⟩
     . intro code nm l c k1 fr k2 k3;rw [<-h3,k1];exact pX k2 k3
   . rw [<-h3,yG hi];cases acc with
     | nil=>
       unfold k12 O4;repeat' first|apply j2|exact q7|exact j8 rfl|(apply j7;rfl;rfl)|(apply j9;rfl;rfl;rfl)|(apply u5;rfl)|(apply l6;rfl;rfl;rfl)|(apply C7;rfl;rfl)|(apply u1;rfl;rfl;rfl;rfl;exact u4 (by first | exact rfl | assumption | exact j0 (by assumption)))|(apply w8;focus (repeat (first | exact q8 | (apply F7;rfl) | (apply y6;rfl))))|apply j1|apply j3|apply j4|apply w9|apply l0|(apply v7;rfl)|(with_reducible apply x6;intro hc;try (exfalso;omega))|(with_reducible apply x5;intro hc;try (exfalso;omega))|(apply V1;(exact ShI.nils rfl);(exact ShI.cell rfl);(exact by decide))
       try any_goals (exfalso;omega)
       all_goals first | rfl | trace_state
     | cons a r=>
       unfold k12 O4;repeat' first|apply j2|exact q7|exact j8 rfl|(apply j7;rfl;rfl)|(apply j9;rfl;rfl;rfl)|(apply u5;rfl)|(apply l6;rfl;rfl;rfl)|(apply P0;rfl;rfl;rfl)|(apply u1;rfl;rfl;rfl;rfl;exact u4 (by first | exact rfl | assumption | exact j0 (by assumption)))|(apply w8;focus (repeat (first | exact q8 | (apply D6;rfl;rfl) | (apply y6;rfl))))|apply j1|apply j3|apply j4|apply w9|apply l0|(apply v7;rfl)|(with_reducible apply x6;intro hc;try (exfalso;omega))|(with_reducible apply x5;intro hc;try (exfalso;omega))
       try any_goals (exfalso;omega)
       all_goals first | rfl | (apply j92<;>rfl) | trace_state
end Go.Proofs.TryzL
namespace Go.Proofs.TryzL
open Go.Proofs.Lz
set_option maxHeartbeats 4000000
def q93:LR->Prop
 | .ok l=>l.length<=16384
 | .bad _ _ l c=>0<l/\0<c
theorem ja1 (s:List UInt8):∀ n i acc,s.length - i<=n->acc.length<=16384->q93 (i6 s i acc):=by
 intro n;induction n with
 | zero=>
   intro i acc hn ha;rw [yG (by omega)];exact ha
 | succ n ih=>
   intro i acc hn ha;have hp:=fun p=>tC s p;by_cases hi:i<s.length
   . rw [i6,dif_pos hi];split
     . split
       . exact ih _ _ (by omega) ha
       . exact Nat.zero_le _
     . rename_i p _ _;exact ⟨(hp p).2.2.2,(hp p).2.2.1⟩
     . exact Nat.zero_le _
     . split
       . rename_i p _ _;exact ⟨(hp p).2.2.2,(hp p).2.2.1⟩
       . exact Nat.zero_le _
       . split
         . exact ⟨(hp i).2.2.2,(hp i).2.2.1⟩
         . split
           . exact ih _ _ (by omega) (by simp;omega)
           . exact Nat.zero_le _
   . rw [yG hi];exact ha
end Go.Proofs.TryzL
