/- Chapter 02: the reference's Lex: numbers. -/
import Derived.Test.YtencoceemejcnaaGreatDoorLzT70
import Derived.Test.YtencoceemejcnaaGreatDoorLzT33
import Derived.Test.YtencoceemejcnaaGreatDoorLzT39
set_option linter.unusedSimpArgs false
set_option linter.unusedVariables false
namespace Go.Proofs.TryzL
open Go.Proofs.Lz
set_option maxHeartbeats 4000000
theorem ji9 (s:List UInt8) (i:Nat) (c:UInt8) (hl:s.length<2^30) (hc:s[i]?=some c) (hcl:(upperB c||lowerB c)=true):Rets Vv 65 [.c (.str s),.c (.int .i64 i)] (.c (unC (J7 s i))):=by
 have hi:i<s.length:=(gEs hc).1;obtain ⟨r,er⟩:=kO (p:=a8) hc (za1 hcl);have h95:=zl1 s i (by omega) hl;have hS1:=mL (p:=a8) (s:=s) (j:=i) (by omega);have hle:=hS1.1.2.2;have hall:=bP (p:=a8) (s:=s) (j:=i);have w1:=mI (q:=[]) (i:=i) (a:=i) (e:=i+(x9 a8 s i).length) (t:=x9 a8 s i) hl (Nat.le_refl _) hS1 (.inr ⟨rfl,rfl⟩) (fun h=>mD (.inl (iC er h hcl hall)));unfold J7;dsimp only;generalize hT:x9 a8 s i=T at *;generalize hn:i+T.length=n at *;have hni:i<n:=by rw [<-hn,er];simp
 have hnl:n<=s.length:=by omega
 cases hu:upperB c with
 | false=>
   rw [if_neg]
   . exact zv4 hl hc hi hnl h95 w1 hu
   . rintro ⟨⟨d,hd,hd2⟩,_⟩;rw [hc] at hd;injection hd with hd;subst hd;rw [hu] at hd2;cases hd2
 | true=>
   by_cases hn1:n+1<s.length
   . have hdn:s[n]?=some s[n]:=gEg (by omega);generalize s[n]=d at hdn;have hd1:s[n+1]?=some s[n+1]:=gEg hn1;generalize s[n+1]=f at hd1;have e46:((d.toNat:Int)=46)↔d=46:=D7 (n:=46) (by decide);by_cases hd46:d=46
     . subst hd46;have hex:∃ c,s[i]?=some c/\upperB c=true:=⟨c,hc,hu⟩;have hqS:P8 s (i:Int) (((n+1:Nat):Int) - 1) T:=by rw [show ((n+1:Nat):Int) - 1=n by omega];exact hS1
       by_cases hul:(upperB f||lowerB f)=true
       . obtain ⟨r2,er2⟩:=kO (p:=a8) hd1 (za1 hul);have h95b:=zl1 s (n+1) (by omega) hl;have hS2:P8 s ((n:Int)+1) ((n+1+(x9 a8 s (n+1)).length:Nat):Int) (x9 a8 s (n+1)):=mL (p:=a8) (s:=s) (j:=n+1) (by omega);have hle2:=hS2.1.2.2;have hall2:=bP (p:=a8) (s:=s) (j:=n+1);have hqq:O5 s (n+1)=if C4 (x9 a8 s (n+1))=5 then [] else x9 a8 s (n+1):=by unfold O5;rw [hd1];dsimp only;rw [if_pos hul]
         have h82:=rJ (x9 a8 s (n+1)) (by omega);have w2:=mI (q:=T) (i:=i) (a:=n+1) (e:=n+1+(x9 a8 s (n+1)).length) (t:=x9 a8 s (n+1)) hl (by omega) hS2 (.inl ⟨by omega,hqS⟩) (fun h=>mD (.inl (iC er2 h hul hall2)));have hi5:=tI (x9 a8 s (n+1)) (k:=5) (by omega) (by omega);rw [hqq];have hne2:x9 a8 s (n+1)≠[]:=by rw [er2];simp
         by_cases h5:C4 (x9 a8 s (n+1))=5
         . rw [if_pos h5,if_neg (by rintro ⟨_,_,h⟩;exact h rfl)];exact qh8 hl hc hi hnl h95 w1 hu hn1 hdn hd1 hul (by omega) hS2 h82 h95b (by have:=hi5.2 h5;omega)
         . rw [if_neg h5,if_pos ⟨hex,hdn,hne2⟩];exact j28 hl hc hi hnl h95 w1 hu hn1 hdn hd1 hul (by omega) hS2 h82 h95b (fun h=>h5 (hi5.1 (by omega))) w2
       . have hqq:O5 s (n+1)=if K9 (x9 u6 s (n+1))||decide (C4 (x9 u6 s (n+1))=6) then [] else x9 u6 s (n+1):=by unfold O5;rw [hd1];dsimp only;rw [if_neg hul]
         cases hsf:u6 f with
         | false=>
           have hnil:x9 u6 s (n+1)=[]:=by
            obtain ⟨hj,e⟩:=gEs hd1;unfold x9;rw [List.drop_eq_getElem_cons hj,e,List.takeWhile_cons_of_neg (by simp [hsf])]
           have hq0:O5 s (n+1)=[]:=by rw [hqq,hnil];split<;>rfl
           rw [if_neg (by rintro ⟨_,_,h⟩;exact h hq0)];exact qr7 hl hc hi hnl h95 w1 hu hn1 hdn hd1 hul hsf
         | true=>
           obtain ⟨r2,er2⟩:=kO (p:=u6) hd1 hsf;have h67:=zc6 s (n+1) (by omega) hl;have hS2:P8 s ((n:Int)+1) ((n+1+(x9 u6 s (n+1)).length:Nat):Int) (x9 u6 s (n+1)):=mL (p:=u6) (s:=s) (j:=n+1) (by omega);have hle2:=hS2.1.2.2;have hall2:=bP (p:=u6) (s:=s) (j:=n+1);have h82:=rJ (x9 u6 s (n+1)) (by omega);have h68:=zd0 (x9 u6 s (n+1)) (by omega);have hne2:x9 u6 s (n+1)≠[]:=by rw [er2];simp
           have hi6:=tI (x9 u6 s (n+1)) (k:=6) (by omega) (by omega);rw [hqq];by_cases h6:C4 (x9 u6 s (n+1))=6
           . rw [if_neg (by rintro ⟨_,_,h⟩;apply h;rw [if_pos (by simp [h6])])];exact qo6 hl hc hi hnl h95 w1 hu hn1 hdn hd1 hul hsf (by omega) hS2 h82 h67 (by have:=hi6.2 h6;omega)
           . have h6':¬ (L6 (x9 u6 s (n+1)):Int)=6:=fun h=>h6 (hi6.1 (by omega));cases hdd:K9 (x9 u6 s (n+1)) with
             | true=>
               rw [hdd] at h68;rw [if_neg (by rintro ⟨_,_,h⟩;apply h;rw [if_pos (by simp)])];exact qk9 hl hc hi hnl h95 w1 hu hn1 hdn hd1 hul hsf (by omega) hS2 h82 h67 h6' h68
             | false=>
               rw [hdd] at h68;have w2:=mI (q:=T) (i:=i) (a:=n+1) (e:=n+1+(x9 u6 s (n+1)).length) (t:=x9 u6 s (n+1)) hl (by omega) hS2 (.inl ⟨by omega,hqS⟩) (fun h=>mD (.inr (z22 hne2 h hall2 hdd)));have hqn:(if (false||decide (C4 (x9 u6 s (n+1))=6))=true then [] else x9 u6 s (n+1))=x9 u6 s (n+1):=if_neg (by simp [h6]);rw [hqn,if_pos ⟨hex,hdn,hne2⟩];exact qq2 hl hc hi hnl h95 w1 hu hn1 hdn hd1 hul hsf (by omega) hS2 h82 h67 h6' h68 w2
     . rw [if_neg (by rintro ⟨_,h,_⟩;rw [hdn] at h;injection h with h;exact hd46 h)];exact qr2 hl hc hi hnl h95 w1 hu hn1 hdn (fun e=>hd46 (e46.1 e))
   . rw [if_neg]
     . exact ql4 hl hc hi hnl h95 w1 hu hn1
     . rintro ⟨_,_,h⟩;apply h;unfold O5;rw [List.getElem?_eq_none (by omega)]
end Go.Proofs.TryzL
namespace Go.Proofs.TryzL
open Go.Proofs.Lz
set_option maxHeartbeats 4000000
end Go.Proofs.TryzL
namespace Go.Proofs.TryzL
set_option maxHeartbeats 4000000
def q96 (b:List UInt8):Prop:=∀ x∈b,x=32\/x=10
def Lay:List Tok->List UInt8->Prop
 | [],w=>w=[]
 | t::r,w=>∃ b w',w=b++(lQ t++w')/\q96 b/\Sep w'/\Lay r w'
end Go.Proofs.TryzL
namespace Go.Proofs.TryzL
set_option maxHeartbeats 4000000
theorem zn3 {i e e':Nat} {q t:List UInt8}:l9 i q t e≠.skip e':=by
 unfold l9;intro h;split at h
 . cases h
 . split at h<;>cases h
theorem q85 {i e':Nat} {m:UInt8} {r:QR}:jK i m r≠.skip e':=by
 cases r with
 | bad a b=>intro h;cases h
 | ok t e=>
   intro h;unfold jK at h;dsimp only at h;split at h
   . split at h<;>cases h
   . cases h
theorem j79 {s:List UInt8} {i e:Nat} {c:UInt8}:b8 s i c≠.skip e:=by
 intro h;unfold b8 at h;split at h
 . unfold J7 at h;dsimp only at h;split at h<;>exact zn3 h
 . split at h
   . unfold J6 at h;split at h<;>cases h
   . split at h
     . exact q85 h
     . split at h
       . exact zn3 h
       . split at h<;>cases h
theorem zn1 {r:KR} {op n:Int} {q t:List UInt8} {e:Nat}:qC r≠.tok op q t n e:=by
 cases r<;>intro h<;>cases h
theorem qt4 {s:List UInt8} {i e:Nat} {c:UInt8} {op n:Int} {q t:List UInt8}:E3 s i c≠some (.tok op q t n e):=by
 intro h;unfold E3 at h;split at h
 . cases h
 . split at h
   . injection h with h;exact zn1 h
   . split at h
     . injection h with h;exact zn1 h
     . cases h
end Go.Proofs.TryzL
namespace Go.Proofs.TryzL
open Go.Proofs.Lz
set_option maxHeartbeats 4000000
theorem qr0 (s:List UInt8) (i:Nat) (hl:s.length<2^30) (hi:i<=s.length):Rets Vv 69 [.c (.str s),.c (.int .i64 i)] (.c (unC (qC (lineS s i)))):=by
 refine m7 zy3 ?_;repeat' first|apply j2|(apply m8;rfl;rfl;first | exact c6 (by first | exact rfl | assumption | exact j0 (by assumption)) | exact m9 (by first | exact rfl | assumption | exact j0 (by assumption)))|apply j1|apply j3|apply j4|apply x3
 refine I0 (fun n:Nat=>[(0,.c (.str s)),(1,.c (.int .i64 n)),(4,.lbox (some 11) (.c (.agg [.int .i64 0,.str [],.str [],.int .i64 0,.bool false,.int .i64 0,.int .i64 0,.int .i64 0,.int .i64 0,.int .i64 0,.str []])))]) (fun n=>n<=s.length/\lineS s i=lineS s n) (fun n=>s.length - n) i ?_ ⟨hi,rfl⟩ ?_
 . repeat' first|exact q8|refine d5 rfl ?_
 rintro n ⟨hn,he⟩;rw [he];by_cases hns:n<s.length
 . have hg:s[n]?=some s[n]:=gEg hns;have hgd:s.getD n 0=s[n]:=by simp [List.getD,hg]
   have hL:lineS s n=if s[n]=10 then .ok n else if N3 s[n]=false then .bad 5 n else lineS s (n+1):=by rw [lineS,dif_neg (by omega),hgd]
   rw [hL];generalize s[n]=c at *;have e10:((c.toNat:Int)=10)↔c=10:=D7 (n:=10) (by decide);have h94:=aP c;by_cases hc:c=10
   . have hc':(c.toNat:Int)=10:=e10.2 hc;rw [if_pos hc];repeat' first|apply j2|exact q7|exact j8 rfl|(apply j7;rfl;rfl)|(apply j9;rfl;rfl;rfl)|(apply u5;rfl)|(apply y9;rfl;(with_reducible rfl);rfl)|(apply y0;rfl;(with_reducible rfl);rfl)|(apply x7;rfl;rfl;rfl;assumption)|(apply l6;rfl;rfl;rfl)|(apply u1;rfl;rfl;rfl;rfl;exact u4 (by first | exact rfl | assumption | exact j0 (by assumption)))|(apply w8;focus (repeat (first | exact q8 | (apply v6;rfl) | (apply y6;rfl))))|apply j1|apply j3|apply j4|apply x3|apply v8|apply w9|apply l0|(apply g9;rfl;(with_reducible rfl))|(apply v7;rfl)|(apply x8;rfl;(with_reducible rfl))|(apply b9;rfl;(with_reducible rfl))|(apply y7;rfl)|(with_reducible (first|apply f5|apply f6|apply x6|apply x5);intro hc)|(apply c8;rfl)
     try any_goals (exfalso;omega)
     try any_goals (exfalso;contradiction)
     all_goals first | rfl | trace_state
   . have hc':¬ (c.toNat:Int)=10:=fun e=>hc (e10.1 e);rw [if_neg hc];cases hk:N3 c with
     | false=>
       rw [hk] at h94;rw [if_pos rfl];have hb5:Rets Vv 76 [.c (.int .i64 5),.c (.int .i64 n),.c (.str [])] (.c (unC (.bad 5 n []))):=jA 5 n [];repeat' first|apply j2|exact q7|exact j8 rfl|(apply j7;rfl;rfl)|(apply j9;rfl;rfl;rfl)|(apply u5;rfl)|(apply s6;rfl;rfl)|(apply y9;rfl;(with_reducible rfl);rfl)|(apply y0;rfl;(with_reducible rfl);rfl)|(apply x7;rfl;rfl;rfl;assumption)|(apply l6;rfl;rfl;rfl)|(apply u1;rfl;rfl;rfl;rfl;exact u4 (by first | exact rfl | assumption | exact j0 (by assumption)))|(apply q6 (hc:=h94);rfl;rfl;rfl)|(apply q6 (hc:=hb5);rfl;rfl;rfl)|(apply w8;focus (repeat (first | exact q8 | (apply v6;rfl) | (apply y6;rfl))))|apply j1|apply j3|apply j4|apply x3|apply v8|apply w9|apply l0|(apply g9;rfl;(with_reducible rfl))|(apply v7;rfl)|(apply x8;rfl;(with_reducible rfl))|(apply b9;rfl;(with_reducible rfl))|(apply y7;rfl)|(with_reducible first|exact G1|apply F9|apply s4|apply s5)|(with_reducible (first|apply f5|apply f6|apply x6|apply x5);intro hc)|(apply c8;rfl)
       try any_goals (exfalso;omega)
       try any_goals (exfalso;contradiction)
       all_goals first | rfl | trace_state
     | true=>
       rw [hk] at h94;rw [if_neg (by decide)];repeat' first|apply j2|exact q7|exact j8 rfl|(apply j7;rfl;rfl)|(apply b6;rfl;rfl;omega)|(apply j9;rfl;rfl;rfl)|(apply u5;rfl)|(apply s6;rfl;rfl)|(apply y9;rfl;(with_reducible rfl);rfl)|(apply y0;rfl;(with_reducible rfl);rfl)|(apply x7;rfl;rfl;rfl;assumption)|(apply l6;rfl;rfl;rfl)|(apply u1;rfl;rfl;rfl;rfl;exact u4 (by first | exact rfl | assumption | exact j0 (by assumption)))|(apply q6 (hc:=h94);rfl;rfl;rfl)|(apply w8;focus (repeat (first | exact q8 | (apply v6;rfl) | (apply y6;rfl))))|apply j1|apply j3|apply j4|apply x3|apply v8|apply w9|apply l0|(apply g9;rfl;(with_reducible rfl))|(apply v7;rfl)|(apply x8;rfl;(with_reducible rfl))|(apply b9;rfl;(with_reducible rfl))|(apply y7;rfl)|(with_reducible first|exact C2|apply C3|apply s4|apply s5)|(with_reducible (first|apply f5|apply f6|apply x6|apply x5);intro hc)|(apply c8;rfl)
       try any_goals (exfalso;omega)
       try any_goals (exfalso;contradiction)
       refine ⟨n+1,?_,rfl,⟨by omega,rfl⟩,by omega⟩;repeat' first|exact q8|refine d5 rfl ?_
 . have hL:lineS s n=.ok n:=by rw [lineS,dif_pos (by omega)]
   rw [hL];repeat' first|apply j2|exact q7|exact j8 rfl|(apply j7;rfl;rfl)|(apply j9;rfl;rfl;rfl)|(apply u5;rfl)|(apply y9;rfl;(with_reducible rfl);rfl)|(apply y0;rfl;(with_reducible rfl);rfl)|(apply x7;rfl;rfl;rfl;exact gEg (by omega))|(apply l6;rfl;rfl;rfl)|(apply u1;rfl;rfl;rfl;rfl;exact u4 (by first | exact rfl | assumption | exact j0 (by assumption)))|(apply w8;focus (repeat (first | exact q8 | (apply v6;rfl) | (apply y6;rfl))))|apply j1|apply j3|apply j4|apply x3|apply v8|apply w9|apply l0|(apply g9;rfl;(with_reducible rfl))|(apply v7;rfl)|(apply x8;rfl;(with_reducible rfl))|(apply b9;rfl;(with_reducible rfl))|(apply y7;rfl)|(with_reducible (first|apply f5|apply f6|apply x6|apply x5);intro hc)|(apply c8;rfl)
   try any_goals (exfalso;omega)
   all_goals first | rfl | trace_state
end Go.Proofs.TryzL
namespace Go.Proofs.TryzL
open Go.Proofs.Lz
set_option maxHeartbeats 4000000
theorem pre2_iff {a b:UInt8} {s:List UInt8} {j:Nat}:[a,b].isPrefixOf (s.drop j)=true↔s[j]?=some a/\s[j+1]?=some b:=by
 have h0:=List.getElem?_drop (xs:=s) (i:=j) (j:=0);have h1:=List.getElem?_drop (xs:=s) (i:=j) (j:=1);rw [Nat.add_zero] at h0;rw [<-h0,<-h1];cases s.drop j with
 | nil=>simp [List.isPrefixOf]
 | cons x r=>
   cases r with
   | nil=>simp [List.isPrefixOf]
   | cons y r=>
     simp [List.isPrefixOf];constructor
     . rintro ⟨h1,h2⟩;exact ⟨h1.symm,h2.symm⟩
     . rintro ⟨h1,h2⟩;exact ⟨h1.symm,h2.symm⟩
theorem j65 (s:List UInt8) (i:Nat) (hl:s.length<2^30) (hpre:[123,45].isPrefixOf (s.drop i)=true):Rets Vv 62 [.c (.str s),.c (.int .i64 i)] (.c (unC (qC (cmtS s i 0 i)))):=by
 refine m7 qq0 ?_;have hpi:=pre2_iff.1 hpre;have hi:i<s.length:=(gEs hpi.1).1;have hb8:Rets Vv 76 [.c (.int .i64 8),.c (.int .i64 i),.c (.str [])] (.c (unC (.bad 8 i []))):=jA 8 i [];repeat' first|apply j2|exact q7|(apply j7;rfl;rfl)|(apply m8;rfl;rfl;first | exact c6 (by first | exact rfl | assumption | exact j0 (by assumption)) | exact m9 (by first | exact rfl | assumption | exact j0 (by assumption)))|apply j1|apply j3|apply j4|apply x3
 refine I0 (fun p:Int×Nat=>[(0,.c (.str s)),(1,.c (.int .i64 i)),(4,.lbox (some 11) (.c (.agg [.int .i64 0,.str [],.str [],.int .i64 0,.bool false,.int .i64 0,.int .i64 0,.int .i64 0,.int .i64 0,.int .i64 0,.str []]))),(5,.c (.int .i64 p.1)),(6,.c (.int .i64 p.2))])
  (fun p=>p.2<=s.length/\(1<=p.1\/(p.1=0/\p.2=i))/\p.1<=p.2/\cmtS s i 0 i=cmtS s i p.1 p.2) (fun p=>s.length - p.2) (0,i) ?_ ⟨by dsimp only;omega,.inr ⟨rfl,rfl⟩,by dsimp only;omega,rfl⟩ ?_
 . repeat' first|exact q8|refine d5 rfl ?_
 rintro ⟨d,j⟩ ⟨hj,hd,hdj,he⟩;dsimp only at hj hd hdj he;dsimp only;rw [he];by_cases hjs:j<s.length
 . have hg:s[j]?=some s[j]:=gEg hjs;have hgd:s.getD j 0=s[j]:=by simp [List.getD,hg]
   have hC:cmtS s i d j=if [123,45].isPrefixOf (s.drop j) then cmtS s i (d+1) (j+2) else if [45,125].isPrefixOf (s.drop j) then (if d - 1=0 then .ok (j+2) else cmtS s i (d - 1) (j+2)) else if N3 s[j]=false then .bad 5 j else cmtS s i d (j+1):=by
    rw [cmtS,dif_neg (by omega),hgd]
   rw [hC];have hb5:Rets Vv 76 [.c (.int .i64 5),.c (.int .i64 j),.c (.str [])] (.c (unC (.bad 5 j []))):=jA 5 j [];generalize s[j]=c at *;have c123:((c.toNat:Int)=123)↔c=123:=D7 (n:=123) (by decide);have c45:((c.toNat:Int)=45)↔c=45:=D7 (n:=45) (by decide);have h94:=aP c;by_cases h1:j+1<s.length
   . have hg1:s[j+1]?=some s[j+1]:=gEg h1;generalize s[j+1]=f at hg1;have f45:((f.toNat:Int)=45)↔f=45:=D7 (n:=45) (by decide);have f125:((f.toNat:Int)=125)↔f=125:=D7 (n:=125) (by decide);have pA:[123,45].isPrefixOf (s.drop j)=true↔c=123/\f=45:=by rw [pre2_iff,hg,hg1];simp
     have pB:[45,125].isPrefixOf (s.drop j)=true↔c=45/\f=125:=by rw [pre2_iff,hg,hg1];simp
     by_cases hA:c=123/\f=45
     . have q1:=c123.2 hA.1;have q2:=f45.2 hA.2;have hk:N3 c=true:=by unfold N3;simp;omega
       rw [hk] at h94;rw [if_pos (pA.2 hA)];repeat' first|apply j2|exact q7|(apply j7;rfl;rfl)|(apply b6;rfl;rfl;omega)|(apply j9;rfl;rfl;rfl)|(apply u5;rfl)|(apply s6;rfl;rfl)|(apply y9;rfl;(with_reducible rfl);rfl)|(apply x7;rfl;rfl;rfl;assumption)|(apply q6 (hc:=h94);rfl;rfl;rfl)|(apply w8;focus (repeat (first | exact q8 | (apply v6;rfl) | (apply y6;rfl))))|apply j1|apply j3|apply j4|apply x3|apply v8|(apply v7;rfl)|(apply x8;rfl;(with_reducible rfl))|(apply y7;rfl)|(with_reducible first|exact C2|apply C3|apply s4|apply s5)|(with_reducible apply u7;intro hc;try (exfalso;omega))|(with_reducible apply g8;intro hc;try (exfalso;omega))|(with_reducible apply x6;intro hc;try (exfalso;omega))|(with_reducible apply x5;intro hc;try (exfalso;omega))
       try any_goals (exfalso;omega)
       refine ⟨(d+1,j+2),?_,rfl,⟨by dsimp only;omega,by dsimp only;omega,by dsimp only;omega,rfl⟩,by dsimp only;omega⟩;repeat' first|exact q8|refine d5 rfl ?_
     . have hA':¬ ((c.toNat:Int)=123/\(f.toNat:Int)=45):=fun h=>hA ⟨c123.1 h.1,f45.1 h.2⟩;have hd1:1<=d:=by
        rcases hd with hd | ⟨_,e⟩
        . exact hd
        . exact absurd (pA.1 (by rw [e];exact hpre)) hA
       rw [if_neg (fun h=>hA (pA.1 h))];by_cases hB:c=45/\f=125
       . have q1:=c45.2 hB.1;have q2:=f125.2 hB.2;have hk:N3 c=true:=by unfold N3;simp;omega
         rw [hk] at h94;rw [if_pos (pB.2 hB)];by_cases hd0:d - 1=0
         . rw [if_pos hd0];repeat' first|apply j2|exact q7|exact j8 rfl|(apply j7;rfl;rfl)|(apply b6;rfl;rfl;omega)|(apply I9;rfl;rfl;omega)|(apply j9;rfl;rfl;rfl)|(apply u5;rfl)|(apply s6;rfl;rfl)|(apply y9;rfl;(with_reducible rfl);rfl)|(apply y0;rfl;(with_reducible rfl);rfl)|(apply x7;rfl;rfl;rfl;assumption)|(apply l6;rfl;rfl;rfl)|(apply u1;rfl;rfl;rfl;rfl;exact u4 (by first | exact rfl | assumption | exact j0 (by assumption)))|(apply q6 (hc:=h94);rfl;rfl;rfl)|(apply w8;focus (repeat (first | exact q8 | (apply v6;rfl) | (apply y6;rfl))))|apply j1|apply j3|apply j4|apply x3|apply v8|apply w9|(apply g9;rfl;(with_reducible rfl))|(apply v7;rfl)|(apply x8;rfl;(with_reducible rfl))|(apply b9;rfl;(with_reducible rfl))|(apply y7;rfl)|(with_reducible first|exact C2|apply C3|apply s4|apply s5)|(with_reducible apply u7;intro hc;try (exfalso;omega))|(with_reducible apply g8;intro hc;try (exfalso;omega))|(with_reducible apply x6;intro hc;try (exfalso;omega))|(with_reducible apply x5;intro hc;try (exfalso;omega))|(apply c8;rfl)
           try any_goals (exfalso;omega)
           all_goals first | rfl | trace_state
         . rw [if_neg hd0];repeat' first|apply j2|exact q7|exact j8 rfl|(apply j7;rfl;rfl)|(apply b6;rfl;rfl;omega)|(apply I9;rfl;rfl;omega)|(apply j9;rfl;rfl;rfl)|(apply u5;rfl)|(apply s6;rfl;rfl)|(apply y9;rfl;(with_reducible rfl);rfl)|(apply y0;rfl;(with_reducible rfl);rfl)|(apply x7;rfl;rfl;rfl;assumption)|(apply q6 (hc:=h94);rfl;rfl;rfl)|(apply w8;focus (repeat (first | exact q8 | (apply v6;rfl) | (apply y6;rfl))))|apply j1|apply j3|apply j4|apply x3|apply v8|(apply g9;rfl;(with_reducible rfl))|(apply v7;rfl)|(apply x8;rfl;(with_reducible rfl))|(apply b9;rfl;(with_reducible rfl))|(apply y7;rfl)|(with_reducible first|exact C2|apply C3|apply s4|apply s5)|(with_reducible apply u7;intro hc;try (exfalso;omega))|(with_reducible apply g8;intro hc;try (exfalso;omega))|(with_reducible apply x6;intro hc;try (exfalso;omega))|(with_reducible apply x5;intro hc;try (exfalso;omega))
           try any_goals (exfalso;omega)
           refine ⟨(d - 1,j+2),?_,rfl,⟨by dsimp only;omega,by dsimp only;omega,by dsimp only;omega,rfl⟩,by dsimp only;omega⟩;repeat' first|exact q8|refine d5 rfl ?_
       . have hB':¬ ((c.toNat:Int)=45/\(f.toNat:Int)=125):=fun h=>hB ⟨c45.1 h.1,f125.1 h.2⟩;rw [if_neg (fun h=>hB (pB.1 h))];cases hk:N3 c with
         | false=>
           rw [hk] at h94;rw [if_pos rfl];repeat' first|apply j2|exact q7|(apply j7;rfl;rfl)|(apply j9;rfl;rfl;rfl)|(apply u5;rfl)|(apply s6;rfl;rfl)|(apply x7;rfl;rfl;rfl;assumption)|(apply u1;rfl;rfl;rfl;rfl;exact u4 (by first | exact rfl | assumption | exact j0 (by assumption)))|(apply q6 (hc:=h94);rfl;rfl;rfl)|(apply q6 (hc:=hb5);rfl;rfl;rfl)|(apply w8;focus (repeat (first | exact q8 | (apply v6;rfl) | (apply y6;rfl))))|apply j1|apply j3|apply j4|apply x3|apply v8|apply w9|(apply v7;rfl)|(with_reducible first|exact G1|apply F9|apply s4|apply s5)|(with_reducible apply x6;intro hc;try (exfalso;omega))|(with_reducible apply x5;intro hc;try (exfalso;omega))|(apply c8;rfl)
           try any_goals (exfalso;omega)
           all_goals first | rfl | trace_state
         | true=>
           rw [hk] at h94;rw [if_neg (by decide)];repeat' first|apply j2|exact q7|exact j8 rfl|(apply j7;rfl;rfl)|(apply b6;rfl;rfl;omega)|(apply j9;rfl;rfl;rfl)|(apply u5;rfl)|(apply s6;rfl;rfl)|(apply y9;rfl;(with_reducible rfl);rfl)|(apply y0;rfl;(with_reducible rfl);rfl)|(apply x7;rfl;rfl;rfl;assumption)|(apply q6 (hc:=h94);rfl;rfl;rfl)|(apply w8;focus (repeat (first | exact q8 | (apply v6;rfl) | (apply y6;rfl))))|apply j1|apply j3|apply j4|apply x3|apply v8|(apply g9;rfl;(with_reducible rfl))|(apply v7;rfl)|(apply x8;rfl;(with_reducible rfl))|(apply b9;rfl;(with_reducible rfl))|(apply y7;rfl)|(with_reducible first|exact C2|apply C3|apply s4|apply s5)|(with_reducible apply u7;intro hc;try (exfalso;omega))|(with_reducible apply g8;intro hc;try (exfalso;omega))|(with_reducible apply x6;intro hc;try (exfalso;omega))|(with_reducible apply x5;intro hc;try (exfalso;omega))
           try any_goals (exfalso;omega)
           all_goals
            refine ⟨(d,j+1),?_,rfl,⟨by dsimp only;omega,by dsimp only;omega,by dsimp only;omega,rfl⟩,by dsimp only;omega⟩;repeat' first|exact q8|refine d5 rfl ?_
   . have pA:¬ [123,45].isPrefixOf (s.drop j)=true:=by rw [pre2_iff];rintro ⟨_,h⟩;rw [List.getElem?_eq_none (by omega)] at h;cases h
     have pB:¬ [45,125].isPrefixOf (s.drop j)=true:=by rw [pre2_iff];rintro ⟨_,h⟩;rw [List.getElem?_eq_none (by omega)] at h;cases h
     have hd1:1<=d:=by
      rcases hd with hd | ⟨_,e⟩
      . exact hd
      . exact absurd (by rw [e];exact hpre) pA
     rw [if_neg pA,if_neg pB];cases hk:N3 c with
     | false=>
       rw [hk] at h94;rw [if_pos rfl];repeat' first|apply j2|exact q7|(apply j7;rfl;rfl)|(apply j9;rfl;rfl;rfl)|(apply u5;rfl)|(apply s6;rfl;rfl)|(apply x7;rfl;rfl;rfl;assumption)|(apply u1;rfl;rfl;rfl;rfl;exact u4 (by first | exact rfl | assumption | exact j0 (by assumption)))|(apply q6 (hc:=h94);rfl;rfl;rfl)|(apply q6 (hc:=hb5);rfl;rfl;rfl)|(apply w8;focus (repeat (first | exact q8 | (apply v6;rfl) | (apply y6;rfl))))|apply j1|apply j3|apply j4|apply x3|apply v8|apply w9|(apply v7;rfl)|(with_reducible first|exact G1|apply F9|apply s4|apply s5)|(with_reducible apply x6;intro hc;try (exfalso;omega))|(with_reducible apply x5;intro hc;try (exfalso;omega))|(apply c8;rfl)
       try any_goals (exfalso;omega)
       all_goals first | rfl | trace_state
     | true=>
       rw [hk] at h94;rw [if_neg (by decide)];repeat' first|apply j2|exact q7|exact j8 rfl|(apply j7;rfl;rfl)|(apply b6;rfl;rfl;omega)|(apply j9;rfl;rfl;rfl)|(apply u5;rfl)|(apply s6;rfl;rfl)|(apply y9;rfl;(with_reducible rfl);rfl)|(apply y0;rfl;(with_reducible rfl);rfl)|(apply x7;rfl;rfl;rfl;assumption)|(apply q6 (hc:=h94);rfl;rfl;rfl)|(apply w8;focus (repeat (first | exact q8 | (apply v6;rfl) | (apply y6;rfl))))|apply j1|apply j3|apply j4|apply x3|apply v8|(apply g9;rfl;(with_reducible rfl))|(apply v7;rfl)|(apply x8;rfl;(with_reducible rfl))|(apply b9;rfl;(with_reducible rfl))|(apply y7;rfl)|(with_reducible first|exact C2|apply C3|apply s4|apply s5)|(with_reducible apply u7;intro hc;try (exfalso;omega))|(with_reducible apply g8;intro hc;try (exfalso;omega))|(with_reducible apply x6;intro hc;try (exfalso;omega))|(with_reducible apply x5;intro hc;try (exfalso;omega))
       try any_goals (exfalso;omega)
       all_goals
        refine ⟨(d,j+1),?_,rfl,⟨by dsimp only;omega,by dsimp only;omega,by dsimp only;omega,rfl⟩,by dsimp only;omega⟩;repeat' first|exact q8|refine d5 rfl ?_
 . have hC:cmtS s i d j=.bad 8 i:=by rw [cmtS,dif_pos (by omega)]
   rw [hC];repeat' first|apply j2|exact q7|(apply j7;rfl;rfl)|(apply j9;rfl;rfl;rfl)|(apply u5;rfl)|(apply x7;rfl;rfl;rfl;exact gEg (by omega))|(apply u1;rfl;rfl;rfl;rfl;exact u4 (by first | exact rfl | assumption | exact j0 (by assumption)))|(apply q6 (hc:=hb8);rfl;rfl;rfl)|(apply w8;focus (repeat (first | exact q8 | (apply v6;rfl) | (apply y6;rfl))))|apply j1|apply j3|apply j4|apply x3|apply v8|apply w9|apply l0|(apply v7;rfl)|(with_reducible (first|apply x6|apply x5);intro hc)|(apply c8;rfl)
   try any_goals (exfalso;omega)
   all_goals first | rfl | trace_state
end Go.Proofs.TryzL
namespace Go.Proofs.TryzL
open Go.Proofs.Lz
set_option maxHeartbeats 4000000
theorem zt6 {p:UInt8->Bool} {s:List UInt8} {n:Nat} (h:n<s.length) (hp:p s[n]=true):x9 p s n=s[n]::x9 p s (n+1):=by
 unfold x9;rw [List.drop_eq_getElem_cons h,List.takeWhile_cons_of_pos hp]
theorem jb9 {p:UInt8->Bool} {s:List UInt8} {n:Nat} (h:n<s.length) (hp:p s[n]=false):x9 p s n=[]:=by
 unfold x9;rw [List.drop_eq_getElem_cons h,List.takeWhile_cons_of_neg (by simp [hp])]
theorem j29 {p:UInt8->Bool} {s:List UInt8} {n:Nat} (h:s.length<=n):x9 p s n=[]:=by
 unfold x9;rw [List.drop_of_length_le h];rfl
theorem zl0 {s:List UInt8} {i k v:Nat} {g:Bool} (hk:x9 t7 s k=[]) (hlen:k+(x9 t7 s k).length=i+(x9 t7 s i).length) (hg:G8 (x9 t7 s i) 0=if g then none else G8 (x9 t7 s k) v) :
 J6 s i=if g then .bad 6 i [] else .tok 5 [] [] v k:=by
 unfold J6;rw [hg];rw [hk] at hlen ⊢;cases g with
 | true=>rfl
 | false=>
   simp only [Bool.false_eq_true,if_false,G8];simp at hlen;rw [<-hlen]
theorem qc4 (s:List UInt8) (i:Nat) (hl:s.length<2^30) (hi:i<=s.length):Rets Vv 72 [.c (.str s),.c (.int .i64 i)] (.c (unC (J6 s i))):=by
 refine m7 qf1 ?_;have hb6:Rets Vv 76 [.c (.int .i64 6),.c (.int .i64 i),.c (.str [])] (.c (unC (.bad 6 i []))):=jA 6 i [];repeat' first|apply j2|exact q7|(apply j7;rfl;rfl)|(apply m8;rfl;rfl;first | exact c6 (by first | exact rfl | assumption | exact j0 (by assumption)) | exact m9 (by first | exact rfl | assumption | exact j0 (by assumption)))|apply j1|apply j3|apply j4|apply x3
 refine I0 (fun p:Nat×Nat×Bool=>[(0,.c (.str s)),(1,.c (.int .i64 i)),(4,.lbox (some 11) (.c (.agg [.int .i64 0,.str [],.str [],.int .i64 0,.bool false,.int .i64 0,.int .i64 0,.int .i64 0,.int .i64 0,.int .i64 0,.str []]))),(5,.c (.int .i64 p.2.1)),(6,.c (.int .i64 p.1)),(7,.c (.bool p.2.2))])
  (fun p=>p.1<=s.length/\p.2.1<=9223372036854775807/\p.1+(x9 t7 s p.1).length=i+(x9 t7 s i).length/\G8 (x9 t7 s i) 0=if p.2.2 then none else G8 (x9 t7 s p.1) p.2.1) (fun p=>s.length - p.1) (i,0,false) ?_ ⟨hi,Nat.zero_le _,rfl,rfl⟩ ?_
 . repeat' first|exact q8|refine d5 rfl ?_
 rintro ⟨k,v,g⟩ ⟨hk,hv,hlen,hg⟩;dsimp only at hk hv hlen hg;dsimp only;by_cases hks:k<s.length
 . have h71:=jR s[k];have hget:s[k]?=some s[k]:=gEg hks;cases hd:t7 s[k] with
   | false=>
     rw [hd] at h71;have e:=zl0 (jb9 hks hd) hlen hg;rw [e];generalize s[k]=c at *;cases g with
     | true=>
       repeat' first|apply j2|exact q7|(apply j7;rfl;rfl)|(apply j9;rfl;rfl;rfl)|(apply u5;rfl)|(apply y9;rfl;(with_reducible rfl);rfl)|(apply x7;rfl;rfl;rfl;assumption)|(apply u1;rfl;rfl;rfl;rfl;exact u4 (by first | exact rfl | assumption | exact j0 (by assumption)))|(apply q6 (hc:=h71);rfl;rfl;rfl)|(apply q6 (hc:=hb6);rfl;rfl;rfl)|(apply w8;focus (repeat (first | exact q8 | (apply v6;rfl) | (apply y6;rfl))))|apply j1|apply j3|apply j4|apply w9|apply l0|(apply m5;rfl;(with_reducible rfl))|(apply g9;rfl;(with_reducible rfl))|(apply x8;rfl;(with_reducible rfl))|(apply y7;rfl)|(with_reducible apply x6;intro hc;try (exfalso;omega))|(with_reducible apply x5;intro hc;try (exfalso;omega))|(apply c8;rfl)
       try any_goals (exfalso;omega)
       all_goals first | rfl | trace_state
     | false=>
       repeat' first|apply j2|exact q7|(apply j7;rfl;rfl)|(apply j9;rfl;rfl;rfl)|(apply u5;rfl)|(apply y9;rfl;(with_reducible rfl);rfl)|(apply x7;rfl;rfl;rfl;assumption)|(apply l6;rfl;rfl;rfl)|(apply u1;rfl;rfl;rfl;rfl;exact u4 (by first | exact rfl | assumption | exact j0 (by assumption)))|(apply q6 (hc:=h71);rfl;rfl;rfl)|(apply w8;focus (repeat (first | exact q8 | (apply v6;rfl) | (apply y6;rfl))))|apply j1|apply j3|apply j4|apply v8|apply w9|apply l0|(apply g9;rfl;(with_reducible rfl))|(apply x8;rfl;(with_reducible rfl))|(apply y7;rfl)|(with_reducible apply x6;intro hc;try (exfalso;omega))|(with_reducible apply x5;intro hc;try (exfalso;omega))|(apply c8;rfl)
       try any_goals (exfalso;omega)
       all_goals first | rfl | trace_state
   | true=>
     rw [hd] at h71;have hsp:=zt6 hks hd;rw [hsp] at hlen hg;have hnum:G8 (s[k]::x9 t7 s (k+1)) v=if t7 s[k]=true/\v<=(9223372036854775807 - (s[k].toNat - 48)) / 10 then G8 (x9 t7 s (k+1)) (10 * v+(s[k].toNat - 48)) else none:=rfl
     rw [hnum] at hg;generalize s[k]=c at *;obtain ⟨b1,b2⟩:=xH hd;have hqq:=rU ((c.toNat:Int) - 48) (by omega);simp only [List.length_cons] at hlen;by_cases hq:v<=(9223372036854775807 - (c.toNat - 48)) / 10
     . have hin:(if t7 c=true/\v<=(9223372036854775807 - (c.toNat - 48)) / 10 then G8 (x9 t7 s (k+1)) (10 * v+(c.toNat - 48)) else none)=G8 (x9 t7 s (k+1)) (10 * v+(c.toNat - 48)):=if_pos ⟨hd,hq⟩;rw [hin] at hg;repeat' first|apply j2|exact q7|exact j8 rfl|(apply j7;rfl;rfl)|(apply b6;rfl;rfl;omega)|(apply I9;rfl;rfl;omega)|(apply Y6;rfl;rfl;omega)|(apply qA;rfl;rfl;omega)|(apply j9;rfl;rfl;rfl)|(apply u5;rfl)|(apply y9;rfl;(with_reducible rfl);rfl)|(apply y0;rfl;(with_reducible rfl);rfl)|(apply x7;rfl;rfl;rfl;assumption)|(apply l6;rfl;rfl;rfl)|(apply u1;rfl;rfl;rfl;rfl;exact u4 (by first | exact rfl | assumption | exact j0 (by assumption)))|(apply R1;rfl;omega)|(apply q6 (hc:=h71);rfl;rfl;rfl)|(apply w8;focus (repeat (first | exact q8 | (apply v6;rfl) | (apply y6;rfl))))|apply j1|apply j3|apply j4|apply x3|apply v8|apply w9|apply l0|(apply m5;rfl;(with_reducible rfl))|(apply g9;rfl;(with_reducible rfl))|(apply v7;rfl)|(apply x8;rfl;(with_reducible rfl))|(apply b9;rfl;(with_reducible rfl))|(apply y7;rfl)|(with_reducible (first|apply x6|apply x5|apply C0);intro hc)|(apply c8;rfl)
       try any_goals (exfalso;omega)
       try any_goals (exfalso;rw [hqq] at hc;omega)
       refine ⟨(k+1,10 * v+(c.toNat - 48),g),?_,rfl,⟨by dsimp only;omega,by dsimp only;omega,by dsimp only;omega,hg⟩,by dsimp only;omega⟩;have e4:((v:Int) * 10+((c.toNat:Int) - 48))=((10 * v+(c.toNat - 48):Nat):Int):=by omega
       repeat' first|exact q8|refine d5 rfl ?_|refine d5 ?_ ?_
       all_goals (show WV.c (CV.int .i64 ((v:Int) * 10+((c.toNat:Int) - 48)))=_;rw [e4])
     . have hin:(if t7 c=true/\v<=(9223372036854775807 - (c.toNat - 48)) / 10 then G8 (x9 t7 s (k+1)) (10 * v+(c.toNat - 48)) else none)=none:=if_neg (fun h=>hq h.2);rw [hin] at hg;have hg':G8 (x9 t7 s i) 0=none:=by rw [hg];cases g<;>rfl
       repeat' first|apply j2|exact q7|exact j8 rfl|(apply j7;rfl;rfl)|(apply b6;rfl;rfl;omega)|(apply I9;rfl;rfl;omega)|(apply Y6;rfl;rfl;omega)|(apply qA;rfl;rfl;omega)|(apply j9;rfl;rfl;rfl)|(apply u5;rfl)|(apply y9;rfl;(with_reducible rfl);rfl)|(apply y0;rfl;(with_reducible rfl);rfl)|(apply x7;rfl;rfl;rfl;assumption)|(apply l6;rfl;rfl;rfl)|(apply u1;rfl;rfl;rfl;rfl;exact u4 (by first | exact rfl | assumption | exact j0 (by assumption)))|(apply R1;rfl;omega)|(apply q6 (hc:=h71);rfl;rfl;rfl)|(apply w8;focus (repeat (first | exact q8 | (apply v6;rfl) | (apply y6;rfl))))|apply j1|apply j3|apply j4|apply x3|apply v8|apply w9|apply l0|(apply m5;rfl;(with_reducible rfl))|(apply g9;rfl;(with_reducible rfl))|(apply v7;rfl)|(apply x8;rfl;(with_reducible rfl))|(apply b9;rfl;(with_reducible rfl))|(apply y7;rfl)|(with_reducible (first|apply x6|apply x5|apply C0);intro hc)|(apply c8;rfl)
       try any_goals (exfalso;omega)
       try any_goals (exfalso;rw [hqq] at hc;omega)
       refine ⟨(k+1,v,true),?_,rfl,⟨by dsimp only;omega,by dsimp only;omega,by dsimp only;omega,by dsimp only;rw [hg'];rfl⟩,by dsimp only;omega⟩;repeat' first|exact q8|refine d5 rfl ?_
 . have e:=zl0 (j29 (by omega)) hlen hg;rw [e];cases g with
   | true=>
     repeat' first|apply j2|exact q7|exact j8 rfl|(apply j7;rfl;rfl)|(apply j9;rfl;rfl;rfl)|(apply u5;rfl)|(apply y0;rfl;(with_reducible rfl);rfl)|(apply u1;rfl;rfl;rfl;rfl;exact u4 (by first | exact rfl | assumption | exact j0 (by assumption)))|(apply q6 (hc:=hb6);rfl;rfl;rfl)|(apply w8;focus (repeat (first | exact q8 | (apply v6;rfl) | (apply y6;rfl))))|apply j1|apply j3|apply j4|apply w9|apply l0|(apply m5;rfl;(with_reducible rfl))|(apply g9;rfl;(with_reducible rfl))|(apply b9;rfl;(with_reducible rfl))|(apply y7;rfl)|(with_reducible apply x6;intro hc;try (exfalso;omega))|(with_reducible apply x5;intro hc;try (exfalso;omega))|(apply c8;rfl)
     try any_goals (exfalso;omega)
     all_goals first | rfl | trace_state
   | false=>
     repeat' first|apply j2|exact q7|exact j8 rfl|(apply j7;rfl;rfl)|(apply j9;rfl;rfl;rfl)|(apply u5;rfl)|(apply y0;rfl;(with_reducible rfl);rfl)|(apply l6;rfl;rfl;rfl)|(apply u1;rfl;rfl;rfl;rfl;exact u4 (by first | exact rfl | assumption | exact j0 (by assumption)))|(apply w8;focus (repeat (first | exact q8 | (apply v6;rfl) | (apply y6;rfl))))|apply j1|apply j3|apply j4|apply v8|apply w9|apply l0|(apply g9;rfl;(with_reducible rfl))|(apply b9;rfl;(with_reducible rfl))|(apply y7;rfl)|(with_reducible apply x6;intro hc;try (exfalso;omega))|(with_reducible apply x5;intro hc;try (exfalso;omega))|(apply c8;rfl)
     try any_goals (exfalso;omega)
     all_goals first | rfl | trace_state
end Go.Proofs.TryzL
