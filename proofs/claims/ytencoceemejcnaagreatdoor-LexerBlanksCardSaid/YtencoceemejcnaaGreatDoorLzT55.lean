/- Chapter 02: Lex. -/
import Derived.Test.YtencoceemejcnaaGreatDoorLzT44
import Derived.Test.YtencoceemejcnaaGreatDoorLzT46
import Derived.Test.YtencoceemejcnaaGreatDoorLzT49
set_option linter.unusedSimpArgs false
set_option linter.unusedVariables false
namespace Go.Proofs.TryzL
open Go.Proofs.Lz
set_option maxHeartbeats 4000000
def lexQ (T:ICode):ICode:=lexP1.seq (lexP2.seq T)
theorem ju3 (s:List UInt8):∀ n j code p,s.length - j≤n→lineS s j=.bad code p→code≠0:=by
 intro n
 induction n with
 | zero=>intro j code p hn h;rw [lineS,dif_pos (by omega)] at h;cases h
 | succ n ih=>
   intro j code p hn h
   rw [lineS] at h
   split at h
   · cases h
   · split at h
     · cases h
     · split at h
       · injection h with h _;omega
       · exact ih _ _ _ (by omega) h
theorem wd3 (s:List UInt8) (i:Nat):∀ n d j code p,s.length - j≤n→cmtS s i d j=.bad code p→code≠0:=by
 intro n
 induction n with
 | zero=>intro d j code p hn h;rw [cmtS,dif_pos (by omega)] at h;injection h with h _;omega
 | succ n ih=>
   intro d j code p hn h
   rw [cmtS] at h
   split at h
   · injection h with h _;omega
   · split at h
     · exact ih _ _ _ _ (by omega) h
     · split at h
       · split at h
         · cases h
         · exact ih _ _ _ _ (by omega) h
       · split at h
         · injection h with h _;omega
         · exact ih _ _ _ _ (by omega) h
theorem qu1 {r:KR} (h:∀ code p,r=.bad code p→code≠0) {code p:Nat} {nm:List UInt8} (e:cmtU r=.bad code p nm):code≠0:=by
 cases r with
 | bad c q=>injection e with e _;subst e;exact h _ _ rfl
 | ok e'=>cases e
theorem q79 {s:List UInt8} {i:Nat} {c:UInt8} {code p:Nat} {nm:List UInt8} (h:z98 s i c=some (.bad code p nm)):code≠0:=by
 unfold z98 at h
 split at h
 · cases h
 · split at h
   · injection h with h;exact qu1 (fun _ _ e=>ju3 s _ _ _ _ (Nat.le_refl _) e) h
   · split at h
     · injection h with h;exact qu1 (fun _ _ e=>wd3 s i _ _ _ _ _ (Nat.le_refl _) e) h
     · cases h
theorem wf7 {s nm:List UInt8} {code p:Nat} {y:Sc} (h:zf3 s code p nm y):CV.agg [.int .i64 y.code,.str y.name,.int .i64 y.fl,.int .i64 y.fc]=fltC code nm (plc s p).1 (plc s p).2:=by
 obtain ⟨h1,h2,h3,h4⟩:=h
 unfold fltC
 rw [h1,h2,h3,h4]
theorem v42 {H:z18} {s:List UInt8} {id i:Nat} {c:UInt8} {t6:CV} {T:ICode} {N:Post} {B:Hs} {R:RP} (hH:ScH id (scAt s i) H) (hc:s[i]?=some c) (hl:s.length<2^30)
 (hskip:∀ e H',z98 s i c=some (.skip e)→ScH id (scAt s e) H'→∀ fr,KpL [0,3,4,5,6] fr [0,3,4,5,6] (lexK s id ([]:List Tok) t6)→R.go 0 fr H')
 (hbad:∀ code p nm H',z98 s i c=some (.bad code p nm)→∀ fr:WFr,fr.env 2=.nils→fr.env 3=.lbox (some 4) (.c (fltC code nm (plc s p).1 (plc s p).2))→R.ret fr H')
 (hno:∀ H',z98 s i c=none→ScH id (scAt s i) H'→WP Vv T (FL (lexK s id ([]:List Tok) t6) []) H' N B R) :
 WP Vv (lexQ T) (FL (lexK s id ([]:List Tok) t6) []) H N B R:=by
 have hcall:=jw2 hH hc hl
 unfold lexQ lexP1 lexP2 lexK
 cases hu:z98 s i c with
 | none=>
   rw [hu] at hcall
   have hcall:Shr Vv 23 [.ptr id 0] H (.c (.bool false)) (fun H'=>ScH id (scAt s i) H'∧KpH id H H'):=hcall
   repeat' first|apply z01|exact z12|exact z19 rfl|(apply z30;(iterate 3 rfl))|(apply z68;rfl;rfl)|(apply z24;rfl;rfl)|(apply z16;rfl;rfl)|(apply z29;rfl;rfl)|(apply z25;(iterate 4 rfl);exact z34 (by first | exact rfl | assumption | exact z05 (by assumption)))|(apply z22;rfl;rfl;(assumption);rfl)|(apply z27 (hc:=⟨hcall.run⟩);rfl;rfl;(exact rfl);rfl;(exact z12);rintro H1 ⟨r1,k1⟩)|(apply z04;focus (repeat (first | exact z23 | (apply kq_c;rfl) | (apply zc6;rfl) | (apply z50;rfl) | (apply z40;rfl))))|apply z02|apply z00|apply z03|apply z08|apply z09|apply z28|apply z55|(apply z32;rfl;(with_reducible rfl))|(apply z13;rfl)|(apply z65;(exact rfl))|(with_reducible apply zd3;intro hc)|(with_reducible apply za8;intro hc)|(apply z52;rfl)|(apply z54;rfl)|(apply zf8;rfl)|(apply dand;rfl)
   try any_goals (exfalso;exact hc rfl)
   all_goals exact hno _ hu r1
 | some u=>
   rw [hu] at hcall
   cases u with
   | tok op q t n e=>obtain ⟨H',_,⟨y,_,h⟩,_⟩:=hcall.run;exact h.elim
   | skip e=>
     obtain ⟨H',a1,⟨y,hy,hf⟩,hk⟩:=hcall.run
     have hf:y=scAt s e:=hf
     subst hf
     have hcall:Shr Vv 23 [.ptr id 0] H (.c (.bool true)) (fun H'=>ScH id (scAt s e) H'∧KpH id H H'):=⟨H',a1,hy,hk⟩
     repeat' first|apply z01|exact z19 rfl|(apply z24;rfl;rfl)|(apply z27 (hc:=⟨hcall.run⟩);rfl;rfl;(exact rfl);rfl;(exact z12);rintro H1 ⟨r1,k1⟩)|(apply z04;focus (repeat (first | exact z23 | (apply kq_c;rfl) | (apply zc6;rfl) | (apply z50;rfl) | (apply z40;rfl))))|apply z02|apply z00|apply z03|(apply z35;rfl;(with_reducible rfl))
     refine q32 (hskip e _ hu r1 _ ?_)
     unfold lexK
     repeat' first|exact z23|refine z64 rfl ?_
   | bad code p nm=>
     obtain ⟨H',a1,⟨y,hy,hf⟩,hk⟩:=hcall.run
     have hf:zf3 s code p nm y:=hf
     have hcall:Shr Vv 23 [.ptr id 0] H (.c (.bool false)) (fun H'=>ScH id y H'∧KpH id H H'):=⟨H',a1,hy,hk⟩
     have hcd:¬ ((y.code:Nat):Int)=0:=by have h1:=q79 hu;have h2:y.code=code:=hf.1;omega
     repeat' first|apply z01|exact z12|exact z19 rfl|(apply z30;(iterate 3 rfl))|(apply z68;rfl;rfl)|(apply z24;rfl;rfl)|(apply z16;rfl;rfl)|(apply z29;rfl;rfl)|(apply z25;(iterate 4 rfl);exact z34 (by first | exact rfl | assumption | exact z05 (by assumption)))|(apply z22;rfl;rfl;(assumption);rfl)|(apply z27 (hc:=⟨hcall.run⟩);rfl;rfl;(exact rfl);rfl;(exact z12);rintro H1 ⟨r1,k1⟩)|(apply z04;focus (repeat (first | exact z23 | (apply kq_c;rfl) | (apply zc6;rfl) | (apply z50;rfl) | (apply z40;rfl))))|apply z02|apply z00|apply z03|apply z08|apply z09|apply z28|apply z55|(apply z32;rfl;(with_reducible rfl))|(apply z13;rfl)|(apply z65;(exact rfl))|(with_reducible apply zd3;intro hc)|(with_reducible apply za8;intro hc)|(apply z52;rfl)|(apply z54;rfl)|(apply zf8;rfl)|(apply dand;rfl)
     try any_goals (exfalso;contradiction)
     all_goals exact hbad _ _ _ _ hu _ rfl (congrArg (fun u=>WV.lbox (some 4) (.c u)) (wf7 hf))
theorem wz7 {H:z18} {s:List UInt8} {id i:Nat} {c:UInt8} {a:Tok} {r:List Tok} {t6:CV} {T:ICode} {N:Post} {B:Hs} {R:RP} (hH:ScH id (scAt s i) H) (hc:s[i]?=some c) (hl:s.length<2^30)
 (hskip:∀ e H',z98 s i c=some (.skip e)→ScH id (scAt s e) H'→∀ fr,KpL [0,3,4,5,6] fr [0,3,4,5,6] (lexK s id (a::r) t6)→R.go 0 fr H')
 (hbad:∀ code p nm H',z98 s i c=some (.bad code p nm)→∀ fr:WFr,fr.env 2=.nils→fr.env 3=.lbox (some 4) (.c (fltC code nm (plc s p).1 (plc s p).2))→R.ret fr H')
 (hno:∀ H',z98 s i c=none→ScH id (scAt s i) H'→WP Vv T (FL (lexK s id (a::r) t6) []) H' N B R) :
 WP Vv (lexQ T) (FL (lexK s id (a::r) t6) []) H N B R:=by
 have hcall:=jw2 hH hc hl
 unfold lexQ lexP1 lexP2 lexK
 cases hu:z98 s i c with
 | none=>
   rw [hu] at hcall
   have hcall:Shr Vv 23 [.ptr id 0] H (.c (.bool false)) (fun H'=>ScH id (scAt s i) H'∧KpH id H H'):=hcall
   repeat' first|apply z01|exact z12|exact z19 rfl|(apply z30;(iterate 3 rfl))|(apply z68;rfl;rfl)|(apply z24;rfl;rfl)|(apply z16;rfl;rfl)|(apply z29;rfl;rfl)|(apply z25;(iterate 4 rfl);exact z34 (by first | exact rfl | assumption | exact z05 (by assumption)))|(apply z22;rfl;rfl;(assumption);rfl)|(apply z27 (hc:=⟨hcall.run⟩);rfl;rfl;(exact rfl);rfl;(exact z12);rintro H1 ⟨r1,k1⟩)|(apply z04;focus (repeat (first | exact z23 | (apply kq_c;rfl) | (apply ze6;rfl;rfl) | (apply z50;rfl) | (apply z40;rfl))))|apply z02|apply z00|apply z03|apply z08|apply z09|apply z28|apply z55|(apply z32;rfl;(with_reducible rfl))|(apply z13;rfl)|(apply z65;(exact rfl))|(with_reducible apply zd3;intro hc)|(with_reducible apply za8;intro hc)|(apply z52;rfl)|(apply z54;rfl)|(apply zf8;rfl)|(apply dand;rfl)
   try any_goals (exfalso;exact hc rfl)
   all_goals exact hno _ hu r1
 | some u=>
   rw [hu] at hcall
   cases u with
   | tok op q t n e=>obtain ⟨H',_,⟨y,_,h⟩,_⟩:=hcall.run;exact h.elim
   | skip e=>
     obtain ⟨H',a1,⟨y,hy,hf⟩,hk⟩:=hcall.run
     have hf:y=scAt s e:=hf
     subst hf
     have hcall:Shr Vv 23 [.ptr id 0] H (.c (.bool true)) (fun H'=>ScH id (scAt s e) H'∧KpH id H H'):=⟨H',a1,hy,hk⟩
     repeat' first|apply z01|exact z19 rfl|(apply z24;rfl;rfl)|(apply z27 (hc:=⟨hcall.run⟩);rfl;rfl;(exact rfl);rfl;(exact z12);rintro H1 ⟨r1,k1⟩)|(apply z04;focus (repeat (first | exact z23 | (apply kq_c;rfl) | (apply ze6;rfl;rfl) | (apply z50;rfl) | (apply z40;rfl))))|apply z02|apply z00|apply z03|(apply z35;rfl;(with_reducible rfl))
     refine q32 (hskip e _ hu r1 _ ?_)
     unfold lexK
     repeat' first|exact z23|refine z64 rfl ?_
   | bad code p nm=>
     obtain ⟨H',a1,⟨y,hy,hf⟩,hk⟩:=hcall.run
     have hf:zf3 s code p nm y:=hf
     have hcall:Shr Vv 23 [.ptr id 0] H (.c (.bool false)) (fun H'=>ScH id y H'∧KpH id H H'):=⟨H',a1,hy,hk⟩
     have hcd:¬ ((y.code:Nat):Int)=0:=by have h1:=q79 hu;have h2:y.code=code:=hf.1;omega
     repeat' first|apply z01|exact z12|exact z19 rfl|(apply z30;(iterate 3 rfl))|(apply z68;rfl;rfl)|(apply z24;rfl;rfl)|(apply z16;rfl;rfl)|(apply z29;rfl;rfl)|(apply z25;(iterate 4 rfl);exact z34 (by first | exact rfl | assumption | exact z05 (by assumption)))|(apply z22;rfl;rfl;(assumption);rfl)|(apply z27 (hc:=⟨hcall.run⟩);rfl;rfl;(exact rfl);rfl;(exact z12);rintro H1 ⟨r1,k1⟩)|(apply z04;focus (repeat (first | exact z23 | (apply kq_c;rfl) | (apply ze6;rfl;rfl) | (apply z50;rfl) | (apply z40;rfl))))|apply z02|apply z00|apply z03|apply z08|apply z09|apply z28|apply z55|(apply z32;rfl;(with_reducible rfl))|(apply z13;rfl)|(apply z65;(exact rfl))|(with_reducible apply zd3;intro hc)|(with_reducible apply za8;intro hc)|(apply z52;rfl)|(apply z54;rfl)|(apply zf8;rfl)|(apply dand;rfl)
     try any_goals (exfalso;contradiction)
     all_goals exact hbad _ _ _ _ hu _ rfl (congrArg (fun u=>WV.lbox (some 4) (.c u)) (wf7 hf))
end Go.Proofs.TryzL
namespace Go.Proofs.TryzL
open Go.Proofs.Lz
inductive LR where
 | bad (code:Nat) (nm:List UInt8) (line col:Nat)
 | ok (l:List Tok)
def lexU (s:List UInt8) (i:Nat) (acc:List Tok):LR:=
 if hi:i<s.length then
  match z98 s i s[i] with
  | some (.skip e)=>if h:i<e then lexU s e acc else .ok []
  | some (.bad code p nm)=>.bad code nm (plc s p).1 (plc s p).2
  | some (.tok _ _ _ _ _)=>.ok []
  | none=>match z69 s i s[i] with
    | .bad code p nm=>.bad code nm (plc s p).1 (plc s p).2
    | .skip _=>.ok []
    | .tok op q t n e=>if 16384≤acc.length then .bad 3 [] (plc s i).1 (plc s i).2 else if h:i<e then lexU s e (acc++[⟨op,q,t,n,false,(plc s i).1,(plc s i).2⟩]) else .ok []
 else .ok acc
termination_by s.length - i
end Go.Proofs.TryzL
namespace Go.Proofs.TryzL
open Go.Proofs.Lz
theorem wk3 (s:List UInt8):∀ n j e,s.length - j≤n→j≤s.length→lineS s j=.ok e→j≤e∧e≤s.length:=by
 intro n
 induction n with
 | zero=>intro j e hn hj h;rw [lineS,dif_pos (by omega)] at h;injection h with h;omega
 | succ n ih=>
   intro j e hn hj h
   rw [lineS] at h
   split at h
   · injection h with h;omega
   · split at h
     · injection h with h;omega
     · split at h
       · cases h
       · have:=ih _ _ (by omega) (by omega) h;omega
theorem ww6 (s:List UInt8) (i:Nat):∀ n d j e,s.length - j≤n→cmtS s i d j=.ok e→j<e∧e≤s.length:=by
 intro n
 induction n with
 | zero=>intro d j e hn h;rw [cmtS,dif_pos (by omega)] at h;cases h
 | succ n ih=>
   intro d j e hn h
   rw [cmtS] at h
   split at h
   · cases h
   · split at h
     · have:=ih _ _ _ (by omega) h;omega
     · split at h
       · rename_i hp
         have:=j29 hp
         split at h
         · injection h with h;omega
         · have:=ih _ _ _ (by omega) h;omega
       · split at h
         · cases h
         · have:=ih _ _ _ (by omega) h;omega
theorem q20 {s:List UInt8} {i e:Nat} {c:UInt8} (hc:s[i]?=some c) (h:z98 s i c=some (.skip e)):i<e∧e≤s.length:=by
 have hlt:i<s.length:=(List.getElem?_eq_some_iff.1 hc).1
 have hg:s.getD i 0=c:=by simp [List.getD,hc]
 unfold z98 at h
 split at h
 · injection h with h;injection h with h;omega
 · rename_i hb
   split at h
   · rename_i h45
     injection h with h
     cases hr:lineS s i with
     | bad a b=>rw [hr] at h;cases h
     | ok e'=>
       rw [hr] at h
       injection h with h
       subst h
       rw [lineS,dif_neg (by omega),hg,if_neg (by rw [h45.1];decide),if_neg (by rw [h45.1];decide)] at hr
       have:=wk3 s _ _ _ (Nat.le_refl _) (by omega) hr
       omega
   · split at h
     · injection h with h
       cases hr:cmtS s i 0 i with
       | bad a b=>rw [hr] at h;cases h
       | ok e'=>
         rw [hr] at h
         injection h with h
         subst h
         exact ww6 s i _ _ _ _ (Nat.le_refl _) hr
     · cases h
end Go.Proofs.TryzL
namespace Go.Proofs.TryzL
open Go.Proofs.Lz
theorem qs7 {p:UInt8→Bool} {s:List UInt8} {i:Nat} {c:UInt8} (h:s[i]?=some c) (hp:p c=true):1≤(z83 p s i).length:=by
 rw [qx8 h hp]
 simp
theorem w04 {i:Nat} {q t q' t':List UInt8} {e e':Nat} {op n:Int} (h:zj1 i q t e=.tok op q' t' n e'):e'=e:=by
 unfold zj1 at h
 split at h
 · cases h
 · split at h
   · cases h
   · injection h with _ _ _ _ h;exact h.symm
theorem v31 {s:List UInt8} {i:Nat} {m:UInt8}:∀ n text j t e,s.length - j≤n→litS s i m text j=.ok t e→j<e∧e≤s.length:=by
 intro n
 induction n with
 | zero=>
   intro text j t e hn h
   have hs:zg0 s i j=some (7,i):=by unfold zg0;rw [List.getElem?_eq_none (by omega)]
   rw [qr1 hs] at h;cases h
 | succ n ih=>
   intro text j t e hn h
   cases hs:zg0 s i j with
   | some cp=>obtain ⟨a,b⟩:=cp;rw [qr1 hs] at h;cases h
   | none=>
     have hlt:=zu9 hs
     rw [jp5 hs] at h
     split at h
     · injection h with _ h;omega
     · split at h
       · cases h
       · split at h
         · cases h
         · rename_i hch
           have h1:=qg8 hch
           split at h
           · cases h
           · have:=ih _ _ _ _ (by omega) h;omega
theorem q88 {s q t:List UInt8} {i e:Nat} {c:UInt8} {op n:Int} (hc:s[i]?=some c) (h:z69 s i c=.tok op q t n e):i<e∧e≤s.length:=by
 have hlt:i<s.length:=(List.getElem?_eq_some_iff.1 hc).1
 unfold z69 at h
 split at h
 · rename_i hcl
   have h1:=qs7 (p:=zb2) hc (by unfold zb2;rw [hcl];rfl)
   have h2:=zi5 (p:=zb2) (s:=s) (i:=i) (by omega)
   unfold zr0 at h
   dsimp only at h
   split at h
   · rename_i hq
     have h3:=w04 h
     have h4:i+(z83 zb2 s i).length<s.length:=(List.getElem?_eq_some_iff.1 hq.2.1).1
     have h5:=jb2 (s:=s) (j:=i+(z83 zb2 s i).length+1) (by omega)
     omega
   · have h3:=w04 h
     omega
 · split at h
   · rename_i hd
     have h1:=qs7 (p:=z93) hc hd
     have h2:=zi5 (p:=z93) (s:=s) (i:=i) (by omega)
     unfold numU at h
     split at h
     · cases h
     · injection h with _ _ _ _ h;omega
   · split at h
     · unfold litU at h
       cases hr:litS s i c [] (i+1) with
       | bad a b=>rw [hr] at h;cases h
       | ok t' e'=>
         rw [hr] at h
         have h1:=v31 _ _ _ _ _ (Nat.le_refl _) hr
         unfold quoU at h
         dsimp only at h
         split at h
         · split at h
           · cases h
           · injection h with _ _ _ _ h;omega
         · injection h with _ _ _ _ h;omega
     · split at h
       · rename_i hs
         have h1:=qs7 (p:=symB) hc hs
         have h2:=zi5 (p:=symB) (s:=s) (i:=i) (by omega)
         have h3:=w04 h
         omega
       · split at h
         · injection h with _ _ _ _ h;omega
         · cases h
end Go.Proofs.TryzL
namespace Go.Proofs.TryzL
open Go.Proofs.Lz
set_option maxHeartbeats 4000000
theorem j11 {s:List UInt8} {i e:Nat} {c:UInt8} {acc:List Tok} (hc:s[i]?=some c) (h:z98 s i c=some (.skip e)):lexU s i acc=lexU s e acc:=by
 obtain ⟨hi,rfl⟩:=List.getElem?_eq_some_iff.1 hc
 rw [lexU,dif_pos hi,h]
 dsimp only
 rw [dif_pos (q20 hc h).1]
theorem j95 {s nm:List UInt8} {i code p:Nat} {c:UInt8} {acc:List Tok} (hc:s[i]?=some c) (h:z98 s i c=some (.bad code p nm)):lexU s i acc=.bad code nm (plc s p).1 (plc s p).2:=by
 obtain ⟨hi,rfl⟩:=List.getElem?_eq_some_iff.1 hc
 rw [lexU,dif_pos hi,h]
theorem qm8 {s nm:List UInt8} {i code p:Nat} {c:UInt8} {acc:List Tok} (hc:s[i]?=some c) (h:z98 s i c=none) (hu:z69 s i c=.bad code p nm):lexU s i acc=.bad code nm (plc s p).1 (plc s p).2:=by
 obtain ⟨hi,rfl⟩:=List.getElem?_eq_some_iff.1 hc
 rw [lexU,dif_pos hi,h]
 dsimp only
 rw [hu]
theorem qw9 {s q t:List UInt8} {i e:Nat} {op n:Int} {c:UInt8} {acc:List Tok} (hc:s[i]?=some c) (h:z98 s i c=none) (hu:z69 s i c=.tok op q t n e) (ha:16384≤acc.length):lexU s i acc=.bad 3 [] (plc s i).1 (plc s i).2:=by
 obtain ⟨hi,rfl⟩:=List.getElem?_eq_some_iff.1 hc
 rw [lexU,dif_pos hi,h]
 dsimp only
 rw [hu]
 dsimp only
 rw [if_pos ha]
theorem jf6 {s q t:List UInt8} {i e:Nat} {op n:Int} {c:UInt8} {acc:List Tok} (hc:s[i]?=some c) (h:z98 s i c=none) (hu:z69 s i c=.tok op q t n e) (ha:¬ 16384≤acc.length):lexU s i acc=lexU s e (acc++[⟨op,q,t,n,false,(plc s i).1,(plc s i).2⟩]):=by
 obtain ⟨hi,rfl⟩:=List.getElem?_eq_some_iff.1 hc
 rw [lexU,dif_pos hi,h]
 dsimp only
 rw [hu]
 dsimp only
 rw [if_neg ha,dif_pos (q88 hc hu).1]
theorem jx4 {H:z18} {s:List UInt8} {id i:Nat} {t6:CV} {N:Post} {B:Hs} {R:RP} (hH:ScH id (scAt s i) H) (hi:i<s.length) (hl:s.length<2^30) (hlen:([]:List Tok).length≤16384)
 (hgo:∀ (acc':List Tok) (e:Nat) (t':CV) H',lexU s i ([]:List Tok)=lexU s e acc'→i<e→e≤s.length→acc'.length≤16384→ScH id (scAt s e) H'→∀ fr,KpL [0,3,4,5,6] fr [0,3,4,5,6] (lexK s id acc' t')→R.go 0 fr H')
 (hbad:∀ code nm l c' H',lexU s i ([]:List Tok)=.bad code nm l c'→∀ fr:WFr,fr.env 2=.nils→fr.env 3=.lbox (some 4) (.c (fltC code nm l c'))→R.ret fr H') :
 WP Vv (lexQ zj2) (FL (lexK s id ([]:List Tok) t6) []) H N B R:=by
 have hc:s[i]?=some s[i]:=List.getElem?_eq_getElem hi
 generalize s[i]=c at hc
 refine v42 hH hc hl ?_ ?_ ?_
 · intro e H' h1 h2 fr hk
   exact hgo _ e _ H' (j11 hc h1) (q20 hc h1).1 (q20 hc h1).2 hlen h2 fr hk
 · intro code p nm H' h1 fr h2 h3
   exact hbad _ _ _ _ H' (j95 hc h1) fr h2 h3
 · intro H' hn hH'
   have g:∀ op q t n e H',z69 s i c=.tok op q t n e→([]:List Tok).length+1≤16384→ScH id (scAt s e) H'→∀ fr,KpL [0,3,4,5,6] fr [0,3,4,5,6] (lexK s id (([]:List Tok)++[⟨op,q,t,n,false,(plc s i).1,(plc s i).2⟩]) (tokC ⟨op,q,t,n,false,(plc s i).1,(plc s i).2⟩))→R.go 0 fr H':=
    fun op q t n e H' h1 h2 h3 fr hk=>hgo _ e _ H' (jf6 hc hn h1 (by omega)) (q88 hc h1).1 (q88 hc h1).2 (by simp only [List.length_append,List.length_singleton];exact h2) h3 fr hk
   have ov:∀ op q t n e H',z69 s i c=.tok op q t n e→16384≤([]:List Tok).length→∀ fr:WFr,fr.env 2=.nils→fr.env 3=.lbox (some 4) (.c (fltC 3 [] (plc s i).1 (plc s i).2))→R.ret fr H':=
    fun op q t n e H' h1 h2 fr h3 h4=>hbad _ _ _ _ H' (qw9 hc hn h1 h2) fr h3 h4
   have bd:∀ code p nm H',z69 s i c=.bad code p nm→∀ fr:WFr,fr.env 2=.nils→fr.env 3=.lbox (some 4) (.c (fltC code nm (plc s p).1 (plc s p).2))→R.ret fr H':=
    fun code p nm H' h1 fr h2 h3=>hbad _ _ _ _ H' (qm8 hc hn h1) fr h2 h3
   by_cases hcl:(upperB c||lowerB c)=true
   · exact jl5 hH' hc hl hlen g ov bd hcl
   by_cases hd:z93 c=true
   · exact jw6 hH' hc hl hlen g ov bd hcl hd
   by_cases hq:c=39∨c=34
   · exact w14 hH' hc hl hlen g ov bd hcl hd hq
   by_cases hs:symB c=true
   · exact ju0 hH' hc hl hlen g ov bd hcl hd hq hs
   by_cases hp:spS.contains c=true
   · exact wd2 hH' hc hl hlen g ov bd hcl hd hq hs hp
   · exact w58 hH' hc hl hlen g ov bd hcl hd hq hs hp
theorem wk6 {H:z18} {s:List UInt8} {id i:Nat} {a:Tok} {r:List Tok} {t6:CV} {N:Post} {B:Hs} {R:RP} (hH:ScH id (scAt s i) H) (hi:i<s.length) (hl:s.length<2^30) (hlen:(a::r).length≤16384)
 (hgo:∀ (acc':List Tok) (e:Nat) (t':CV) H',lexU s i (a::r)=lexU s e acc'→i<e→e≤s.length→acc'.length≤16384→ScH id (scAt s e) H'→∀ fr,KpL [0,3,4,5,6] fr [0,3,4,5,6] (lexK s id acc' t')→R.go 0 fr H')
 (hbad:∀ code nm l c' H',lexU s i (a::r)=.bad code nm l c'→∀ fr:WFr,fr.env 2=.nils→fr.env 3=.lbox (some 4) (.c (fltC code nm l c'))→R.ret fr H') :
 WP Vv (lexQ zj2) (FL (lexK s id (a::r) t6) []) H N B R:=by
 have hc:s[i]?=some s[i]:=List.getElem?_eq_getElem hi
 generalize s[i]=c at hc
 refine wz7 hH hc hl ?_ ?_ ?_
 · intro e H' h1 h2 fr hk
   exact hgo _ e _ H' (j11 hc h1) (q20 hc h1).1 (q20 hc h1).2 hlen h2 fr hk
 · intro code p nm H' h1 fr h2 h3
   exact hbad _ _ _ _ H' (j95 hc h1) fr h2 h3
 · intro H' hn hH'
   have g:∀ op q t n e H',z69 s i c=.tok op q t n e→(a::r).length+1≤16384→ScH id (scAt s e) H'→∀ fr,KpL [0,3,4,5,6] fr [0,3,4,5,6] (lexK s id ((a::r)++[⟨op,q,t,n,false,(plc s i).1,(plc s i).2⟩]) (tokC ⟨op,q,t,n,false,(plc s i).1,(plc s i).2⟩))→R.go 0 fr H':=
    fun op q t n e H' h1 h2 h3 fr hk=>hgo _ e _ H' (jf6 hc hn h1 (by omega)) (q88 hc h1).1 (q88 hc h1).2 (by simp only [List.length_append,List.length_singleton];exact h2) h3 fr hk
   have ov:∀ op q t n e H',z69 s i c=.tok op q t n e→16384≤(a::r).length→∀ fr:WFr,fr.env 2=.nils→fr.env 3=.lbox (some 4) (.c (fltC 3 [] (plc s i).1 (plc s i).2))→R.ret fr H':=
    fun op q t n e H' h1 h2 fr h3 h4=>hbad _ _ _ _ H' (qw9 hc hn h1 h2) fr h3 h4
   have bd:∀ code p nm H',z69 s i c=.bad code p nm→∀ fr:WFr,fr.env 2=.nils→fr.env 3=.lbox (some 4) (.c (fltC code nm (plc s p).1 (plc s p).2))→R.ret fr H':=
    fun code p nm H' h1 fr h2 h3=>hbad _ _ _ _ H' (qm8 hc hn h1) fr h2 h3
   by_cases hcl:(upperB c||lowerB c)=true
   · exact jj9 hH' hc hl hlen g ov bd hcl
   by_cases hd:z93 c=true
   · exact w13 hH' hc hl hlen g ov bd hcl hd
   by_cases hq:c=39∨c=34
   · exact jz9 hH' hc hl hlen g ov bd hcl hd hq
   by_cases hs:symB c=true
   · exact jz6 hH' hc hl hlen g ov bd hcl hd hq hs
   by_cases hp:spS.contains c=true
   · exact w83 hH' hc hl hlen g ov bd hcl hd hq hs hp
   · exact wa3 hH' hc hl hlen g ov bd hcl hd hq hs hp
end Go.Proofs.TryzL
namespace Go.Proofs.TryzL
open Go.Proofs.Lz
set_option maxHeartbeats 4000000
def tksF:List Tok→CV
 | []=>.frz none []
 | t::r=>.frz (some 7) ((t::r).map tokC)
def lexR:LR→WV
 | .bad code nm l c=>.tup [.c (.frz none []),.c (fltC code nm l c)]
 | .ok l=>.tup [.c (tksF l),.c zF]
def zq7 (s:List UInt8):LR:=if 65536<s.length then .bad 3 [] 0 0 else lexU s 0 []
def tksV:List Tok→WV
 | []=>.nils
 | t::r=>.view (.sl 5 0 0) true 0 38 (some 7) ((t::r).map tokC)
def lexP0:ICode:=(ICode.region [⟨some 19,none,.mv (.t 4)⟩,⟨some 20,none,.nck (.t 19)⟩,⟨some 21,none,.faddr 1 (.t 20)⟩,⟨some 22,none,.load none (.t 21)⟩,⟨some 23,none,.mv (.t 0)⟩,⟨some 24,none,.len true (.t 23)⟩,⟨some 25,none,.bin .geq (.t 22) (.t 24)⟩]).seq (ICode.cond (.t 25) ((ICode.keep [3,5]).seq ((ICode.region [⟨some 26,none,.mv (.t 5)⟩,⟨some 27,none,.build [.c (.int .i64 0),.c (.str []),.c (.int .i64 0),.c (.int .i64 0)] []⟩,⟨some 2,none,.mv (.t 26)⟩,⟨none,none,.store (some 4) (.t 3) (.t 27)⟩]).seq ICode.ret)) ((ICode.keep [0,3,4,5,6]).seq ICode.skip))
def lexL:ICode:=lexP0.seq (lexQ zj2)
theorem wz0:Vv.fn 11=some { body:=(ICode.region [⟨some 2,none,.mv (.k .nils)⟩,⟨some 3,none,.lbox (some 4) (.k (.c (.agg [.int .i64 0,.str [],.int .i64 0,.int .i64 0])))⟩]).seq (ICode.scope 0 [0,3,4,5,6] (((ICode.region [⟨some 12,none,.mv (.t 0)⟩,⟨some 13,none,.len true (.t 12)⟩,⟨some 14,none,.bin .gtr (.t 13) (.k (.c (.int .i64 65536)))⟩]).seq (ICode.cond (.t 14) ((ICode.keep [3]).seq ((ICode.region [⟨some 15,none,.build [.c (.int .i64 0),.c (.str []),.c (.int .i64 0),.c (.int .i64 0)] [(0,1,.k (.c (.int .i64 3)))]⟩,⟨some 2,none,.mv (.k .nils)⟩,⟨none,none,.store (some 4) (.t 3) (.t 15)⟩]).seq ICode.ret)) ((ICode.keep [0,3]).seq ICode.skip))).seq ((ICode.region [⟨some 16,none,.mv (.t 0)⟩,⟨some 17,none,.build [.c (.str []),.c (.int .i64 0),.c (.int .i64 0),.c (.int .i64 0),.c (.int .i64 0),.c (.str []),.c (.int .i64 0),.c (.int .i64 0)] [(0,1,.t 16),(2,1,.k (.c (.int .i64 1))),(3,1,.k (.c (.int .i64 1)))]⟩,⟨some 18,none,.hbox (some 8) (.t 17)⟩,⟨some 4,none,.mv (.t 18)⟩]).seq ((ICode.region [⟨some 5,none,.mv (.k .nils)⟩]).seq ((ICode.region [⟨some 6,none,.lbox (some 7) (.k (.c (.agg [.int .i64 0,.str [],.str [],.int .i64 0,.bool false,.int .i64 0,.int .i64 0])))⟩]).seq ((ICode.region [⟨some 7,none,.mv (.k (.c (.bool false)))⟩]).seq ((ICode.region [⟨some 8,none,.mv (.k (.c (.int .i64 0)))⟩,⟨some 9,none,.mv (.k (.c (.int .i64 0)))⟩]).seq ((ICode.label 0).seq lexL))))))) (ICode.skip.seq lexL)),res:=[.tmp 2,.cell 3 (some 4)] }:=rfl
theorem q45 {s:List UInt8} {i:Nat} {acc:List Tok} (h:¬ i<s.length):lexU s i acc=.ok acc:=by rw [lexU,dif_neg h]
theorem jl7 {H:z18} {s:List UInt8} {id i:Nat} {t6:CV} {N:Post} {B:Hs} {R:RP} (hH:ScH id (scAt s i) H) (hi:i≤s.length) (hl:s.length<2^30) (hlen:([]:List Tok).length≤16384)
 (hgo:∀ (acc':List Tok) (e:Nat) (t':CV) H',lexU s i ([]:List Tok)=lexU s e acc'→i<e→e≤s.length→acc'.length≤16384→ScH id (scAt s e) H'→∀ fr,KpL [0,3,4,5,6] fr [0,3,4,5,6] (lexK s id acc' t')→R.go 0 fr H')
 (hend:lexU s i ([]:List Tok)=.ok ([]:List Tok)→∀ fr:WFr,fr.env 2=tksV ([]:List Tok)→fr.env 3=.lbox (some 4) (.c zF)→R.ret fr H)
 (hbad:∀ code nm l c' H',lexU s i ([]:List Tok)=.bad code nm l c'→∀ fr:WFr,fr.env 2=.nils→fr.env 3=.lbox (some 4) (.c (fltC code nm l c'))→R.ret fr H') :
 WP Vv lexL (FL (lexK s id ([]:List Tok) t6) []) H N B R:=by
 have hr:=fun hi=>@jx4 H s id i t6 N B R hH hi hl hlen hgo hbad
 unfold lexL lexP0
 generalize hT:lexQ zj2=T at *
 unfold lexK at *
 unfold ScH at hH
 repeat' first|apply z01|exact z12|exact z19 rfl|(apply z15;rfl;rfl)|(apply z30;(iterate 3 rfl))|(apply z41;rfl)|(apply z77;(iterate 3 rfl))|(apply z68;rfl;rfl)|(apply z24;rfl;rfl)|(apply z16;rfl;rfl)|(apply z29;rfl;rfl)|(apply z25;(iterate 4 rfl);exact z34 (by first | exact rfl | assumption | exact z05 (by assumption)))|(apply z22;rfl;rfl;(assumption);rfl)|(apply z04;focus (repeat (first | exact z23 | (apply kq_c;rfl) | (apply zc6;rfl) | (apply z50;rfl) | (apply z40;rfl))))|apply z02|apply z00|apply z03|apply z08|apply z09|(apply z13;rfl)|(with_reducible apply z67;intro hc)|(with_reducible apply z49;intro hc)
 · refine hend (q45 ?_) _ rfl rfl
   have e:(scAt s i).pos=i:=rfl
   omega
 · refine hr ?_
   have e:(scAt s i).pos=i:=rfl
   omega
theorem jl6 {H:z18} {s:List UInt8} {id i:Nat} {a:Tok} {r:List Tok} {t6:CV} {N:Post} {B:Hs} {R:RP} (hH:ScH id (scAt s i) H) (hi:i≤s.length) (hl:s.length<2^30) (hlen:(a::r).length≤16384)
 (hgo:∀ (acc':List Tok) (e:Nat) (t':CV) H',lexU s i (a::r)=lexU s e acc'→i<e→e≤s.length→acc'.length≤16384→ScH id (scAt s e) H'→∀ fr,KpL [0,3,4,5,6] fr [0,3,4,5,6] (lexK s id acc' t')→R.go 0 fr H')
 (hend:lexU s i (a::r)=.ok (a::r)→∀ fr:WFr,fr.env 2=tksV (a::r)→fr.env 3=.lbox (some 4) (.c zF)→R.ret fr H)
 (hbad:∀ code nm l c' H',lexU s i (a::r)=.bad code nm l c'→∀ fr:WFr,fr.env 2=.nils→fr.env 3=.lbox (some 4) (.c (fltC code nm l c'))→R.ret fr H') :
 WP Vv lexL (FL (lexK s id (a::r) t6) []) H N B R:=by
 have hr:=fun hi=>@wk6 H s id i a r t6 N B R hH hi hl hlen hgo hbad
 unfold lexL lexP0
 generalize hT:lexQ zj2=T at *
 unfold lexK at *
 unfold ScH at hH
 repeat' first|apply z01|exact z12|exact z19 rfl|(apply z15;rfl;rfl)|(apply z30;(iterate 3 rfl))|(apply z41;rfl)|(apply z77;(iterate 3 rfl))|(apply zc3;(iterate 3 rfl))|(apply z24;rfl;rfl)|(apply z16;rfl;rfl)|(apply z29;rfl;rfl)|(apply z25;(iterate 4 rfl);exact z34 (by first | exact rfl | assumption | exact z05 (by assumption)))|(apply z22;rfl;rfl;(assumption);rfl)|(apply z04;focus (repeat (first | exact z23 | (apply kq_c;rfl) | (apply ze6;rfl;rfl) | (apply z50;rfl) | (apply z40;rfl))))|apply z02|apply z00|apply z03|apply z08|apply z09|(apply z13;rfl)|(with_reducible apply z67;intro hc)|(with_reducible apply z49;intro hc)
 · refine hend (q45 ?_) _ rfl rfl
   have e:(scAt s i).pos=i:=rfl
   omega
 · refine hr ?_
   have e:(scAt s i).pos=i:=rfl
   omega
theorem w33 {fr:WFr} {H:z18} {xs:List CV} {f:CV} (h1:fr.env 2=.view (.sl 5 0 0) true 0 38 (some 7) xs) (h2:fr.env 3=.lbox (some 4) (.c f)):fin [.tmp 2,.cell 3 (some 4)] (.tup [.c (.frz (some 7) xs),.c f]) fr H:=by
 refine ⟨[.view (.sl 5 0 0) true 0 38 (some 7) xs,.c f],.tup [.own true 38 (some 7) xs,.c f],hitH false [.sl 5 0 0] H,?_,?_,rfl⟩
 · simp only [zf7,h1,h2,if_true];rfl
 · unfold zq2
   rw [if_pos ⟨by exact List.nodup_cons.2 ⟨by simp [ze5,srcC,src1],List.nodup_nil⟩,rfl,.inr rfl⟩]
   rfl
theorem jn0 {fr:WFr} {H:z18} {acc:List Tok} {f:CV} (h1:fr.env 2=tksV acc) (h2:fr.env 3=.lbox (some 4) (.c f)):fin [.tmp 2,.cell 3 (some 4)] (.tup [.c (tksF acc),.c f]) fr H:=by
 cases acc with
 | nil=>exact fin2 (by decide) (.nils h1) h2
 | cons a r=>exact w33 h1 h2
theorem j66 {fr:WFr} {H:z18} {f:CV} (h1:fr.env 2=.nils) (h2:fr.env 3=.lbox (some 4) (.c f)):fin [.tmp 2,.cell 3 (some 4)] (.tup [.c (.frz none []),.c f]) fr H:=fin2 (by decide) (.nils h1) h2
theorem v01 (s:List UInt8) (hl:s.length≤9223372036854775807):Rets Vv 11 [.c (.str s)] (lexR (zq7 s)):=by
 refine z73 wz0 ?_
 generalize hL:lexL=L
 repeat' first|apply z01|exact z19 rfl|(apply z68;rfl;rfl)|(apply z81;rfl;rfl;first | exact z61 (by first | exact rfl | assumption | exact z05 (by assumption)) | exact z66 (by first | exact rfl | assumption | exact z05 (by assumption)))|apply z02|apply z00|apply z03
 refine q57 (fun p:List Tok×Nat×CV=>lexK s 0 p.1 p.2.2) (fun (p:List Tok×Nat×CV) H'=>p.1.length≤16384∧p.2.1≤s.length∧ScH 0 (scAt s p.2.1) H'∧lexU s p.2.1 p.1=lexU s 0 []∧s.length≤65536) (fun (p:List Tok×Nat×CV)=>s.length - p.2.1) ?_ ?_
 · have hpl:plc s 0=(1,1):=rfl
   repeat' first|apply z01|exact z12|exact z19 rfl|(apply z15;rfl;rfl)|(apply z30;(iterate 3 rfl))|(apply z41;rfl)|(apply z77;(iterate 3 rfl))|(apply z68;rfl;rfl)|(apply z24;rfl;rfl)|(apply z81;rfl;rfl;first | exact z61 (by first | exact rfl | assumption | exact z05 (by assumption)) | exact z66 (by first | exact rfl | assumption | exact z05 (by assumption)))|(apply z25;(iterate 4 rfl);exact z34 (by first | exact rfl | assumption | exact z05 (by assumption)))|(apply jn2;rfl;rfl)|(apply z04;focus (repeat (first | exact z23 | (apply kq_c;rfl) | (apply z40;rfl))))|apply z02|apply z00|apply z03|apply z08|apply z09|apply q56|(apply z13;rfl)|(with_reducible apply z67;intro hc)|(with_reducible apply z49;intro hc)|(apply qj3;(exact ShI.nils rfl);(exact ShI.cell rfl);(exact by decide))
   · unfold zq7
     rw [if_pos (by omega)]
     rfl
   · have e:zq7 s=lexU s 0 []:=by unfold zq7;rw [if_neg (by omega)]
     have hH:ScH 0 (scAt s 0) [.var (some 8) (scC (scAt s 0))]:=rfl
     have gg:∀ (acc':List Tok) (e:Nat) (t':CV) H',lexU s 0 []=lexU s e acc'→0<e→e≤s.length→acc'.length≤16384→ScH 0 (scAt s e) H'→∀ fr,KpL [0,3,4,5,6] fr [0,3,4,5,6] (lexK s 0 acc' t')→(0=0∧∃ s':List Tok×Nat×CV,KpL [0,3,4,5,6] fr [0,3,4,5,6] (lexK s 0 s'.1 s'.2.2)∧(s'.1.length≤16384∧s'.2.1≤s.length∧ScH 0 (scAt s s'.2.1) H'∧lexU s s'.2.1 s'.1=lexU s 0 []∧s.length≤65536)):=
      fun acc' e t' H' g1 g2 g3 g4 g5 fr g6=>⟨rfl,(acc',e,t'),g6,⟨g4,g3,g5,g1.symm,by omega⟩⟩
     rw [e]
     subst hL
     unfold lexL lexP0
     generalize hT:lexQ zj2=T
     repeat' first|apply z01|exact z12|exact z19 rfl|(apply z15;rfl;rfl)|(apply z30;(iterate 3 rfl))|(apply z41;rfl)|(apply z77;(iterate 3 rfl))|(apply z68;rfl;rfl)|(apply z24;rfl;rfl)|(apply z16;rfl;rfl)|(apply z29;rfl;rfl)|(apply z25;(iterate 4 rfl);exact z34 (by first | exact rfl | assumption | exact z05 (by assumption)))|(apply z22;rfl;rfl;(assumption);rfl)|(apply z04;focus (repeat (first | exact z23 | (apply kq_c;rfl) | (apply zc6;rfl) | (apply z50;rfl) | (apply z40;rfl))))|apply z02|apply z00|apply z03|apply z08|apply z09|(apply z13;rfl)|(with_reducible apply z67;intro hc)|(with_reducible apply z49;intro hc)|(apply qj3;(exact ShI.nils rfl);(exact ShI.cell rfl);(exact by decide))
     · have e1:(scAt s 0).pos=0:=rfl
       have e0:lexU s 0 []=.ok []:=q45 (by omega)
       rw [e0]
       rfl
     · subst hT
       have e1:(scAt s 0).pos=0:=rfl
       refine jx4 (t6:=tokC ⟨0,[],[],0,false,0,0⟩) hH (by omega) (by omega) (by simp) gg ?_
       intro code nm l c' H' k fr k1 k2
       rw [k]
       exact j66 k1 k2
 · rintro ⟨acc,j,t6⟩ H ⟨h1,h2,h3,h4,h5⟩
   dsimp only at h1 h2 h3 h4 h5
   dsimp only
   repeat' first|apply z02|apply z08
   subst hL
   have e:zq7 s=lexU s j acc:=by unfold zq7;rw [if_neg (by omega),h4]
   have gg:∀ (acc':List Tok) (e:Nat) (t':CV) H',lexU s j acc=lexU s e acc'→j<e→e≤s.length→acc'.length≤16384→ScH 0 (scAt s e) H'→∀ fr,KpL [0,3,4,5,6] fr [0,3,4,5,6] (lexK s 0 acc' t')→(0=0∧∃ s':List Tok×Nat×CV,KpL [0,3,4,5,6] fr [0,3,4,5,6] (lexK s 0 s'.1 s'.2.2)∧(s'.1.length≤16384∧s'.2.1≤s.length∧ScH 0 (scAt s s'.2.1) H'∧lexU s s'.2.1 s'.1=lexU s 0 []∧s.length≤65536)∧s.length - s'.2.1<s.length - j):=
    fun acc' e t' H' g1 g2 g3 g4 g5 fr g6=>⟨rfl,(acc',e,t'),g6,⟨g4,g3,g5,g1.symm.trans h4,h5⟩,by dsimp only;omega⟩
   rw [e]
   cases acc with
   | nil=>
     refine jl7 h3 h2 (by omega) h1 gg ?_ ?_
     · intro k fr k1 k2
       rw [k]
       exact jn0 k1 k2
     · intro code nm l c' H' k fr k1 k2
       rw [k]
       exact j66 k1 k2
   | cons a r=>
     refine jl6 h3 h2 (by omega) h1 gg ?_ ?_
     · intro k fr k1 k2
       rw [k]
       exact jn0 k1 k2
     · intro code nm l c' H' k fr k1 k2
       rw [k]
       exact j66 k1 k2
end Go.Proofs.TryzL
