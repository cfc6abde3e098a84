/- Chapter 02: the reference's Lex: names and numbers. -/
import Derived.Test.YtencoceemejcnaaGreatDoorLzT46
import Derived.Test.YtencoceemejcnaaGreatDoorLzT50
import Derived.Test.YtencoceemejcnaaGreatDoorLzT39
import Derived.Test.YtencoceemejcnaaGreatDoorLzT33
import Derived.Test.YtencoceemejcnaaGreatDoorLzT24
set_option linter.unusedSimpArgs false
set_option linter.unusedVariables false
namespace Go.Proofs.TryzL
open Go.Proofs.Lz
inductive LR where
 | bad (code:Nat) (nm:List UInt8) (line col:Nat)
 | ok (l:List Tok)
def i6 (s:List UInt8) (i:Nat) (acc:List Tok):LR:=
 if hi:i<s.length then
  match E3 s i s[i] with
  | some (.skip e)=>if h:i<e then i6 s e acc else .ok []
  | some (.bad code p nm)=>.bad code nm (plc s p).1 (plc s p).2
  | some (.tok _ _ _ _ _)=>.ok []
  | none=>match b8 s i s[i] with
    | .bad code p nm=>.bad code nm (plc s p).1 (plc s p).2
    | .skip _=>.ok []
    | .tok op q t n e=>if 16384<=acc.length then .bad 3 [] (plc s i).1 (plc s i).2 else if h:i<e then i6 s e (acc++[⟨op,q,t,n,false,(plc s i).1,(plc s i).2⟩]) else .ok []
 else .ok acc
termination_by s.length - i
end Go.Proofs.TryzL
namespace Go.Proofs.TryzL
open Go.Proofs.Lz
theorem qq6 (s:List UInt8):∀ n j e,s.length - j<=n->j<=s.length->lineS s j=.ok e->j<=e/\e<=s.length:=by
 intro n;induction n with
 | zero=>intro j e hn hj h;rw [lineS,dif_pos (by omega)] at h;injection h with h;omega
 | succ n ih=>
   intro j e hn hj h;rw [lineS] at h;split at h
   . injection h with h;omega
   . split at h
     . injection h with h;omega
     . split at h
       . cases h
       . have:=ih _ _ (by omega) (by omega) h;omega
theorem j68 (s:List UInt8) (i:Nat):∀ n d j e,s.length - j<=n->cmtS s i d j=.ok e->j<e/\e<=s.length:=by
 intro n;induction n with
 | zero=>intro d j e hn h;rw [cmtS,dif_pos (by omega)] at h;cases h
 | succ n ih=>
   intro d j e hn h;rw [cmtS] at h;split at h
   . cases h
   . split at h
     . have:=ih _ _ _ (by omega) h;omega
     . split at h
       . rename_i hp;have:=aC hp;split at h
         . injection h with h;omega
         . have:=ih _ _ _ (by omega) h;omega
       . split at h
         . cases h
         . have:=ih _ _ _ (by omega) h;omega
theorem xX {s:List UInt8} {i e:Nat} {c:UInt8} (hc:s[i]?=some c) (h:E3 s i c=some (.skip e)):i<e/\e<=s.length:=by
 have hlt:i<s.length:=(gEs hc).1;have hg:s.getD i 0=c:=by simp [List.getD,hc]
 unfold E3 at h;split at h
 . injection h with h;injection h with h;omega
 . rename_i hb;split at h
   . rename_i h45;injection h with h;cases hr:lineS s i with
     | bad a b=>rw [hr] at h;cases h
     | ok e'=>
       rw [hr] at h;injection h with h;subst h;rw [lineS,dif_neg (by omega),hg,if_neg (by rw [h45.1];decide),if_neg (by rw [h45.1];decide)] at hr;have:=qq6 s _ _ _ (Nat.le_refl _) (by omega) hr;omega
   . split at h
     . injection h with h;cases hr:cmtS s i 0 i with
       | bad a b=>rw [hr] at h;cases h
       | ok e'=>
         rw [hr] at h;injection h with h;subst h;exact j68 s i _ _ _ _ (Nat.le_refl _) hr
     . cases h
end Go.Proofs.TryzL
namespace Go.Proofs.TryzL
open Go.Proofs.Lz
theorem aI {p:UInt8->Bool} {s:List UInt8} {i:Nat} {c:UInt8} (h:s[i]?=some c) (hp:p c=true):1<=(x9 p s i).length:=by
 rw [eW h hp];simp
theorem tK {i:Nat} {q t q' t':List UInt8} {e e':Nat} {op n:Int} (h:l9 i q t e=.tok op q' t' n e'):e'=e:=by
 unfold l9 at h;split at h
 . cases h
 . split at h
   . cases h
   . injection h with _ _ _ _ h;exact h.symm
theorem jc4 {s:List UInt8} {i:Nat} {m:UInt8}:∀ n text j t e,s.length - j<=n->A6 s i m text j=.ok t e->j<e/\e<=s.length:=by
 intro n;induction n with
 | zero=>
   intro text j t e hn h;have hs:a6 s i j=some (7,i):=by unfold a6;rw [List.getElem?_eq_none (by omega)]
   rw [mV hs] at h;cases h
 | succ n ih=>
   intro text j t e hn h;cases hs:a6 s i j with
   | some cp=>obtain ⟨a,b⟩:=cp;rw [mV hs] at h;cases h
   | none=>
     have hlt:=wN hs;rw [lR hs] at h;split at h
     . injection h with _ h;omega
     . split at h
       . cases h
       . split at h
         . cases h
         . rename_i hch;have h1:=xR hch;split at h
           . cases h
           . have:=ih _ _ _ _ (by omega) h;omega
theorem vL {s q t:List UInt8} {i e:Nat} {c:UInt8} {op n:Int} (hc:s[i]?=some c) (h:b8 s i c=.tok op q t n e):i<e/\e<=s.length:=by
 have hlt:i<s.length:=(gEs hc).1;unfold b8 at h;split at h
 . rename_i hcl;have h1:=aI (p:=a8) hc (by unfold a8;rw [hcl];rfl);have h2:=Y2 (p:=a8) (s:=s) (i:=i) (by omega);unfold J7 at h;dsimp only at h;split at h
   . rename_i hq;have h3:=tK h;have h4:i+(x9 a8 s i).length<s.length:=(gEs hq.2.1).1;have h5:=zk0 (s:=s) (j:=i+(x9 a8 s i).length+1) (by omega);omega
   . have h3:=tK h;omega
 . split at h
   . rename_i hd;have h1:=aI (p:=t7) hc hd;have h2:=Y2 (p:=t7) (s:=s) (i:=i) (by omega);unfold J6 at h;split at h
     . cases h
     . injection h with _ _ _ _ h;omega
   . split at h
     . unfold I7 at h;cases hr:A6 s i c [] (i+1) with
       | bad a b=>rw [hr] at h;cases h
       | ok t' e'=>
         rw [hr] at h;have h1:=jc4 _ _ _ _ _ (Nat.le_refl _) hr;unfold jK at h;dsimp only at h;split at h
         . split at h
           . cases h
           . injection h with _ _ _ _ h;omega
         . injection h with _ _ _ _ h;omega
     . split at h
       . rename_i hs;have h1:=aI (p:=u6) hc hs;have h2:=Y2 (p:=u6) (s:=s) (i:=i) (by omega);have h3:=tK h;omega
       . split at h
         . injection h with _ _ _ _ h;omega
         . cases h
end Go.Proofs.TryzL
namespace Go.Proofs.TryzL
set_option maxHeartbeats 4000000
theorem u8n {c:UInt8} {n:Nat} (hn:n<256):c=UInt8.ofNat n↔c.toNat=n:=by
 constructor
 . rintro rfl;simp;omega
 . intro h;apply UInt8.toNat_inj.1;simp;omega
theorem qx1 {c:UInt8} (h:wcB c=true):a8 c=true:=by
 unfold wcB qX at h;unfold a8 lowerB;simp [upperB,t7,u8n] at h ⊢;have e1:c=95↔c.toNat=95:=u8n (n:=95) (by decide);have e2:c=39↔c.toNat=39:=u8n (n:=39) (by decide);rw [e1,e2] at h;omega
theorem jg4 {c:UInt8} (h:wsB c=true):(upperB c||lowerB c)=true:=by
 unfold wsB qX at h;unfold lowerB;have e1:c=95↔c.toNat=95:=u8n (n:=95) (by decide);simp [upperB,e1] at h ⊢;omega
theorem qd1 {t:List UInt8} (h:G7 t=true):∃ c r,t=c::r/\t.length<=64/\(upperB c||lowerB c)=true/\t.all a8=true:=by
 cases t with
 | nil=>simp [G7] at h
 | cons c r=>
   simp only [G7,List.getElem?_cons_zero,Bool.and_eq_true,decide_eq_true_eq] at h;exact ⟨c,r,rfl,h.1.1,jg4 h.1.2,List.all_eq_true.2 fun x hx=>qx1 (List.all_eq_true.1 h.2 x hx)⟩
theorem nO {c:UInt8} (h:u6 c=true):c.toNat=33\/c.toNat=35\/c.toNat=36\/c.toNat=37\/c.toNat=38\/c.toNat=42\/c.toNat=43\/c.toNat=46\/c.toNat=47\/c.toNat=60\/c.toNat=61\/c.toNat=62\/c.toNat=63\/c.toNat=64\/c.toNat=92\/c.toNat=94\/c.toNat=124\/c.toNat=45\/c.toNat=126\/c.toNat=58:=by
 have h:=List.contains_iff_mem.1 h;simp only [symS,List.mem_cons,List.not_mem_nil,or_false] at h;rcases h with h | h | h | h | h | h | h | h | h | h | h | h | h | h | h | h | h | h | h | h<;>subst h<;>decide
def Sep (z:List UInt8):Prop:=z=[]\/∃ r,z=32::r\/z=10::r
end Go.Proofs.TryzL
namespace Go.Proofs.Lz
def P8 (s:List UInt8) (n n':Int) (r:List UInt8):Prop:=(0<=n/\n<=n'/\n'<=s.length)/\(s.drop n.toNat).take (n'.toNat - n.toNat)=r
section
variable {V:WEnv} {fr fr':WFr} {H:q9} {N:f4} {dst:Option Nat}
theorem W5 {x lo hi:Opd} {s r:List UInt8} {k k':IntKind} {n n':Int} (hx:fr.rd x=.c (.str s)) (hl:fr.rd lo=.c (.int k n)) (hh:fr.rd hi=.c (.int k' n')) (hr:P8 s n n' r) (hq:Put fr dst (.c (.str r)) fr') (hN:N fr' H):OpP V (.slc true none x (some lo) (some hi)) dst fr H N:=by
 obtain ⟨⟨h0,h1,h2⟩,rfl⟩:=hr;obtain ⟨m,rfl⟩:=Int.eq_ofNat_of_zero_le h0;obtain ⟨m',rfl⟩:=Int.eq_ofNat_of_zero_le (a:=n') (by omega);exact kK hx hl hh rfl rfl (by omega) hq hN
end
theorem fR {s r:List UInt8} {a b:Nat} (h:a<=b) (hb:b<=s.length) (hr:(s.drop a).take (b - a)=r):P8 s (a:Int) (b:Int) r:=⟨by omega,by simpa using hr⟩
end Go.Proofs.Lz
namespace Go.Proofs.TryzL
open Go.Proofs.Lz
set_option maxHeartbeats 4000000
theorem j66 {c:UInt8} (h:a8 c=true):wcB c=true:=by
 have e1:c=95↔c.toNat=95:=u8n (n:=95) (by decide);have e2:c=39↔c.toNat=39:=u8n (n:=39) (by decide);unfold a8 lowerB at h;unfold wcB qX;simp [upperB,t7,e1,e2] at h ⊢;omega
theorem qx7 {c:UInt8} (h:(upperB c||lowerB c)=true):wsB c=true:=by
 have e1:c=95↔c.toNat=95:=u8n (n:=95) (by decide);unfold lowerB at h;unfold wsB qX;simp [upperB,e1] at h ⊢;omega
theorem iC {t r:List UInt8} {c:UInt8} (ht:t=c::r) (hl:t.length<=64) (hc:(upperB c||lowerB c)=true) (ha:t.all a8=true):C4 t=1\/C4 t=2\/C4 t=5:=by
 have hw:G7 t=true:=by
  subst ht;simp only [G7,List.getElem?_cons_zero,Bool.and_eq_true,decide_eq_true_eq];exact ⟨⟨hl,qx7 hc⟩,List.all_eq_true.2 fun x hx=>j66 (List.all_eq_true.1 ha x hx)⟩
 unfold C4;by_cases h1:rwordL.contains t=true
 . rw [if_pos h1];simp
 . by_cases h2:rsymL.contains t=true
   . have:=(oW t (List.contains_iff_mem.1 h2)).2;rw [hw] at this;cases this
   . rw [if_neg h1,if_neg h2,hw];cases jN t<;>simp
theorem z22 {t:List UInt8} (hne:t≠[]) (hl:t.length<=64) (ha:t.all u6=true) (hd:K9 t=false):C4 t=3\/C4 t=4\/C4 t=6:=by
 obtain ⟨c,r,rfl⟩:=List.exists_cons_of_ne_nil hne;have hc:u6 c=true:=List.all_eq_true.1 ha c (by simp);have hs:N5 (c::r)=true:=by
  simp only [N5,List.getElem?_cons_zero,Bool.and_eq_true,decide_eq_true_eq,Bool.or_eq_true];refine ⟨⟨hl,ha⟩,?_⟩;by_cases h1:(c::r).length=1
  . exact .inl h1
  . right;have h2:(c::r).count 45<=(c::r).length:=List.count_le_length;have h3:(c::r).count 45≠(c::r).length:=by
     intro h;rw [List.count_eq_length] at h;unfold K9 at hd;rw [Bool.and_eq_false_iff] at hd;rcases hd with hd | hd
     . simp at hd h1;cases r<;>simp_all
     . rw [<-Bool.not_eq_true] at hd;exact hd (List.all_eq_true.2 fun x hx=>by rw [beq_iff_eq];exact (h x hx).symm)
    omega
 have hnw:G7 (c::r)=false:=by
  rw [<-Bool.not_eq_true];intro h;obtain ⟨d,r',e,_,hd',_⟩:=qd1 h;injection e with e1 e2;subst e1;have:=nO hc;simp [upperB,lowerB] at hd';omega
 unfold C4;by_cases h1:rwordL.contains (c::r)=true
 . have:=ze2 _ (List.contains_iff_mem.1 h1);rw [hnw] at this;cases this
 . rw [if_neg h1];by_cases h2:rsymL.contains (c::r)=true
   . rw [if_pos h2];simp
   . rw [if_neg h2,hnw,hs];simp only [Bool.false_and,Bool.true_and,Bool.false_eq_true,if_false,if_true];split<;>simp
theorem mI {s q t:List UInt8} {i a e:Nat} (hl:s.length<2^30) (hai:i<=a) (hS:P8 s (a:Int) (e:Int) t) (hq:(i<a/\P8 s (i:Int) ((a:Int) - 1) q)\/(i=a/\q=[])) (hcls:t.length<=64->1<=C4 t/\C4 t<=6) :
 Rets Vv 70 [.c (.str s),.c (.int .i64 i),.c (.int .i64 a),.c (.int .i64 e)] (.c (unC (l9 i q t e))):=by
 refine m7 qb3 ?_;have htl:t.length<2^30:=by
  obtain ⟨⟨h1,h2,h3⟩,h4⟩:=hS;have:t.length<=s.length:=by rw [<-h4];simp;omega
  omega
 have hae:a<=e/\e<=s.length:=by obtain ⟨⟨h1,h2,h3⟩,h4⟩:=hS;omega
 have hb:∀ nm:List UInt8,Rets Vv 76 [.c (.int .i64 3),.c (.int .i64 i),.c (.str nm)] (.c (unC (.bad 3 i nm))):=fun nm=>jA 3 i nm;unfold l9;have h82:=rJ t (by omega);have go:∀ h:t.length<=64,Rets Vv 82 [.c (.str t)] (.c (.int .i64 (C4 t))):=by
  intro h;obtain ⟨h1,h6⟩:=hcls h;rwa [(tI t h1 h6).2 rfl] at h82
 rcases hq with ⟨hlt,hqS⟩ | ⟨heq,rfl⟩
 . have hql:q.length<=s.length:=by
    obtain ⟨⟨h1,h2,h3⟩,h4⟩:=hqS;rw [<-h4];simp;omega
   by_cases hq64:64<q.length
   . rw [if_pos hq64];repeat' first|apply j2|exact q7|exact j8 rfl|(apply j7;rfl;rfl)|(apply I9;rfl;rfl;omega)|(apply j9;rfl;rfl;rfl)|(apply u5;rfl)|(apply l6;rfl;rfl;rfl)|(apply s9;rfl;rfl)|(apply m8;rfl;rfl;first | exact c6 (by first | exact rfl | assumption | exact j0 (by assumption)) | exact m9 (by first | exact rfl | assumption | exact j0 (by assumption)))|(apply u1;rfl;rfl;rfl;rfl;exact u4 (by first | exact rfl | assumption | exact j0 (by assumption)))|(apply qF;rfl;rfl;rfl;omega)|(apply xB;rfl;rfl;omega;omega)|(apply W5;rfl;rfl;rfl;assumption)|(apply t8;rfl;rfl;(assumption);rfl)|(apply Q6;rfl;rfl;rfl;rfl;(first | assumption | exact rfl);rfl;rfl;intro H1 hH1 kH1)|(apply vE;rfl;rfl)|(apply q6 (hc:=hb (q.take 64));rfl;rfl;rfl)|(apply w8;focus (repeat (first | exact q8 | (apply v6;rfl) | (apply d6;rfl) | (apply y6;rfl))))|apply j1|apply j3|apply j4|apply v8|apply w9|(apply v7;rfl)|(with_reducible (first|apply x6|apply x5);intro hc)|(apply c8;rfl)
     try any_goals (exfalso;omega)
     all_goals first | rfl | trace_state
   . rw [if_neg hq64];by_cases ht64:64<t.length
     . rw [if_pos ht64];repeat' first|apply j2|exact q7|exact j8 rfl|(apply j7;rfl;rfl)|(apply I9;rfl;rfl;omega)|(apply j9;rfl;rfl;rfl)|(apply u5;rfl)|(apply l6;rfl;rfl;rfl)|(apply s9;rfl;rfl)|(apply m8;rfl;rfl;first | exact c6 (by first | exact rfl | assumption | exact j0 (by assumption)) | exact m9 (by first | exact rfl | assumption | exact j0 (by assumption)))|(apply u1;rfl;rfl;rfl;rfl;exact u4 (by first | exact rfl | assumption | exact j0 (by assumption)))|(apply qF;rfl;rfl;rfl;omega)|(apply xB;rfl;rfl;omega;omega)|(apply W5;rfl;rfl;rfl;assumption)|(apply t8;rfl;rfl;(assumption);rfl)|(apply Q6;rfl;rfl;rfl;rfl;(first | assumption | exact rfl);rfl;rfl;intro H1 hH1 kH1)|(apply vE;rfl;rfl)|(apply q6 (hc:=hb (t.take 64));rfl;rfl;rfl)|(apply w8;focus (repeat (first | exact q8 | (apply v6;rfl) | (apply d6;rfl) | (apply y6;rfl))))|apply j1|apply j3|apply j4|apply v8|apply w9|(apply v7;rfl)|(with_reducible (first|apply x6|apply x5);intro hc)|(apply c8;rfl)
       try any_goals (exfalso;omega)
       all_goals first | rfl | trace_state
     . rw [if_neg ht64];have hg:=go (by omega);have hcl:=hcls (by omega);repeat' first|apply j2|exact q7|exact j8 rfl|(apply j7;rfl;rfl)|(apply I9;rfl;rfl;omega)|(apply j9;rfl;rfl;rfl)|(apply u5;rfl)|(apply l6;rfl;rfl;rfl)|(apply s9;rfl;rfl)|(apply m8;rfl;rfl;first | exact c6 (by first | exact rfl | assumption | exact j0 (by assumption)) | exact m9 (by first | exact rfl | assumption | exact j0 (by assumption)))|(apply u1;rfl;rfl;rfl;rfl;exact u4 (by first | exact rfl | assumption | exact j0 (by assumption)))|(apply qF;rfl;rfl;rfl;omega)|(apply W5;rfl;rfl;rfl;assumption)|(apply t8;rfl;rfl;(assumption);rfl)|(apply Q6;rfl;rfl;rfl;rfl;(first | assumption | exact rfl);rfl;rfl;intro H1 hH1 kH1)|(apply vE;rfl;rfl)|(apply q6 (hc:=hg);rfl;rfl;rfl)|(apply w8;focus (repeat (first | exact q8 | (apply v6;rfl) | (apply d6;rfl) | (apply y6;rfl))))|apply j1|apply j3|apply j4|apply x3|apply v8|apply w9|(apply v7;rfl)|(with_reducible (first|apply u7|apply g8|apply x6|apply x5);intro hc)|(apply c8;rfl)
       try any_goals (exfalso;omega)
       all_goals (unfold Z6 unC;repeat (first | rw [if_pos (by omega)] | rw [if_neg (by omega)]))
       all_goals first | rfl | trace_state
 . subst heq;rw [if_neg (by simp)];have e00:([]:List UInt8).length=0:=rfl;by_cases ht64:64<t.length
   . rw [if_pos ht64];repeat' first|apply j2|exact q7|exact j8 rfl|(apply j7;rfl;rfl)|(apply I9;rfl;rfl;omega)|(apply j9;rfl;rfl;rfl)|(apply u5;rfl)|(apply l6;rfl;rfl;rfl)|(apply s9;rfl;rfl)|(apply m8;rfl;rfl;first | exact c6 (by first | exact rfl | assumption | exact j0 (by assumption)) | exact m9 (by first | exact rfl | assumption | exact j0 (by assumption)))|(apply u1;rfl;rfl;rfl;rfl;exact u4 (by first | exact rfl | assumption | exact j0 (by assumption)))|(apply qF;rfl;rfl;rfl;omega)|(apply xB;rfl;rfl;omega;omega)|(apply W5;rfl;rfl;rfl;assumption)|(apply t8;rfl;rfl;(assumption);rfl)|(apply Q6;rfl;rfl;rfl;rfl;(exact rfl);rfl;rfl;intro H1 hH1 kH1)|(apply vE;rfl;rfl)|(apply q6 (hc:=hb (t.take 64));rfl;rfl;rfl)|(apply w8;focus (repeat (first | exact q8 | (apply v6;rfl) | (apply d6;rfl) | (apply y6;rfl))))|apply j1|apply j3|apply j4|apply v8|apply w9|(apply v7;rfl)|(with_reducible (first|apply x6|apply x5);intro hc)|(apply c8;rfl)
     try any_goals (exfalso;omega)
     all_goals first | rfl | trace_state
   . rw [if_neg ht64];have hg:=go (by omega);have hcl:=hcls (by omega);repeat' first|apply j2|exact q7|exact j8 rfl|(apply j7;rfl;rfl)|(apply I9;rfl;rfl;omega)|(apply j9;rfl;rfl;rfl)|(apply u5;rfl)|(apply l6;rfl;rfl;rfl)|(apply s9;rfl;rfl)|(apply m8;rfl;rfl;first | exact c6 (by first | exact rfl | assumption | exact j0 (by assumption)) | exact m9 (by first | exact rfl | assumption | exact j0 (by assumption)))|(apply u1;rfl;rfl;rfl;rfl;exact u4 (by first | exact rfl | assumption | exact j0 (by assumption)))|(apply qF;rfl;rfl;rfl;omega)|(apply W5;rfl;rfl;rfl;assumption)|(apply t8;rfl;rfl;(assumption);rfl)|(apply Q6;rfl;rfl;rfl;rfl;(first | assumption | exact rfl);rfl;rfl;intro H1 hH1 kH1)|(apply vE;rfl;rfl)|(apply q6 (hc:=hg);rfl;rfl;rfl)|(apply w8;focus (repeat (first | exact q8 | (apply v6;rfl) | (apply d6;rfl) | (apply y6;rfl))))|apply j1|apply j3|apply j4|apply x3|apply v8|apply w9|(apply v7;rfl)|(with_reducible (first|apply u7|apply g8|apply x6|apply x5);intro hc)|(apply c8;rfl)
     try any_goals (exfalso;omega)
     all_goals (unfold Z6 unC;repeat (first | rw [if_pos (by omega)] | rw [if_neg (by omega)]))
     all_goals first | rfl | trace_state
end Go.Proofs.TryzL
namespace Go.Proofs.TryzL
open Go.Proofs.Lz
set_option maxHeartbeats 4000000
theorem mL {p:UInt8->Bool} {s:List UInt8} {j:Nat} (hj:j<=s.length):P8 s (j:Int) ((j+(x9 p s j).length:Nat):Int) (x9 p s j):=by
 have hle:(x9 p s j).length<=s.length - j:=by
  unfold x9;have:=(List.takeWhile_prefix p (l:=s.drop j)).length_le;simpa using this
 refine fR (by omega) (by omega) ?_;rw [Nat.add_sub_cancel_left];unfold x9;exact ((List.prefix_iff_eq_take).1 (List.takeWhile_prefix p)).symm
theorem bP {p:UInt8->Bool} {s:List UInt8} {j:Nat}:(x9 p s j).all p=true:=by
 unfold x9;rw [List.all_eq_true];intro x hx;have h:=List.all_takeWhile (p:=p) (l:=s.drop j);exact List.all_eq_true.1 h x hx
theorem kO {p:UInt8->Bool} {s:List UInt8} {j:Nat} {c:UInt8} (h:s[j]?=some c) (hp:p c=true):∃ r,x9 p s j=c::r:=by
 obtain ⟨hj,e⟩:=gEs h;unfold x9;rw [List.drop_eq_getElem_cons hj,e,List.takeWhile_cons_of_pos hp];exact ⟨_,rfl⟩
theorem za1 {c:UInt8} (h:(upperB c||lowerB c)=true):a8 c=true:=by
 unfold a8;simp only [Bool.or_eq_true] at h ⊢;exact .inl (.inl h)
theorem K5 (u:U):fitsW (some 11) (.c (unC u))=true:=by cases u<;>rfl
theorem mD {t:List UInt8} (h:(C4 t=1\/C4 t=2\/C4 t=5)\/(C4 t=3\/C4 t=4\/C4 t=6)):1<=C4 t/\C4 t<=6:=by omega
theorem zv4 {s T:List UInt8} {i n:Nat} {c:UInt8} (hl:s.length<2^30) (hc:s[i]?=some c) (hi:i<s.length) (hn:n<=s.length) (h95:Rets Vv 95 [.c (.str s),.c (.int .i64 i)] (.c (.int .i64 n))) (w1:Rets Vv 70 [.c (.str s),.c (.int .i64 i),.c (.int .i64 i),.c (.int .i64 n)] (.c (unC (l9 i [] T n)))) (hu:upperB c=false):Rets Vv 65 [.c (.str s),.c (.int .i64 i)] (.c (unC (l9 i [] T n))):=by
 refine m7 jO ?_;have f1:=K5 (l9 i [] T n);have h64:=H6 c;rw [hu] at h64;repeat' first|apply j2|exact q7|exact j8 rfl|(apply j7;rfl;rfl)|(apply y0;rfl;(with_reducible rfl);rfl)|(apply x7;rfl;rfl;rfl;assumption)|(apply m8;rfl;rfl;first | exact c6 (by first | exact rfl | assumption | exact j0 (by assumption)) | exact m9 (by first | exact rfl | assumption | exact j0 (by assumption)))|(apply u1;rfl;rfl;assumption;rfl;exact u4 (by first | exact rfl | assumption | exact j0 (by assumption)))|(apply q6 (hc:=h95);rfl;rfl;rfl)|(apply q6 (hc:=h64);rfl;rfl;rfl)|(apply q6 (hc:=w1);rfl;rfl;rfl)|(apply w8;focus (repeat (first | exact q8 | (apply v6;rfl) | (apply y6;rfl))))|apply j1|apply j3|apply j4|apply v8|apply w9|(apply g9;rfl;(with_reducible rfl))|(apply b9;rfl;(with_reducible rfl))|(apply c8;rfl)
 try any_goals (exfalso;omega)
 try any_goals (exfalso;contradiction)
 all_goals first | rfl | trace_state
theorem ql4 {s T:List UInt8} {i n:Nat} {c:UInt8} (hl:s.length<2^30) (hc:s[i]?=some c) (hi:i<s.length) (hn:n<=s.length) (h95:Rets Vv 95 [.c (.str s),.c (.int .i64 i)] (.c (.int .i64 n))) (w1:Rets Vv 70 [.c (.str s),.c (.int .i64 i),.c (.int .i64 i),.c (.int .i64 n)] (.c (unC (l9 i [] T n)))) (hu:upperB c=true) (hn1:¬ n+1<s.length):Rets Vv 65 [.c (.str s),.c (.int .i64 i)] (.c (unC (l9 i [] T n))):=by
 refine m7 jO ?_;have f1:=K5 (l9 i [] T n);have h64:=H6 c;rw [hu] at h64;repeat' first|apply j2|exact q7|exact j8 rfl|(apply j7;rfl;rfl)|(apply b6;rfl;rfl;omega)|(apply j9;rfl;rfl;rfl)|(apply u5;rfl)|(apply y9;rfl;(with_reducible rfl);rfl)|(apply y0;rfl;(with_reducible rfl);rfl)|(apply x7;rfl;rfl;rfl;assumption)|(apply m8;rfl;rfl;first | exact c6 (by first | exact rfl | assumption | exact j0 (by assumption)) | exact m9 (by first | exact rfl | assumption | exact j0 (by assumption)))|(apply u1;rfl;rfl;assumption;rfl;exact u4 (by first | exact rfl | assumption | exact j0 (by assumption)))|(apply q6 (hc:=h95);rfl;rfl;rfl)|(apply q6 (hc:=h64);rfl;rfl;rfl)|(apply q6 (hc:=w1);rfl;rfl;rfl)|(apply w8;focus (repeat (first | exact q8 | (apply v6;rfl) | (apply y6;rfl))))|apply j1|apply j3|apply j4|apply v8|apply w9|(apply g9;rfl;(with_reducible rfl))|(apply x8;rfl;(with_reducible rfl))|(apply b9;rfl;(with_reducible rfl))|(apply y7;rfl)|(with_reducible apply x6;intro hc;try (exfalso;omega))|(with_reducible apply x5;intro hc;try (exfalso;omega))|(apply c8;rfl)
 try any_goals (exfalso;omega)
 try any_goals (exfalso;contradiction)
 all_goals first | rfl | trace_state
theorem qr2 {s T:List UInt8} {i n:Nat} {c:UInt8} (hl:s.length<2^30) (hc:s[i]?=some c) (hi:i<s.length) (hn:n<=s.length) (h95:Rets Vv 95 [.c (.str s),.c (.int .i64 i)] (.c (.int .i64 n))) (w1:Rets Vv 70 [.c (.str s),.c (.int .i64 i),.c (.int .i64 i),.c (.int .i64 n)] (.c (unC (l9 i [] T n)))) (hu:upperB c=true) {d:UInt8} (hn1:n+1<s.length) (hd:s[n]?=some d) (hd46:¬ (d.toNat:Int)=46):Rets Vv 65 [.c (.str s),.c (.int .i64 i)] (.c (unC (l9 i [] T n))):=by
 refine m7 jO ?_;have f1:=K5 (l9 i [] T n);have h64:=H6 c;rw [hu] at h64;repeat' first|apply j2|exact q7|(apply j7;rfl;rfl)|(apply b6;rfl;rfl;omega)|(apply j9;rfl;rfl;rfl)|(apply u5;rfl)|(apply y9;rfl;(with_reducible rfl);rfl)|(apply x7;rfl;rfl;rfl;assumption)|(apply m8;rfl;rfl;first | exact c6 (by first | exact rfl | assumption | exact j0 (by assumption)) | exact m9 (by first | exact rfl | assumption | exact j0 (by assumption)))|(apply u1;rfl;rfl;assumption;rfl;exact u4 (by first | exact rfl | assumption | exact j0 (by assumption)))|(apply q6 (hc:=h95);rfl;rfl;rfl)|(apply q6 (hc:=h64);rfl;rfl;rfl)|(apply q6 (hc:=w1);rfl;rfl;rfl)|(apply w8;focus (repeat (first | exact q8 | (apply v6;rfl) | (apply y6;rfl))))|apply j1|apply j3|apply j4|apply v8|apply w9|(apply v7;rfl)|(apply x8;rfl;(with_reducible rfl))|(apply y7;rfl)|(with_reducible apply u7;intro hc;try (exfalso;omega))|(with_reducible apply g8;intro hc;try (exfalso;omega))|(with_reducible apply x6;intro hc;try (exfalso;omega))|(with_reducible apply x5;intro hc;try (exfalso;omega))|(apply c8;rfl)
 try any_goals (exfalso;omega)
 try any_goals (exfalso;contradiction)
 all_goals first | rfl | trace_state
theorem qh8 {s T:List UInt8} {i n:Nat} {c:UInt8} (hl:s.length<2^30) (hc:s[i]?=some c) (hi:i<s.length) (hn:n<=s.length) (h95:Rets Vv 95 [.c (.str s),.c (.int .i64 i)] (.c (.int .i64 n))) (w1:Rets Vv 70 [.c (.str s),.c (.int .i64 i),.c (.int .i64 i),.c (.int .i64 n)] (.c (unC (l9 i [] T n)))) (hu:upperB c=true) (hn1:n+1<s.length) {f:UInt8} (hd:s[n]?=some 46) (hd1:s[n+1]?=some f) (hul:(upperB f||lowerB f)=true) {T2:List UInt8} {m:Nat} (hm:m<=s.length) (hS2:P8 s ((n:Int)+1) (m:Int) T2) (h82:Rets Vv 82 [.c (.str T2)] (.c (.int .i64 (L6 T2)))) (h95b:Rets Vv 95 [.c (.str s),.c (.int .i64 (n+1:Nat))] (.c (.int .i64 m))) (h5:(L6 T2:Int)=5):Rets Vv 65 [.c (.str s),.c (.int .i64 i)] (.c (unC (l9 i [] T n))):=by
 refine m7 jO ?_;have f1:=K5 (l9 i [] T n);have h64:=H6 c;have h63:=P5 f;have h64f:=H6 f;have h66:=V5 f;rw [hu] at h64;have hsf:u6 f=false:=by
  rw [<-Bool.not_eq_true];intro h;have:=nO h;simp [upperB,lowerB] at hul;omega
 rw [hsf] at h66;cases huf:upperB f<;>cases hlf:lowerB f<;>rw [huf] at h64f<;>rw [hlf] at h63
 . rw [huf,hlf] at hul;cases hul
 all_goals
  repeat' first|apply j2|exact q7|exact j8 rfl|(apply j7;rfl;rfl)|(apply b6;rfl;rfl;omega)|(apply j9;rfl;rfl;rfl)|(apply u5;rfl)|(apply y9;rfl;(with_reducible rfl);rfl)|(apply y0;rfl;(with_reducible rfl);rfl)|(apply x7;rfl;rfl;rfl;assumption)|(apply m8;rfl;rfl;first | exact c6 (by first | exact rfl | assumption | exact j0 (by assumption)) | exact m9 (by first | exact rfl | assumption | exact j0 (by assumption)))|(apply u1;rfl;rfl;assumption;rfl;exact u4 (by first | exact rfl | assumption | exact j0 (by assumption)))|(apply W5;rfl;rfl;rfl;assumption)|(apply q6 (hc:=h95);rfl;rfl;rfl)|(apply q6 (hc:=h64);rfl;rfl;rfl)|(apply q6 (hc:=h63);rfl;rfl;rfl)|(apply q6 (hc:=h64f);rfl;rfl;rfl)|(apply q6 (hc:=h66);rfl;rfl;rfl)|(apply q6 (hc:=h95b);rfl;rfl;rfl)|(apply q6 (hc:=h82);rfl;rfl;rfl)|(apply q6 (hc:=w1);rfl;rfl;rfl)|(apply w8;focus (repeat (first | exact q8 | (apply v6;rfl) | (apply y6;rfl))))|apply j1|apply j3|apply j4|apply v8|apply w9|(apply m5;rfl;(with_reducible rfl))|(apply g9;rfl;(with_reducible rfl))|(apply v7;rfl)|(apply x8;rfl;(with_reducible rfl))|(apply l4;rfl;(with_reducible rfl))|(apply y7;rfl)|(with_reducible apply u7;intro hc;try (exfalso;omega))|(with_reducible apply g8;intro hc;try (exfalso;omega))|(with_reducible apply f5;intro hc;try (exfalso;omega))|(with_reducible apply f6;intro hc;try (exfalso;omega))|(with_reducible apply x6;intro hc;try (exfalso;omega))|(with_reducible apply x5;intro hc;try (exfalso;omega))|(apply c8;rfl)
  try any_goals (exfalso;omega)
  try any_goals (exfalso;contradiction)
  all_goals first | rfl | trace_state
theorem j28 {s T:List UInt8} {i n:Nat} {c:UInt8} (hl:s.length<2^30) (hc:s[i]?=some c) (hi:i<s.length) (hn:n<=s.length) (h95:Rets Vv 95 [.c (.str s),.c (.int .i64 i)] (.c (.int .i64 n))) (w1:Rets Vv 70 [.c (.str s),.c (.int .i64 i),.c (.int .i64 i),.c (.int .i64 n)] (.c (unC (l9 i [] T n)))) (hu:upperB c=true) (hn1:n+1<s.length) {f:UInt8} (hd:s[n]?=some 46) (hd1:s[n+1]?=some f) (hul:(upperB f||lowerB f)=true) {T2:List UInt8} {m:Nat} (hm:m<=s.length) (hS2:P8 s ((n:Int)+1) (m:Int) T2) (h82:Rets Vv 82 [.c (.str T2)] (.c (.int .i64 (L6 T2)))) (h95b:Rets Vv 95 [.c (.str s),.c (.int .i64 (n+1:Nat))] (.c (.int .i64 m))) (h5:¬ (L6 T2:Int)=5) (w2:Rets Vv 70 [.c (.str s),.c (.int .i64 i),.c (.int .i64 (n+1:Nat)),.c (.int .i64 m)] (.c (unC (l9 i T T2 m)))):Rets Vv 65 [.c (.str s),.c (.int .i64 i)] (.c (unC (l9 i T T2 m))):=by
 refine m7 jO ?_;have f1:=K5 (l9 i [] T n);have h64:=H6 c;have h63:=P5 f;have h64f:=H6 f;have h66:=V5 f;rw [hu] at h64;have hsf:u6 f=false:=by
  rw [<-Bool.not_eq_true];intro h;have:=nO h;simp [upperB,lowerB] at hul;omega
 rw [hsf] at h66;have f2:=K5 (l9 i T T2 m);cases huf:upperB f<;>cases hlf:lowerB f<;>rw [huf] at h64f<;>rw [hlf] at h63
 . rw [huf,hlf] at hul;cases hul
 all_goals
  repeat' first|apply j2|exact q7|exact j8 rfl|(apply j7;rfl;rfl)|(apply b6;rfl;rfl;omega)|(apply j9;rfl;rfl;rfl)|(apply u5;rfl)|(apply y9;rfl;(with_reducible rfl);rfl)|(apply y0;rfl;(with_reducible rfl);rfl)|(apply x7;rfl;rfl;rfl;assumption)|(apply m8;rfl;rfl;first | exact c6 (by first | exact rfl | assumption | exact j0 (by assumption)) | exact m9 (by first | exact rfl | assumption | exact j0 (by assumption)))|(apply u1;rfl;rfl;assumption;rfl;exact u4 (by first | exact rfl | assumption | exact j0 (by assumption)))|(apply W5;rfl;rfl;rfl;assumption)|(apply q6 (hc:=h95);rfl;rfl;rfl)|(apply q6 (hc:=h64);rfl;rfl;rfl)|(apply q6 (hc:=h63);rfl;rfl;rfl)|(apply q6 (hc:=h64f);rfl;rfl;rfl)|(apply q6 (hc:=h95b);rfl;rfl;rfl)|(apply q6 (hc:=h82);rfl;rfl;rfl)|(apply q6 (hc:=w2);rfl;rfl;rfl)|(apply w8;focus (repeat (first | exact q8 | (apply v6;rfl) | (apply y6;rfl))))|apply j1|apply j3|apply j4|apply v8|apply w9|(apply m5;rfl;(with_reducible rfl))|(apply v7;rfl)|(apply x8;rfl;(with_reducible rfl))|(apply l4;rfl;(with_reducible rfl))|(apply y7;rfl)|(with_reducible apply u7;intro hc;try (exfalso;omega))|(with_reducible apply g8;intro hc;try (exfalso;omega))|(with_reducible apply f5;intro hc;try (exfalso;omega))|(with_reducible apply f6;intro hc;try (exfalso;omega))|(with_reducible apply x6;intro hc;try (exfalso;omega))|(with_reducible apply x5;intro hc;try (exfalso;omega))|(apply c8;rfl)
  try any_goals (exfalso;omega)
  try any_goals (exfalso;contradiction)
  all_goals first | rfl | trace_state
theorem qr7 {s T:List UInt8} {i n:Nat} {c:UInt8} (hl:s.length<2^30) (hc:s[i]?=some c) (hi:i<s.length) (hn:n<=s.length) (h95:Rets Vv 95 [.c (.str s),.c (.int .i64 i)] (.c (.int .i64 n))) (w1:Rets Vv 70 [.c (.str s),.c (.int .i64 i),.c (.int .i64 i),.c (.int .i64 n)] (.c (unC (l9 i [] T n)))) (hu:upperB c=true) (hn1:n+1<s.length) {f:UInt8} (hd:s[n]?=some 46) (hd1:s[n+1]?=some f) (hul:¬ (upperB f||lowerB f)=true) (hsf:u6 f=false):Rets Vv 65 [.c (.str s),.c (.int .i64 i)] (.c (unC (l9 i [] T n))):=by
 refine m7 jO ?_;have f1:=K5 (l9 i [] T n);have h64:=H6 c;have h63:=P5 f;have h64f:=H6 f;have h66:=V5 f;rw [hu] at h64;have huf:upperB f=false:=by rw [<-Bool.not_eq_true];intro h;exact hul (by rw [h];rfl)
 have hlf:lowerB f=false:=by rw [<-Bool.not_eq_true];intro h;exact hul (by rw [h];simp)
 rw [huf] at h64f;rw [hlf] at h63;rw [hsf] at h66;repeat' first|apply j2|exact q7|(apply j7;rfl;rfl)|(apply b6;rfl;rfl;omega)|(apply j9;rfl;rfl;rfl)|(apply u5;rfl)|(apply y9;rfl;(with_reducible rfl);rfl)|(apply y0;rfl;(with_reducible rfl);rfl)|(apply x7;rfl;rfl;rfl;assumption)|(apply m8;rfl;rfl;first | exact c6 (by first | exact rfl | assumption | exact j0 (by assumption)) | exact m9 (by first | exact rfl | assumption | exact j0 (by assumption)))|(apply u1;rfl;rfl;assumption;rfl;exact u4 (by first | exact rfl | assumption | exact j0 (by assumption)))|(apply q6 (hc:=h95);rfl;rfl;rfl)|(apply q6 (hc:=h64);rfl;rfl;rfl)|(apply q6 (hc:=h63);rfl;rfl;rfl)|(apply q6 (hc:=h64f);rfl;rfl;rfl)|(apply q6 (hc:=h66);rfl;rfl;rfl)|(apply q6 (hc:=w1);rfl;rfl;rfl)|(apply w8;focus (repeat (first | exact q8 | (apply v6;rfl) | (apply y6;rfl))))|apply j1|apply j3|apply j4|apply v8|apply w9|(apply g9;rfl;(with_reducible rfl))|(apply v7;rfl)|(apply x8;rfl;(with_reducible rfl))|(apply y7;rfl)|(with_reducible apply u7;intro hc;try (exfalso;omega))|(with_reducible apply g8;intro hc;try (exfalso;omega))|(with_reducible apply x6;intro hc;try (exfalso;omega))|(with_reducible apply x5;intro hc;try (exfalso;omega))|(apply c8;rfl)
 try any_goals (exfalso;omega)
 try any_goals (exfalso;contradiction)
 all_goals first | rfl | trace_state
theorem qo6 {s T:List UInt8} {i n:Nat} {c:UInt8} (hl:s.length<2^30) (hc:s[i]?=some c) (hi:i<s.length) (hn:n<=s.length) (h95:Rets Vv 95 [.c (.str s),.c (.int .i64 i)] (.c (.int .i64 n))) (w1:Rets Vv 70 [.c (.str s),.c (.int .i64 i),.c (.int .i64 i),.c (.int .i64 n)] (.c (unC (l9 i [] T n)))) (hu:upperB c=true) (hn1:n+1<s.length) {f:UInt8} (hd:s[n]?=some 46) (hd1:s[n+1]?=some f) (hul:¬ (upperB f||lowerB f)=true) (hsf:u6 f=true) {T2:List UInt8} {m:Nat} (hm:m<=s.length) (hS2:P8 s ((n:Int)+1) (m:Int) T2) (h82:Rets Vv 82 [.c (.str T2)] (.c (.int .i64 (L6 T2)))) (h67:Rets Vv 67 [.c (.str s),.c (.int .i64 (n+1:Nat))] (.c (.int .i64 m))) (h6:(L6 T2:Int)=6):Rets Vv 65 [.c (.str s),.c (.int .i64 i)] (.c (unC (l9 i [] T n))):=by
 refine m7 jO ?_;have f1:=K5 (l9 i [] T n);have h64:=H6 c;have h63:=P5 f;have h64f:=H6 f;have h66:=V5 f;rw [hu] at h64;have huf:upperB f=false:=by rw [<-Bool.not_eq_true];intro h;exact hul (by rw [h];rfl)
 have hlf:lowerB f=false:=by rw [<-Bool.not_eq_true];intro h;exact hul (by rw [h];simp)
 rw [huf] at h64f;rw [hlf] at h63;rw [hsf] at h66;repeat' first|apply j2|exact q7|exact j8 rfl|(apply j7;rfl;rfl)|(apply b6;rfl;rfl;omega)|(apply j9;rfl;rfl;rfl)|(apply u5;rfl)|(apply y9;rfl;(with_reducible rfl);rfl)|(apply y0;rfl;(with_reducible rfl);rfl)|(apply x7;rfl;rfl;rfl;assumption)|(apply m8;rfl;rfl;first | exact c6 (by first | exact rfl | assumption | exact j0 (by assumption)) | exact m9 (by first | exact rfl | assumption | exact j0 (by assumption)))|(apply u1;rfl;rfl;assumption;rfl;exact u4 (by first | exact rfl | assumption | exact j0 (by assumption)))|(apply W5;rfl;rfl;rfl;assumption)|(apply q6 (hc:=h95);rfl;rfl;rfl)|(apply q6 (hc:=h64);rfl;rfl;rfl)|(apply q6 (hc:=h63);rfl;rfl;rfl)|(apply q6 (hc:=h64f);rfl;rfl;rfl)|(apply q6 (hc:=h66);rfl;rfl;rfl)|(apply q6 (hc:=h67);rfl;rfl;rfl)|(apply q6 (hc:=h82);rfl;rfl;rfl)|(apply q6 (hc:=w1);rfl;rfl;rfl)|(apply w8;focus (repeat (first | exact q8 | (apply v6;rfl) | (apply y6;rfl))))|apply j1|apply j3|apply j4|apply v8|apply w9|(apply m5;rfl;(with_reducible rfl))|(apply g9;rfl;(with_reducible rfl))|(apply v7;rfl)|(apply x8;rfl;(with_reducible rfl))|(apply b9;rfl;(with_reducible rfl))|(apply y7;rfl)|(with_reducible apply u7;intro hc;try (exfalso;omega))|(with_reducible apply g8;intro hc;try (exfalso;omega))|(with_reducible apply f5;intro hc;try (exfalso;omega))|(with_reducible apply f6;intro hc;try (exfalso;omega))|(with_reducible apply x6;intro hc;try (exfalso;omega))|(with_reducible apply x5;intro hc;try (exfalso;omega))|(apply c8;rfl)
 try any_goals (exfalso;omega)
 try any_goals (exfalso;contradiction)
 all_goals first | rfl | trace_state
theorem qk9 {s T:List UInt8} {i n:Nat} {c:UInt8} (hl:s.length<2^30) (hc:s[i]?=some c) (hi:i<s.length) (hn:n<=s.length) (h95:Rets Vv 95 [.c (.str s),.c (.int .i64 i)] (.c (.int .i64 n))) (w1:Rets Vv 70 [.c (.str s),.c (.int .i64 i),.c (.int .i64 i),.c (.int .i64 n)] (.c (unC (l9 i [] T n)))) (hu:upperB c=true) (hn1:n+1<s.length) {f:UInt8} (hd:s[n]?=some 46) (hd1:s[n+1]?=some f) (hul:¬ (upperB f||lowerB f)=true) (hsf:u6 f=true) {T2:List UInt8} {m:Nat} (hm:m<=s.length) (hS2:P8 s ((n:Int)+1) (m:Int) T2) (h82:Rets Vv 82 [.c (.str T2)] (.c (.int .i64 (L6 T2)))) (h67:Rets Vv 67 [.c (.str s),.c (.int .i64 (n+1:Nat))] (.c (.int .i64 m))) (h6:¬ (L6 T2:Int)=6) (h68:Rets Vv 68 [.c (.str T2)] (.c (.bool true))):Rets Vv 65 [.c (.str s),.c (.int .i64 i)] (.c (unC (l9 i [] T n))):=by
 refine m7 jO ?_;have f1:=K5 (l9 i [] T n);have h64:=H6 c;have h63:=P5 f;have h64f:=H6 f;have h66:=V5 f;rw [hu] at h64;have huf:upperB f=false:=by rw [<-Bool.not_eq_true];intro h;exact hul (by rw [h];rfl)
 have hlf:lowerB f=false:=by rw [<-Bool.not_eq_true];intro h;exact hul (by rw [h];simp)
 rw [huf] at h64f;rw [hlf] at h63;rw [hsf] at h66;repeat' first|apply j2|exact q7|(apply j7;rfl;rfl)|(apply b6;rfl;rfl;omega)|(apply j9;rfl;rfl;rfl)|(apply u5;rfl)|(apply s6;rfl;rfl)|(apply y9;rfl;(with_reducible rfl);rfl)|(apply y0;rfl;(with_reducible rfl);rfl)|(apply x7;rfl;rfl;rfl;assumption)|(apply m8;rfl;rfl;first | exact c6 (by first | exact rfl | assumption | exact j0 (by assumption)) | exact m9 (by first | exact rfl | assumption | exact j0 (by assumption)))|(apply u1;rfl;rfl;assumption;rfl;exact u4 (by first | exact rfl | assumption | exact j0 (by assumption)))|(apply W5;rfl;rfl;rfl;assumption)|(apply q6 (hc:=h95);rfl;rfl;rfl)|(apply q6 (hc:=h64);rfl;rfl;rfl)|(apply q6 (hc:=h63);rfl;rfl;rfl)|(apply q6 (hc:=h64f);rfl;rfl;rfl)|(apply q6 (hc:=h66);rfl;rfl;rfl)|(apply q6 (hc:=h67);rfl;rfl;rfl)|(apply q6 (hc:=h82);rfl;rfl;rfl)|(apply q6 (hc:=h68);rfl;rfl;rfl)|(apply q6 (hc:=w1);rfl;rfl;rfl)|(apply w8;focus (repeat (first | exact q8 | (apply v6;rfl) | (apply y6;rfl))))|apply j1|apply j3|apply j4|apply v8|apply w9|(apply m5;rfl;(with_reducible rfl))|(apply g9;rfl;(with_reducible rfl))|(apply v7;rfl)|(apply x8;rfl;(with_reducible rfl))|(apply y7;rfl)|(with_reducible first|exact C2|apply C3|apply s4|apply s5)|(with_reducible apply u7;intro hc;try (exfalso;omega))|(with_reducible apply g8;intro hc;try (exfalso;omega))|(with_reducible apply f5;intro hc;try (exfalso;omega))|(with_reducible apply f6;intro hc;try (exfalso;omega))|(with_reducible apply x6;intro hc;try (exfalso;omega))|(with_reducible apply x5;intro hc;try (exfalso;omega))|(apply c8;rfl)
 try any_goals (exfalso;omega)
 try any_goals (exfalso;contradiction)
 all_goals first | rfl | trace_state
theorem qq2 {s T:List UInt8} {i n:Nat} {c:UInt8} (hl:s.length<2^30) (hc:s[i]?=some c) (hi:i<s.length) (hn:n<=s.length) (h95:Rets Vv 95 [.c (.str s),.c (.int .i64 i)] (.c (.int .i64 n))) (w1:Rets Vv 70 [.c (.str s),.c (.int .i64 i),.c (.int .i64 i),.c (.int .i64 n)] (.c (unC (l9 i [] T n)))) (hu:upperB c=true) (hn1:n+1<s.length) {f:UInt8} (hd:s[n]?=some 46) (hd1:s[n+1]?=some f) (hul:¬ (upperB f||lowerB f)=true) (hsf:u6 f=true) {T2:List UInt8} {m:Nat} (hm:m<=s.length) (hS2:P8 s ((n:Int)+1) (m:Int) T2) (h82:Rets Vv 82 [.c (.str T2)] (.c (.int .i64 (L6 T2)))) (h67:Rets Vv 67 [.c (.str s),.c (.int .i64 (n+1:Nat))] (.c (.int .i64 m))) (h6:¬ (L6 T2:Int)=6) (h68:Rets Vv 68 [.c (.str T2)] (.c (.bool false))) (w2:Rets Vv 70 [.c (.str s),.c (.int .i64 i),.c (.int .i64 (n+1:Nat)),.c (.int .i64 m)] (.c (unC (l9 i T T2 m)))):Rets Vv 65 [.c (.str s),.c (.int .i64 i)] (.c (unC (l9 i T T2 m))):=by
 refine m7 jO ?_;have f1:=K5 (l9 i [] T n);have h64:=H6 c;have h63:=P5 f;have h64f:=H6 f;have h66:=V5 f;rw [hu] at h64;have huf:upperB f=false:=by rw [<-Bool.not_eq_true];intro h;exact hul (by rw [h];rfl)
 have hlf:lowerB f=false:=by rw [<-Bool.not_eq_true];intro h;exact hul (by rw [h];simp)
 rw [huf] at h64f;rw [hlf] at h63;have f2:=K5 (l9 i T T2 m);rw [hsf] at h66;repeat' first|apply j2|exact q7|(apply j7;rfl;rfl)|(apply b6;rfl;rfl;omega)|(apply j9;rfl;rfl;rfl)|(apply u5;rfl)|(apply s6;rfl;rfl)|(apply y9;rfl;(with_reducible rfl);rfl)|(apply y0;rfl;(with_reducible rfl);rfl)|(apply x7;rfl;rfl;rfl;assumption)|(apply m8;rfl;rfl;first | exact c6 (by first | exact rfl | assumption | exact j0 (by assumption)) | exact m9 (by first | exact rfl | assumption | exact j0 (by assumption)))|(apply u1;rfl;rfl;assumption;rfl;exact u4 (by first | exact rfl | assumption | exact j0 (by assumption)))|(apply W5;rfl;rfl;rfl;assumption)|(apply q6 (hc:=h95);rfl;rfl;rfl)|(apply q6 (hc:=h64);rfl;rfl;rfl)|(apply q6 (hc:=h63);rfl;rfl;rfl)|(apply q6 (hc:=h64f);rfl;rfl;rfl)|(apply q6 (hc:=h66);rfl;rfl;rfl)|(apply q6 (hc:=h67);rfl;rfl;rfl)|(apply q6 (hc:=h82);rfl;rfl;rfl)|(apply q6 (hc:=h68);rfl;rfl;rfl)|(apply q6 (hc:=w2);rfl;rfl;rfl)|(apply w8;focus (repeat (first | exact q8 | (apply v6;rfl) | (apply y6;rfl))))|apply j1|apply j3|apply j4|apply v8|apply w9|(apply m5;rfl;(with_reducible rfl))|(apply g9;rfl;(with_reducible rfl))|(apply v7;rfl)|(apply x8;rfl;(with_reducible rfl))|(apply y7;rfl)|(with_reducible first|exact G1|apply F9|apply s4|apply s5)|(with_reducible apply u7;intro hc;try (exfalso;omega))|(with_reducible apply g8;intro hc;try (exfalso;omega))|(with_reducible apply f5;intro hc;try (exfalso;omega))|(with_reducible apply f6;intro hc;try (exfalso;omega))|(with_reducible apply x6;intro hc;try (exfalso;omega))|(with_reducible apply x5;intro hc;try (exfalso;omega))|(apply c8;rfl)
 try any_goals (exfalso;omega)
 try any_goals (exfalso;contradiction)
 all_goals first | rfl | trace_state
end Go.Proofs.TryzL
