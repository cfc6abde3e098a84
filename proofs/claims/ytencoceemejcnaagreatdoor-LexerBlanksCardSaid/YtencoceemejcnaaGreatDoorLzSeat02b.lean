/- Chapter 02: the row and the card about blanks. Blanks and comments between tokens do not change them (at most 100 tokens with at most 300 bytes each, and a blank of at most 100 bytes). -/
import Derived.Test.YtencoceemejcnaaGreatDoorLzT55
import Derived.Test.YtencoceemejcnaaGreatDoorLzT60
import Derived.Test.YtencoceemejcnaaGreatDoorLzT33
set_option linter.unusedSimpArgs false
set_option linter.unusedVariables false
namespace Go.Proofs.TryzL
open Go.Proofs.Lz
set_option maxHeartbeats 4000000
theorem zt3 {s:List UInt8} {i j code p:Nat} (h:zg0 s i j=some (code,p)):code≠0:=by
 unfold zg0 at h
 split at h
 · injection h with h;injection h with h _;omega
 · split at h
   · injection h with h;injection h with h _;omega
   · split at h
     · injection h with h;injection h with h _;omega
     · cases h
theorem jm7 {s:List UInt8} {i:Nat}:∀ n v k code p,hexS s i n v k=.bad code p→code≠0:=by
 intro n
 induction n with
 | zero=>intro v k code p h;cases h
 | succ n ih=>
   intro v k code p h
   rw [hexS] at h
   split at h
   · rename_i h1
     injection h with h _
     subst h
     exact zt3 h1
   · split at h
     · injection h with h _;omega
     · exact ih _ _ _ _ h
theorem jm0 {s:List UInt8} {i k code p:Nat} {c:UInt8} (h:zm5 s i c k=.bad code p):code≠0:=by
 unfold zm5 at h
 split at h
 · cases h
 · split at h
   · rename_i h1
     injection h with h _
     subst h
     exact zt3 h1
   · dsimp only at h
     split at h
     · cases h
     · split at h
       · cases h
       · split at h
         · cases h
         · split at h
           · exact jm7 _ _ _ _ _ h
           · injection h with h _;omega
theorem ju2 {s:List UInt8} {i:Nat} {m:UInt8}:∀ n t j code p,s.length+1 - j≤n→litS s i m t j=.bad code p→code≠0:=by
 intro n
 induction n with
 | zero=>
   intro t j code p hn h
   have hs:zg0 s i j=some (7,i):=by unfold zg0;rw [List.getElem?_eq_none (by omega)]
   rw [litS] at h
   split at h
   · rename_i h1
     injection h with h _
     subst h
     exact zt3 h1
   · rename_i h1
     rw [hs] at h1
     cases h1
 | succ n ih=>
   intro t j code p hn h
   rw [litS] at h
   split at h
   · rename_i h1
     injection h with h _
     subst h
     exact zt3 h1
   · split at h
     · cases h
     · split at h
       · injection h with h _;omega
       · split at h
         · rename_i h1
           injection h with h _
           subst h
           exact jm0 h1
         · rename_i b e h1
           split at h
           · injection h with h _;omega
           · exact ih _ _ _ _ (by have:=qg8 h1;omega) h
theorem jo5 {s:List UInt8} {i:Nat} {c:UInt8} {code p:Nat} {nm:List UInt8} (h:z69 s i c=.bad code p nm):code≠0:=by
 have wu:∀ {q t e},zj1 i q t e=.bad code p nm→code≠0:=by
  intro q t e h
  unfold zj1 at h
  split at h
  · injection h with h _ _;omega
  · split at h
    · injection h with h _ _;omega
    · cases h
 unfold z69 at h
 split at h
 · unfold zr0 at h
   dsimp only at h
   split at h<;>exact wu h
 · split at h
   · unfold numU at h
     split at h
     · injection h with h _ _;omega
     · cases h
   · split at h
     · unfold litU quoU at h
       split at h
       · rename_i h1
         injection h with h _ _
         subst h
         exact ju2 _ _ _ _ _ (Nat.le_refl _) h1
       · split at h
         · split at h
           · injection h with h _ _;omega
           · cases h
         · cases h
     · split at h
       · exact wu h
       · split at h
         · cases h
         · injection h with h _ _;omega
theorem jr6 (s:List UInt8):∀ n i acc code nm l c,s.length - i≤n→lexU s i acc=.bad code nm l c→code≠0:=by
 intro n
 induction n with
 | zero=>
   intro i acc code nm l c hn h
   rw [q45 (by omega)] at h
   cases h
 | succ n ih=>
   intro i acc code nm l c hn h
   by_cases hi:i<s.length
   · rw [lexU,dif_pos hi] at h
     split at h
     · split at h
       · exact ih _ _ _ _ _ _ (by omega) h
       · cases h
     · rename_i h1
       injection h with h _ _ _
       subst h
       exact q79 h1
     · cases h
     · split at h
       · rename_i h1
         injection h with h _ _ _
         subst h
         exact jo5 h1
       · cases h
       · split at h
         · injection h with h _ _ _;omega
         · split at h
           · exact ih _ _ _ _ _ _ (by omega) h
           · cases h
   · rw [q45 hi] at h
     cases h
theorem j63 {s nm:List UInt8} {code l c:Nat} (h:zq7 s=.bad code nm l c):code≠0:=by
 unfold zq7 at h
 split at h
 · injection h with h _ _ _;omega
 · exact jr6 s _ _ _ _ _ _ _ (Nat.le_refl _) h
end Go.Proofs.TryzL
namespace Go.Proofs.TryzL
set_option maxHeartbeats 4000000
theorem wx1 {p:UInt8→Bool} (hp:p 10=false) (z:List UInt8):∀ l:List UInt8,(l++10::z).takeWhile p=l.takeWhile p:=by
 intro l
 induction l with
 | nil=>simp [List.takeWhile_cons,hp]
 | cons c r ih=>
   simp only [List.cons_append,List.takeWhile_cons]
   rw [ih]
theorem j26 {a b:UInt8} (ha:a≠10) (hb:b≠10) (z l:List UInt8):[a,b].isPrefixOf (l++10::z)=[a,b].isPrefixOf l:=by
 have ha':(a==10)=false:=by simpa using ha
 have hb':(b==10)=false:=by simpa using hb
 cases l with
 | nil=>simp [List.isPrefixOf,ha']
 | cons c r=>
   cases r with
   | nil=>simp [List.isPrefixOf,hb']
   | cons d r=>simp [List.isPrefixOf]
theorem qa8 {s b z:List UInt8} {i:Nat} (hs:s.drop i=b++10::z) {j:Nat} (hj:j≤b.length):s.drop (i+j)=b.drop j++10::z:=by
 rw [← List.drop_drop,hs,List.drop_append_of_le_length hj]
theorem wg6 {s b z:List UInt8} {i:Nat} (hs:s.drop i=b++10::z) {j:Nat} (hj:j<b.length):s.getD (i+j) 0=b.getD j 0∧i+j<s.length:=by
 have h:=qa8 hs (j:=j) (by omega)
 rw [List.drop_eq_getElem_cons hj] at h
 have hg:=zd8 (w:=b.drop (j+1)++10::z) h
 refine ⟨?_,(List.getElem?_eq_some_iff.1 hg).1⟩
 simp [List.getD,hg,List.getElem?_eq_getElem hj]
theorem ws8 {s b z:List UInt8} {i:Nat} (hs:s.drop i=b++10::z):∀ n j e,b.length - j≤n→j≤b.length→lineS b j=.ok e→lineS s (i+j)=.ok (i+e):=by
 intro n
 induction n with
 | zero=>
   intro j e hn hj h
   rw [lineS,dif_pos (by omega)] at h
   injection h with h
   subst h
   have hd:=qa8 hs hj
   rw [show b.drop j=[] from List.drop_eq_nil_of_le (by omega)] at hd
   have hg:=zd8 (w:=z) hd
   rw [lineS,dif_neg (by have:=(List.getElem?_eq_some_iff.1 hg).1;omega),if_pos (by simp [List.getD,hg])]
 | succ n ih=>
   intro j e hn hj h
   by_cases hlt:j<b.length
   · obtain ⟨g1,g2⟩:=wg6 hs hlt
     rw [lineS,dif_neg (by omega)] at h
     rw [lineS,dif_neg (by omega),g1]
     split at h
     · injection h with h
       subst h
       rename_i h10
       rw [if_pos h10]
     · rename_i h10
       rw [if_neg h10]
       split at h
       · cases h
       · rename_i hk
         rw [if_neg hk]
         exact ih (j+1) e (by omega) (by omega) h
   · have:=ih j e (by omega) hj h
     exact this
theorem wv8 {s b z:List UInt8} {i k:Nat} (hs:s.drop i=b++10::z):∀ n (d:Int) j e,b.length - j≤n→cmtS b k d j=.ok e→cmtS s (i+k) d (i+j)=.ok (i+e):=by
 intro n
 induction n with
 | zero=>
   intro d j e hn h
   rw [cmtS,dif_pos (by omega)] at h
   cases h
 | succ n ih=>
   intro d j e hn h
   by_cases hlt:j<b.length
   · obtain ⟨g1,g2⟩:=wg6 hs hlt
     have hd:=qa8 hs (j:=j) (by omega)
     rw [cmtS,dif_neg (by omega)] at h
     rw [cmtS,dif_neg (by omega),hd,j26 (by decide) (by decide),j26 (by decide) (by decide),g1]
     split at h
     · rename_i h1
       rw [if_pos h1]
       exact ih (d+1) (j+2) e (by omega) h
     · rename_i h1
       rw [if_neg h1]
       split at h
       · rename_i h2
         rw [if_pos h2]
         split at h
         · rename_i h3
           injection h with h
           subst h
           rw [if_pos h3]
           rfl
         · rename_i h3
           rw [if_neg h3]
           exact ih (d - 1) (j+2) e (by omega) h
       · rename_i h2
         rw [if_neg h2]
         split at h
         · cases h
         · rename_i h3
           rw [if_neg h3]
           exact ih d (j+1) e (by omega) h
   · rw [cmtS,dif_pos (by omega)] at h
     cases h
theorem j18 {r:KR} {e:Nat} (h:cmtU r=.skip e):r=.ok e:=by
 cases r with
 | bad a b=>cases h
 | ok e'=>injection h with h;subst h;rfl
theorem we2 {s b z:List UInt8} {i k e:Nat} {c:UInt8} (hs:s.drop i=b++10::z) (hc:b[k]?=some c) (h:z98 b k c=some (.skip e)):s[i+k]?=some c∧z98 s (i+k) c=some (.skip (i+e)):=by
 have hk:k<b.length:=(List.getElem?_eq_some_iff.1 hc).1
 have hck:b[k]=c:=(List.getElem?_eq_some_iff.1 hc).2
 have hd:=qa8 hs (j:=k) (by omega)
 have hd':=hd
 rw [List.drop_eq_getElem_cons hk,hck] at hd'
 refine ⟨zd8 (w:=b.drop (k+1)++10::z) hd',?_⟩
 have hsp:z83 symB s (i+k)=z83 symB b k:=by unfold z83;rw [hd,wx1 (by decide)]
 unfold z98 at h ⊢
 rw [hsp,hd,j26 (by decide) (by decide)]
 split at h
 · rename_i h1
   injection h with h
   injection h with h
   subst h
   rw [if_pos h1]
   rfl
 · rename_i h1
   rw [if_neg h1]
   split at h
   · rename_i h2
     injection h with h
     rw [if_pos h2,ws8 hs _ k e (Nat.le_refl _) (by omega) (j18 h)]
     rfl
   · rename_i h2
     rw [if_neg h2]
     split at h
     · rename_i h3
       injection h with h
       rw [if_pos h3,wv8 hs _ 0 k e (Nat.le_refl _) (j18 h)]
       rfl
     · cases h
theorem q91 {i e e':Nat} {q t:List UInt8}:zj1 i q t e≠.skip e':=by
 unfold zj1
 intro h
 split at h
 · cases h
 · split at h<;>cases h
theorem j68 {i e':Nat} {m:UInt8} {r:QR}:quoU i m r≠.skip e':=by
 cases r with
 | bad a b=>intro h;cases h
 | ok t e=>
   intro h
   unfold quoU at h
   dsimp only at h
   split at h
   · split at h<;>cases h
   · cases h
theorem qe5 {s:List UInt8} {i e:Nat} {c:UInt8}:z69 s i c≠.skip e:=by
 intro h
 unfold z69 at h
 split at h
 · unfold zr0 at h
   dsimp only at h
   split at h<;>exact q91 h
 · split at h
   · unfold numU at h
     split at h<;>cases h
   · split at h
     · exact j68 h
     · split at h
       · exact q91 h
       · split at h<;>cases h
theorem qk9 {r:KR} {op n:Int} {q t:List UInt8} {e:Nat}:cmtU r≠.tok op q t n e:=by
 cases r<;>intro h<;>cases h
theorem qh1 {s:List UInt8} {i e:Nat} {c:UInt8} {op n:Int} {q t:List UInt8}:z98 s i c≠some (.tok op q t n e):=by
 intro h
 unfold z98 at h
 split at h
 · cases h
 · split at h
   · injection h with h;exact qk9 h
   · split at h
     · injection h with h;exact qk9 h
     · cases h
theorem w32 (s:List UInt8):∀ n i acc l,s.length - i≤n→lexU s i acc=.ok l→acc <+: l:=by
 intro n
 induction n with
 | zero=>
   intro i acc l hn h
   rw [lexU,dif_neg (by omega)] at h
   injection h with h
   subst h
   exact List.prefix_refl _
 | succ n ih=>
   intro i acc l hn h
   by_cases hi:i<s.length
   · rw [lexU,dif_pos hi] at h
     have hc:s[i]?=some s[i]:=List.getElem?_eq_getElem hi
     generalize s[i]=c at hc h
     cases hb:z98 s i c with
     | some u=>
       rw [hb] at h
       cases u with
       | skip e=>
         have hl:=q20 hc hb
         dsimp only at h
         rw [dif_pos hl.1] at h
         exact ih e acc l (by omega) h
       | bad a b m=>cases h
       | tok a b c d e=>exact absurd hb qh1
     | none=>
       rw [hb] at h
       cases hu:z69 s i c with
       | skip e=>exact absurd hu qe5
       | bad a b m=>simp only [hu] at h;cases h
       | tok a b c' d e=>
         simp only [hu] at h
         split at h
         · cases h
         · rw [dif_pos (q88 hc hu).1] at h
           exact (List.prefix_append _ _).trans (ih e _ l (by have:=(q88 hc hu).1;omega) h)
   · rw [lexU,dif_neg hi] at h
     injection h with h
     subst h
     exact List.prefix_refl _
theorem wl1 {s b z:List UInt8} {i:Nat} {acc:List Tok} (hs:s.drop i=b++10::z):∀ n k,b.length - k≤n→k≤b.length→lexU b k []=.ok []→lexU s (i+k) acc=lexU s (i+b.length) acc:=by
 intro n
 induction n with
 | zero=>
   intro k hn hk h
   rw [show k=b.length by omega]
 | succ n ih=>
   intro k hn hk h
   by_cases hi:k<b.length
   · rw [lexU,dif_pos hi] at h
     have hc:b[k]?=some b[k]:=List.getElem?_eq_getElem hi
     generalize b[k]=c at hc h
     cases hb:z98 b k c with
     | some u=>
       rw [hb] at h
       cases u with
       | skip e=>
         have hl:=q20 hc hb
         dsimp only at h
         rw [dif_pos hl.1] at h
         obtain ⟨g1,g2⟩:=we2 hs hc hb
         obtain ⟨g3,g4⟩:=List.getElem?_eq_some_iff.1 g1
         rw [lexU,dif_pos g3]
         simp only [g4,g2]
         rw [dif_pos (by omega)]
         exact ih e (by omega) (by omega) h
       | bad a b m=>cases h
       | tok a b c d e=>exact absurd hb qh1
     | none=>
       rw [hb] at h
       cases hu:z69 b k c with
       | skip e=>exact absurd hu qe5
       | bad a b m=>simp only [hu] at h;cases h
       | tok a b' c' d e=>
         simp only [hu] at h
         split at h
         · cases h
         · rw [dif_pos (q88 hc hu).1] at h
           have:=w32 b _ _ _ _ (Nat.le_refl _) h
           simp at this
   · rw [show k=b.length by omega]
def blS (b:List UInt8) (l:List Tok):List UInt8:=l.flatMap fun t=>tokT t++(10::(b++[10]))
theorem wj4 {s b:List UInt8} (hb:lexU b 0 []=.ok []):∀ (l:List Tok) (i:Nat) (acc:List Tok),s.drop i=blS b l→l.all zw6=true→(∀ t∈l,t.n≤9223372036854775807)→acc.length+l.length≤16384→∃ l',lexU s i acc=.ok (acc++l')∧l'.map keyT=l.map keyT:=by
 intro l
 induction l with
 | nil=>
   intro i acc hs _ _ _
   refine ⟨[],?_,rfl⟩
   have:s.length≤i:=by simpa [blS] using hs
   rw [lexU,dif_neg (by omega)]
   simp
 | cons t r ih=>
   intro i acc hs hp hn ha
   simp only [List.all_cons,Bool.and_eq_true] at hp
   have hp1:zc5 t.op t.qual t.text t.n=true:=hp.1
   have hn1:=hn t (by simp)
   have h1:s.drop i=textS t.op t.qual t.text t.n++(10::(b++10::blS b r)):=by rw [hs];simp [blS,tokT]
   simp only [List.length_cons] at ha
   rw [w31 hp1 hn1 h1 (.inr ⟨_,.inr rfl⟩) (wx2 hp1 hn1) (by omega)]
   have h2:=zy0 h1
   rw [qn4 (b:=[10]) h2 (by intro x hx;simp at hx;exact .inr hx)]
   have h3:=zi3 h2
   have:=wl1 (acc:=acc++[⟨t.op,t.qual,t.text,t.n,false,(plc s i).1,(plc s i).2⟩]) h3 _ 0 (Nat.le_refl _) (by omega) hb
   rw [Nat.add_zero] at this
   show ∃ l',lexU s (i+(textS t.op t.qual t.text t.n).length+1) _=_∧_
   rw [this]
   have h4:=zy0 h3
   rw [qn4 (b:=[10]) (z:=blS b r) h4 (by intro x hx;simp at hx;exact .inr hx)]
   obtain ⟨l',e1,e2⟩:=ih _ (acc++[⟨t.op,t.qual,t.text,t.n,false,(plc s i).1,(plc s i).2⟩]) (zi3 h4) hp.2 (fun x hx=>hn x (by simp [hx])) (by simp;omega)
   refine ⟨⟨t.op,t.qual,t.text,t.n,false,(plc s i).1,(plc s i).2⟩::l',?_,?_⟩
   · rw [List.length_singleton,e1];simp
   · simp only [List.map_cons,e2];rfl
theorem wc6 (t:Tok) (h1:t.line=0) (h2:t.col=0):(q01 [t]).2=0→t.op=t.op∧zw6 t=true∧(q01 [t]).1=tokT t:=by
 intro h
 obtain ⟨g1,_,_,_⟩:=jd6 h
 refine ⟨rfl,by simpa using g1,?_⟩
 have e:zi0 t rs0=⟨tokT t,1,1+(tokT t).length,false⟩:=by
  have e1:rnl t rs0=rs0:=by unfold rnl nlK;rw [h1,if_pos (by decide)]
  have e2:rsp t rs0=rs0:=by unfold rsp;rw [h2,if_neg (by decide)];rfl
  unfold zi0
  rw [e1,e2]
  rfl
 unfold q01 at h ⊢
 have hl:¬ 16384<[t].length:=by simp
 rw [if_neg (by rw [g1];decide),if_neg hl] at h ⊢
 cases hr:rend [t] rs0 with
 | none=>rw [hr] at h;cases h
 | some o=>
   rw [rend,e] at hr
   split at hr
   · cases hr
   · injection hr with hr
     exact hr.symm
end Go.Proofs.TryzL
namespace Go.Proofs.TryzL
open Go.Proofs.Lz
set_option maxHeartbeats 4000000
def bare (t:Tok):Tok:=⟨t.op,t.qual,t.text,t.n,false,0,0⟩
theorem w71 {b:List UInt8} {l:List Tok} {n:Nat} (h:n<l.length):blS b (l.take (n+1))=blS b (l.take n)++(tokT l[n]++(10::(b++[10]))):=by
 unfold blS
 rw [List.take_add_one,List.flatMap_append,List.getElem?_eq_getElem h]
 simp
theorem jj5 (l:List Tok) (b:List UInt8) (hl:l.length≤9223372036854775807) (hb:b.length≤9223372036854775807) (h:fewB l=false∨100<l.length∨100<b.length):Rets Vv 9 [.c (tks l),.c (.str b)] (.c (.bool true)):=by
 refine z73 vfn9 ?_
 have h14:=wz9 l hl
 unfold tks at *
 cases hf:fewB l with
 | false=>
   rw [hf] at h14
   repeat' first|apply z01|exact z12|exact z19 rfl|(apply z15;rfl;rfl)|(apply z30;(iterate 3 rfl))|(apply zb8;rfl)|(apply z84;rfl;rfl)|(apply z17;rfl;(with_reducible rfl);rfl)|(apply z14;rfl;(with_reducible rfl);rfl)|(apply z07 (hc:=h14);rfl;rfl;rfl)|(apply z07 (hc:=zv1);rfl;rfl;rfl)|(apply z04;focus (repeat (exact z23)))|apply z02|apply z00|apply z03|apply z09|(apply z35;rfl;(with_reducible rfl))|(apply z48;rfl;(with_reducible rfl))|(apply z39;rfl;(with_reducible rfl))|(apply z38;rfl)|with_reducible exact zd9|with_reducible apply ze4|with_reducible apply z58|with_reducible apply z60|(with_reducible apply z67;intro hc)|(with_reducible apply z49;intro hc)|(apply z97;rfl)
   all_goals first | rfl | (exfalso;omega) | trace_state
 | true=>
   rw [hf] at h14 h
   have h:100<l.length∨100<b.length:=h.resolve_left (by decide)
   repeat' first|apply z01|exact z12|exact z19 rfl|(apply z15;rfl;rfl)|(apply z30;(iterate 3 rfl))|(apply zb8;rfl)|(apply z41;rfl)|(apply z84;rfl;rfl)|(apply z17;rfl;(with_reducible rfl);rfl)|(apply z14;rfl;(with_reducible rfl);rfl)|(apply z07 (hc:=h14);rfl;rfl;rfl)|(apply z07 (hc:=zv1);rfl;rfl;rfl)|(apply z04;focus (repeat (first | exact z23 | (apply kq_c;rfl))))|apply z02|apply z00|apply z03|apply z08|apply z09|(apply z35;rfl;(with_reducible rfl))|(apply z13;rfl)|(apply z48;rfl;(with_reducible rfl))|(apply z39;rfl;(with_reducible rfl))|(apply z38;rfl)|with_reducible exact zb1|with_reducible apply zb3|with_reducible apply z58|with_reducible apply z60|(with_reducible apply z67;intro hc)|(with_reducible apply z49;intro hc)|(apply z97;rfl)
   all_goals first | rfl | (exfalso;omega) | trace_state
def w66 (l:List Tok) (b:List UInt8) (n:Nat):List (Nat×WV):=[(0,.c (.frz (some 7) (l.map tokC))),(1,.c (.str b)),(7,.c (.str (blS b (l.take n)))),(42,.c (.frz (some 7) (l.map tokC))),(43,.c (.int .i64 l.length)),(44,.c (.int .i64 n))]
theorem law9 (l:List Tok) (b:List UInt8) (hl:l.length≤9223372036854775807) (hb:b.length≤9223372036854775807) (hk:∀ t∈l,TokI t):Rets Vv 9 [.c (tks l),.c (.str b)] (.c (.bool true)):=by
 by_cases h:fewB l=false∨100<l.length∨100<b.length
 · exact jj5 l b hl hb h
 simp only [not_or,Nat.not_lt,Bool.not_eq_false] at h
 obtain ⟨hf,hl1,hb1⟩:=h
 refine z73 vfn9 ?_
 have h14:=wz9 l hl
 rw [hf] at h14
 obtain ⟨h3,hkk⟩:=w77 hf hk
 have h11:=v01 b (by omega)
 unfold tks at *
 cases ha:zq7 b with
 | bad code nm ln c=>
   rw [ha] at h11
   unfold lexR fltC at h11
   have e0:([]:List CV).length=0:=rfl
   have ecd:=j63 ha
   repeat' first|apply z01|exact z12|exact z19 rfl|exact zb6 rfl|(apply z15;rfl;rfl)|(apply z43;(iterate 3 rfl))|(apply z30;(iterate 3 rfl))|(apply zb8;rfl)|(apply z41;rfl)|(apply q77;rfl)|(apply z84;rfl;rfl)|(apply z17;rfl;(with_reducible rfl);rfl)|(apply z14;rfl;(with_reducible rfl);rfl)|(apply z47;rfl;exact zb7 rfl)|(apply z57;(iterate 3 rfl))|(apply z81;rfl;rfl;first | exact z61 (by first | exact rfl | assumption | exact z05 (by assumption)) | exact z66 (by first | exact rfl | assumption | exact z05 (by assumption)))|(apply z25;(iterate 4 rfl);exact z34 (by first | exact rfl | assumption | exact z05 (by assumption)))|(apply z94;rfl;rfl)|(apply z07 (hc:=h14);rfl;rfl;rfl)|(apply z07 (hc:=h11);rfl;rfl;rfl)|(apply z07 (hc:=zv1);rfl;rfl;rfl)|(apply z04;focus (repeat (first | exact z23 | (apply kq_c;rfl))))|apply z02|apply z00|apply z03|apply z06|apply z08|apply z09|(apply z35;rfl;(with_reducible rfl))|(apply z13;rfl)|(apply z48;rfl;(with_reducible rfl))|(apply z39;rfl;(with_reducible rfl))|(apply z38;rfl)|with_reducible exact zb1|with_reducible apply zb3|with_reducible apply z58|with_reducible apply z60|(with_reducible apply zd3;intro hc)|(with_reducible apply za8;intro hc)|(with_reducible apply z67;intro hc)|(with_reducible apply z49;intro hc)|(apply z97;rfl)
   all_goals first | rfl | (exfalso;omega) | trace_state
 | ok toks=>
   rw [ha] at h11
   unfold lexR zF at h11
   cases toks with
   | cons t ts=>
     unfold tksF at h11
     have e1:(t::ts).length=ts.length+1:=rfl
     repeat' first|apply z01|exact z12|exact z19 rfl|exact zb6 rfl|(apply z15;rfl;rfl)|(apply z43;(iterate 3 rfl))|(apply z30;(iterate 3 rfl))|(apply zb8;rfl)|(apply z41;rfl)|(apply z84;rfl;rfl)|(apply z17;rfl;(with_reducible rfl);rfl)|(apply z14;rfl;(with_reducible rfl);rfl)|(apply z47;rfl;exact zb7 rfl)|(apply z57;(iterate 3 rfl))|(apply z81;rfl;rfl;first | exact z61 (by first | exact rfl | assumption | exact z05 (by assumption)) | exact z66 (by first | exact rfl | assumption | exact z05 (by assumption)))|(apply z25;(iterate 4 rfl);exact z34 (by first | exact rfl | assumption | exact z05 (by assumption)))|(apply z94;rfl;rfl)|(apply z07 (hc:=h14);rfl;rfl;rfl)|(apply z07 (hc:=h11);rfl;rfl;rfl)|(apply z07 (hc:=zv1);rfl;rfl;rfl)|(apply z04;focus (repeat (first | exact z23 | (apply kq_c;rfl))))|apply z02|apply z00|apply z03|apply z06|apply z08|apply z09|(apply z35;rfl;(with_reducible rfl))|(apply z13;rfl)|(apply z48;rfl;(with_reducible rfl))|(apply z39;rfl;(with_reducible rfl))|(apply z38;rfl)|with_reducible exact zb1|with_reducible apply zb3|with_reducible apply z58|with_reducible apply z60|(with_reducible apply zd3;intro hc)|(with_reducible apply za8;intro hc)|(with_reducible apply z67;intro hc)|(with_reducible apply z49;intro hc)|(apply z97;rfl)
     all_goals first | rfl | (exfalso;omega) | trace_state
   | nil=>
     have e0:([]:List CV).length=0:=rfl
     unfold tksF at h11
     repeat' first|apply z01|exact z12|exact z19 rfl|exact zb6 rfl|(apply z15;rfl;rfl)|(apply z43;(iterate 3 rfl))|(apply z30;(iterate 3 rfl))|(apply zb8;rfl)|(apply z41;rfl)|(apply q77;rfl)|(apply z84;rfl;rfl)|(apply z17;rfl;(with_reducible rfl);rfl)|(apply z14;rfl;(with_reducible rfl);rfl)|(apply z47;rfl;exact zb7 rfl)|(apply z57;(iterate 3 rfl))|(apply z81;rfl;rfl;first | exact z61 (by first | exact rfl | assumption | exact z05 (by assumption)) | exact z66 (by first | exact rfl | assumption | exact z05 (by assumption)))|(apply z25;(iterate 4 rfl);exact z34 (by first | exact rfl | assumption | exact z05 (by assumption)))|(apply z94;rfl;rfl)|(apply z07 (hc:=h14);rfl;rfl;rfl)|(apply z07 (hc:=h11);rfl;rfl;rfl)|(apply z07 (hc:=zv1);rfl;rfl;rfl)|(apply z04;focus (repeat (first | exact z23 | (apply kq_c;rfl))))|apply z02|apply z00|apply z03|apply z06|apply z08|apply z09|(apply z35;rfl;(with_reducible rfl))|(apply z13;rfl)|(apply z48;rfl;(with_reducible rfl))|(apply z39;rfl;(with_reducible rfl))|(apply z38;rfl)|with_reducible exact zb1|with_reducible apply zb3|with_reducible apply z58|with_reducible apply z60|(with_reducible apply zd3;intro hc)|(with_reducible apply za8;intro hc)|(with_reducible apply z67;intro hc)|(with_reducible apply z49;intro hc)|(apply z97;rfl)
     try any_goals (exfalso;omega)
     have hbl:lexU b 0 []=.ok []:=by unfold zq7 at ha;rwa [if_neg (by omega)] at ha
     refine ze9 (fun n:Nat=>w66 l b n) (fun n=>n≤l.length∧(l.take n).all zw6=true∧(blS b (l.take n)).length≤n * 70000) (fun n=>l.length - n) 0 ?_ ⟨Nat.zero_le _,rfl,Nat.zero_le _⟩ ?_
     · unfold w66
       repeat' first|exact z23|refine z64 rfl ?_
     rintro n ⟨hn,hall,hlen⟩
     by_cases hnl:n<l.length
     · have hok:=hkk l[n] (List.getElem_mem hnl)
       have h15:=wc5 [bare l[n]] (by simp) (by intro t ht;simp at ht;subst ht;exact ⟨hok.text,hok.qual,hok.n,⟨by show (-9223372036854775808:Int)≤0;omega,by show (0:Int)≤9223372036854775807;omega⟩,⟨by show (-9223372036854775808:Int)≤0;omega,by show (0:Int)≤9223372036854775807;omega⟩⟩)
       have ht:=w71 (b:=b) hnl
       have hone:=wc6 (bare l[n]) rfl rfl
       have hrl:(q01 [bare l[n]]).2=0→(q01 [bare l[n]]).1.length≤65536:=fun h=>(jd6 h).2.2.2
       unfold rcv at h15
       generalize q01 [bare l[n]]=rr at *
       obtain ⟨ro,rc⟩:=rr
       dsimp only at *
       unfold w66
       have hg:l[n]?=some l[n]:=List.getElem?_eq_getElem hnl
       have hpb0:∀ t:Tok,zw6 (bare t)=zw6 t:=fun t=>rfl
       have htt:tokT (bare l[n])=tokT l[n]:=rfl
       rw [hpb0,htt] at hone
       have hall':zw6 l[n]=true→(l.take (n+1)).all zw6=true:=fun h=>tkS hnl hall h
       generalize l[n]=t at *
       have h15:Rets Vv 15 [.c (.frz (some 7) [.agg [.int .i64 t.op,.str t.qual,.str t.text,.int .i64 t.n,.bool false,.int .i64 0,.int .i64 0]])] (.tup [.c (.str ro),.c (.int .i64 rc)]):=h15
       by_cases hrc:rc=0
       · obtain ⟨_,hpb,hro⟩:=hone hrc
         have hrl:=hrl hrc
         have e10:([10]:List UInt8).length=1:=rfl
         have e2:(ro++[10]:List UInt8).length=ro.length+1:=by simp
         have e3:(ro++[10]++b:List UInt8).length=ro.length+1+b.length:=by simp;omega
         have e4:(ro++[10]++b++[10]:List UInt8).length=ro.length+1+b.length+1:=by simp;omega
         repeat' first|apply z01|exact z12|exact zb6 rfl|(apply z15;rfl;rfl)|(apply zi6;rfl;rfl)|(apply z43;(iterate 3 rfl))|(apply za2;rfl;rfl;omega)|(apply qv8;rfl;rfl;(omega))|(apply z30;(iterate 3 rfl))|(apply ze1;(iterate 3 rfl);assumption)|(apply z77;(iterate 3 rfl))|(apply zp5;(iterate 6 rfl))|(apply z47;rfl;exact zb7 rfl)|(apply z57;(iterate 3 rfl))|(apply z81;rfl;rfl;first | exact z61 (by first | exact rfl | assumption | exact z05 (by assumption)) | exact z66 (by first | exact rfl | assumption | exact z05 (by assumption)))|(apply z25;(iterate 4 rfl);exact z34 (by first | exact rfl | assumption | exact z05 (by assumption)))|(apply z94;rfl;rfl)|(apply z07 (hc:=h15);rfl;rfl;rfl)|(apply z07 (hc:=zv1);rfl;rfl;rfl)|(apply z04;focus (repeat (first | exact z23 | (apply kq_c;rfl))))|apply z02|apply z00|apply z03|apply z06|apply z08|apply z09|apply z56|(apply z13;rfl)|(with_reducible apply zd3;intro hc)|(with_reducible apply za8;intro hc)|(with_reducible apply z67;intro hc)|(with_reducible apply z49;intro hc)|(apply z97;rfl)
         try any_goals (exfalso;omega)
         have e5:blS b (l.take (n+1))=blS b (l.take n)++(ro++[10]++b++[10]):=by rw [ht,hro];simp
         refine ⟨n+1,?_,rfl,⟨by omega,hall' hpb,?_⟩,by omega⟩
         · rw [e5]
           repeat' first|exact z23|refine z64 rfl ?_
         · rw [e5,List.length_append,e4,Nat.succ_mul]
           omega
       · repeat' first|apply z01|exact z12|exact zb6 rfl|(apply z15;rfl;rfl)|(apply zi6;rfl;rfl)|(apply z43;(iterate 3 rfl))|(apply za2;rfl;rfl;omega)|(apply qv8;rfl;rfl;(omega))|(apply z30;(iterate 3 rfl))|(apply ze1;(iterate 3 rfl);assumption)|(apply z77;(iterate 3 rfl))|(apply zp5;(iterate 6 rfl))|(apply z47;rfl;exact zb7 rfl)|(apply z57;(iterate 3 rfl))|(apply z81;rfl;rfl;first | exact z61 (by first | exact rfl | assumption | exact z05 (by assumption)) | exact z66 (by first | exact rfl | assumption | exact z05 (by assumption)))|(apply z25;(iterate 4 rfl);exact z34 (by first | exact rfl | assumption | exact z05 (by assumption)))|(apply z94;rfl;rfl)|(apply z07 (hc:=h15);rfl;rfl;rfl)|(apply z07 (hc:=zv1);rfl;rfl;rfl)|(apply z04;focus (repeat (first | exact z23 | (apply kq_c;rfl))))|apply z02|apply z00|apply z03|apply z06|apply z08|apply z09|apply z56|(apply z13;rfl)|(with_reducible apply zd3;intro hc)|(with_reducible apply za8;intro hc)|(with_reducible apply z67;intro hc)|(with_reducible apply z49;intro hc)|(apply z97;rfl)
         all_goals first | rfl | (exfalso;omega) | trace_state
     · have e6:l.take n=l:=List.take_of_length_le (by omega)
       unfold w66
       rw [e6] at hall hlen ⊢
       have hlex:¬ 65536<(blS b l).length→∃ l',zq7 (blS b l)=.ok l'∧l'.map keyT=l.map keyT:=by
        intro h
        obtain ⟨l',e1,e2⟩:=wj4 (s:=blS b l) hbl l 0 [] rfl hall (fun t ht=>(hk t ht).n.2) (by simp;omega)
        exact ⟨l',by unfold zq7;rw [if_neg h,e1];rfl,e2⟩
       have h11':=v01 (blS b l) (by omega)
       have hall0:zq7 (blS b l)=if 65536<(blS b l).length then .bad 3 [] 0 0 else lexU (blS b l) 0 []:=rfl
       generalize blS b l=w at *
       by_cases hw:65536<w.length
       · rw [hall0,if_pos hw] at h11'
         unfold lexR fltC at h11'
         repeat' first|apply z01|exact z12|exact z19 rfl|exact zb6 rfl|(apply z15;rfl;rfl)|(apply zi6;rfl;rfl)|(apply z43;(iterate 3 rfl))|(apply z30;(iterate 3 rfl))|(apply z41;rfl)|(apply z17;rfl;(with_reducible rfl);rfl)|(apply z14;rfl;(with_reducible rfl);rfl)|(apply ze1;(iterate 3 rfl);exact List.getElem?_eq_getElem (by omega))|(apply z77;(iterate 3 rfl))|(apply zp5;(iterate 6 rfl))|(apply z47;rfl;exact zb7 rfl)|(apply z57;(iterate 3 rfl))|(apply z81;rfl;rfl;first | exact z61 (by first | exact rfl | assumption | exact z05 (by assumption)) | exact z66 (by first | exact rfl | assumption | exact z05 (by assumption)))|(apply z25;(iterate 4 rfl);exact z34 (by first | exact rfl | assumption | exact z05 (by assumption)))|(apply z94;rfl;rfl)|(apply z07 (hc:=h11');rfl;rfl;rfl)|(apply z04;focus (repeat (first | exact z23 | (apply kq_c;rfl))))|apply z02|apply z00|apply z03|apply z06|apply z08|apply z09|apply z56|(apply z13;rfl)|(apply z48;rfl;(with_reducible rfl))|(apply z44;rfl;(with_reducible rfl))|(apply z39;rfl;(with_reducible rfl))|(apply zb4;rfl)|(apply z38;rfl)|(with_reducible apply za1;intro hc)|(with_reducible apply z74;intro hc)|(with_reducible apply z67;intro hc)|(with_reducible apply z49;intro hc)|(apply z97;rfl)
         all_goals first | rfl | (exfalso;omega) | trace_state
       · obtain ⟨l',e1,e2⟩:=hlex hw
         have hlen':l'.length=l.length:=by simpa using congrArg List.length e2
         have hsame:qf4 l' l=true:=by unfold qf4;rw [e2];simp
         have h17:=wk0 l' l (by omega) hl
         rw [hsame] at h17
         unfold tks at h17
         rw [e1] at h11'
         unfold lexR zF at h11'
         repeat' first|apply z01|exact z12|exact z19 rfl|exact zb6 rfl|(apply z15;rfl;rfl)|(apply zi6;rfl;rfl)|(apply z43;(iterate 3 rfl))|(apply z30;(iterate 3 rfl))|(apply z41;rfl)|(apply z17;rfl;(with_reducible rfl);rfl)|(apply z14;rfl;(with_reducible rfl);rfl)|(apply ze1;(iterate 3 rfl);exact List.getElem?_eq_getElem (by omega))|(apply z77;(iterate 3 rfl))|(apply zp5;(iterate 6 rfl))|(apply z47;rfl;exact zb7 rfl)|(apply z57;(iterate 3 rfl))|(apply z81;rfl;rfl;first | exact z61 (by first | exact rfl | assumption | exact z05 (by assumption)) | exact z66 (by first | exact rfl | assumption | exact z05 (by assumption)))|(apply z25;(iterate 4 rfl);exact z34 (by first | exact rfl | assumption | exact z05 (by assumption)))|(apply z94;rfl;rfl)|(apply z07 (hc:=h11');rfl;rfl;rfl)|(apply z07 (hc:=h17);rfl;rfl;rfl)|(apply z07 (hc:=zv1);rfl;rfl;rfl)|(apply z04;focus (repeat (first | exact z23 | (apply kq_c;rfl))))|apply z02|apply z00|apply z03|apply z06|apply z08|apply z09|apply z56|(apply z13;rfl)|(apply z48;rfl;(with_reducible rfl))|(apply z44;rfl;(with_reducible rfl))|(apply z39;rfl;(with_reducible rfl))|(apply zb4;rfl)|(apply z38;rfl)|(with_reducible apply za1;intro hc)|(with_reducible apply z74;intro hc)|(with_reducible apply z67;intro hc)|(with_reducible apply z49;intro hc)|(apply z97;rfl)
         all_goals first | rfl | (exfalso;omega) | trace_state
end Go.Proofs.TryzL
set_option maxRecDepth 100000
namespace Go.Proofs.YtencoceemejcnaaGreatDoor
open Go.ChangeShapes Go.WideShapes Go.ChangeAt Go.RowKit Go.Proofs.Lz
open Go.Proofs.TryzL
theorem qe4 (xs:List CV) (h:q94 Tryz.prog 6 Tryz.f9.params.toList xs):∃ H',ev Ev 9 (xs.map .c) []=some (.c (.bool true),H'):=by
 rw [Tryz.params9] at h
 obtain ⟨x1,y1,e1,k1,h⟩:=qy8 h
 obtain ⟨x2,y2,e2,k2,h⟩:=qy8 h
 have en:=we0 h
 obtain ⟨a1,ea1,ha1,hi1⟩:=w54 k1
 obtain ⟨a2,ea2,ha2⟩:=wm2 k2
 subst ea1 ea2
 rw [e1,e2,en]
 obtain ⟨H',h⟩:=jy8 (law9 a1 a2 ha1 ha2 hi1)
 exact vc8 envR h
theorem q63:Rows.LexerBlanksSaid:=
 OpenClaim.holds_of_wide 9 Tryz.f9 rfl rfl rfl rfl rfl rfl rfl ⟨rfl,rfl,rfl,rfl,rfl⟩ rfl rfl rfl rfl rfl (by kernel_rfl) Tryz.func9 (by kernel_rfl)
  (of_decide_eq_true (by kernel_rfl)) (by unfold Func.isWrapper;first | (rw [if_pos (by decide +kernel)];kernel_rfl) | (rw [if_neg (by decide +kernel)];exact ⟨rfl,rfl⟩))
  (fun os started H enc _=>v40 (s:=Rows.lexerBlanksSpec) os started enc Tryz.func9 (by kernel_rfl) (by kernel_rfl) rfl rfl (fun ds h=>by match ds,h with | [d1,d2],_=>rfl)
    (ChangeSpec.witness_shaped (enc:=enc) (C:=Tryz.checked) (os:=os) (X:=fun w _=>laidMetH Tryz.prog zp3 w) false (World.laidAll Tryz.prog os zp3) #[.slice none 0 0,.string (.mk #[])] 8 (World.laidAll_os _ _ _)
      (qu7 os) (by kernel_rfl) (by kernel_rfl) (by kernel_rfl) (jl2 os _))
    qe4)
theorem lexerBlanks_card:Rows.LexerBlanksCardSaid:=
 Claim7.holds_tied_plain_at .later [] [.data,.data,.data,.data,.sentinel,.sentinel,.pinned] true (true,"641a6eedb85e9fcdfc4a04b463ac295cc2ee5868a244e0a5b5af0ed3d49ea37c") true q63 (fun _ h=>by cases h) (by kernel_rfl) (fun _ h=>by cases h) lexerBlanks_row_tie rfl ⟨rfl,rfl⟩ (by kernel_rfl) rfl
  (fun f fn hf hfn=>by
    obtain rfl:f=9:=Option.some.inj ((show Tryz.prog.funcNamed "lazyc/lazyclaw02.LexerBlanks"=some 9 by kernel_rfl).symm.trans hf) |>.symm
    obtain rfl:fn=Tryz.f9:=(Option.some.inj (Tryz.func9.symm.trans hfn)).symm
    exact ⟨by kernel_rfl,fun j t ht=>by
     rw [Tryz.params9] at ht
     have hm:t∈[23,9]:=by simpa using Array.mem_of_getElem? ht
     have hall:([23,9].all fun u=>!Tryz.prog.wantsStandIn u)=true:=by kernel_rfl
     exact (show Tryz.prog.wantsStandIn t=false by simpa using List.all_eq_true.1 hall t hm)⟩)
  (by kernel_rfl)
end Go.Proofs.YtencoceemejcnaaGreatDoor
