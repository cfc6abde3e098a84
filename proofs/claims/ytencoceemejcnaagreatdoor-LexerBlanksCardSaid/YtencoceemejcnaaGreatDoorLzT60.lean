/- Chapter 02: the law about rendered texts being read again. -/
import Derived.Test.YtencoceemejcnaaGreatDoorLzT33
import Derived.Test.YtencoceemejcnaaGreatDoorLzT39
import Derived.Test.YtencoceemejcnaaGreatDoorLzT55
set_option linter.unusedSimpArgs false
set_option linter.unusedVariables false
namespace Go.Proofs.TryzL
open Go.Proofs.Lz
set_option maxHeartbeats 4000000
def keyT (t:Tok):Int×List UInt8×List UInt8×Int:=(t.op,t.qual,t.text,t.n)
def qf4 (a b:List Tok):Bool:=decide (a.map keyT=b.map keyT)
theorem j12 {a b:List Tok} (h:a.length≠b.length):qf4 a b=false:=by
 unfold qf4
 rw [decide_eq_false_iff_not]
 intro e
 exact h (by simpa using congrArg List.length e)
theorem w45 {a b:List Tok} {n:Nat} (ha:n<a.length) (hb:n<b.length) (h:keyT a[n]≠keyT b[n]):qf4 a b=false:=by
 unfold qf4
 rw [decide_eq_false_iff_not]
 intro e
 apply h
 have:=congrArg (fun l=>l[n]?) e
 simpa [ha,hb] using this
theorem v09 {a b:List Tok} {n:Nat} (ha:n<a.length) (hb:n<b.length) (hall:(a.take n).map keyT=(b.take n).map keyT) (h:keyT a[n]=keyT b[n]):(a.take (n+1)).map keyT=(b.take (n+1)).map keyT:=by
 rw [List.take_add_one,List.take_add_one,List.map_append,List.map_append,hall,List.getElem?_eq_getElem ha,List.getElem?_eq_getElem hb]
 simp [h]
theorem wx7 {a b:List Tok} {n:Nat} (ha:a.length≤n) (hb:b.length≤n) (hall:(a.take n).map keyT=(b.take n).map keyT):qf4 a b=true:=by
 rw [List.take_of_length_le ha,List.take_of_length_le hb] at hall
 unfold qf4
 rw [decide_eq_true_iff]
 exact hall
theorem wy7 (a b:List Tok) (ha:a.length≤9223372036854775807) (hb:b.length≤9223372036854775807):Rets Vv 17 [.c (tks a),.c (tks b)] (.c (.bool (qf4 a b))):=by
 refine z73 wz6 ?_
 unfold tks
 repeat' first|apply z01|exact z12|(apply z15;rfl;rfl)|(apply z30;(iterate 3 rfl))|(apply zb8;rfl)|(apply z04;focus (repeat (first | exact z23 | (apply kq_c;rfl))))|apply z02|apply z00|apply z03|apply z06|apply z08|apply z09|(apply z13;rfl)|(with_reducible apply zd3;intro hc)|(with_reducible apply za8;intro hc)|(apply z97;rfl)
 · rw [j12 (by omega)]
 refine ze9 (fun n:Nat=>[(1,.c (.frz (some 7) (b.map tokC))),(13,.c (.frz (some 7) (a.map tokC))),(14,.c (.int .i64 a.length)),(15,.c (.int .i64 n))]) (fun n=>n≤a.length∧(a.take n).map keyT=(b.take n).map keyT) (fun n=>a.length - n) 0 ?_ ⟨Nat.zero_le _,rfl⟩ ?_
 · repeat' first|exact z23|refine z64 rfl ?_
 rintro n ⟨hn,hall⟩
 have hab:a.length=b.length:=by omega
 by_cases hnl:n<a.length
 · have hnb:n<b.length:=by omega
   repeat' first|apply z01|exact z12|exact zb6 rfl|(apply z15;rfl;rfl)|(apply zi6;rfl;rfl)|(apply z43;(iterate 3 rfl))|(apply za2;rfl;rfl;omega)|(apply z30;(iterate 3 rfl))|(apply z17;rfl;(with_reducible rfl);rfl)|(apply z14;rfl;(with_reducible rfl);rfl)|(apply ze1;(iterate 3 rfl);exact List.getElem?_eq_getElem (by omega))|(apply z47;rfl;exact zb7 rfl)|(apply z81;rfl;rfl;first | exact z61 (by first | exact rfl | assumption | exact z05 (by assumption)) | exact z66 (by first | exact rfl | assumption | exact z05 (by assumption)))|(apply z25;(iterate 4 rfl);exact z34 (by first | exact rfl | assumption | exact z05 (by assumption)))|(apply z04;focus (repeat (first | exact z23 | (apply kq_c;rfl))))|apply z02|apply z00|apply z03|apply z06|apply z08|apply z09|apply z56|(apply z35;rfl;(with_reducible rfl))|(apply z13;rfl)|(apply z48;rfl;(with_reducible rfl))|(apply z39;rfl;(with_reducible rfl))|(apply z38;rfl)|with_reducible apply z58|with_reducible apply z60|(with_reducible apply zi9;intro hc)|(with_reducible apply zb9;intro hc)|(with_reducible apply zd3;intro hc)|(with_reducible apply za8;intro hc)|(with_reducible apply z67;intro hc)|(with_reducible apply z49;intro hc)|(apply z97;rfl)
   any_goals (exfalso;omega)
   any_goals rw [w45 hnl hnb (by unfold keyT;intro e;simp only [Prod.mk.injEq] at e;simp_all)]
   refine ⟨n+1,?_,rfl,⟨by omega,v09 hnl hnb hall (by unfold keyT;simp_all)⟩,by omega⟩
   repeat' first|exact z23|refine z64 rfl ?_
 · repeat' first|apply z01|exact z12|exact zb6 rfl|(apply z15;rfl;rfl)|(apply zi6;rfl;rfl)|(apply z43;(iterate 3 rfl))|(apply za2;rfl;rfl;omega)|(apply z30;(iterate 3 rfl))|(apply z17;rfl;(with_reducible rfl);rfl)|(apply z14;rfl;(with_reducible rfl);rfl)|(apply ze1;(iterate 3 rfl);exact List.getElem?_eq_getElem (by omega))|(apply z47;rfl;exact zb7 rfl)|(apply z81;rfl;rfl;first | exact z61 (by first | exact rfl | assumption | exact z05 (by assumption)) | exact z66 (by first | exact rfl | assumption | exact z05 (by assumption)))|(apply z25;(iterate 4 rfl);exact z34 (by first | exact rfl | assumption | exact z05 (by assumption)))|(apply z04;focus (repeat (first | exact z23 | (apply kq_c;rfl))))|apply z02|apply z00|apply z03|apply z06|apply z08|apply z09|apply z56|(apply z35;rfl;(with_reducible rfl))|(apply z13;rfl)|(apply z48;rfl;(with_reducible rfl))|(apply z39;rfl;(with_reducible rfl))|(apply z38;rfl)|with_reducible apply z58|with_reducible apply z60|(with_reducible apply zi9;intro hc)|(with_reducible apply zb9;intro hc)|(with_reducible apply zd3;intro hc)|(with_reducible apply za8;intro hc)|(with_reducible apply z67;intro hc)|(with_reducible apply z49;intro hc)|(apply z97;rfl)
   any_goals (exfalso;omega)
   rw [wx7 (by omega) (by omega) hall]
end Go.Proofs.TryzL
namespace Go.Proofs.TryzL
set_option maxHeartbeats 4000000
theorem u8n {c:UInt8} {n:Nat} (hn:n<256):c=UInt8.ofNat n↔c.toNat=n:=by
 constructor
 · rintro rfl;simp;omega
 · intro h;apply UInt8.toNat_inj.1;simp;omega
theorem w47:∀ t∈rwordL,zr2 t=true:=by decide
theorem wy0:∀ t∈rsymL,zh8 t=true:=by decide
theorem zz4 {t:List UInt8} (h:z95 t=1∨z95 t=2∨z95 t=5):zr2 t=true:=by
 unfold z95 at h
 by_cases h1:rwordL.contains t=true
 · exact w47 t (List.contains_iff_mem.1 h1)
 · by_cases h2:rsymL.contains t=true
   · simp only [if_neg h1,if_pos h2] at h
     omega
   · cases hw:zr2 t with
     | true=>rfl
     | false=>
       simp only [if_neg h1,if_neg h2,hw,Bool.false_and,Bool.false_eq_true,if_false] at h
       repeat' (split at h)
       all_goals omega
theorem qe8 {t:List UInt8} (h:z95 t=3∨z95 t=4∨z95 t=6):zh8 t=true:=by
 unfold z95 at h
 by_cases h1:rwordL.contains t=true
 · simp only [if_pos h1] at h
   omega
 · by_cases h2:rsymL.contains t=true
   · exact wy0 t (List.contains_iff_mem.1 h2)
   · cases hw:zh8 t with
     | true=>rfl
     | false=>
       simp only [if_neg h1,if_neg h2,hw,Bool.false_and,Bool.false_eq_true,if_false] at h
       repeat' (split at h)
       all_goals omega
theorem va2 {c:UInt8} (h:wcB c=true):zb2 c=true:=by
 unfold wcB q82 at h
 unfold zb2 lowerB
 simp [upperB,z93,u8n] at h ⊢
 have e1:c=95↔c.toNat=95:=u8n (n:=95) (by decide)
 have e2:c=39↔c.toNat=39:=u8n (n:=39) (by decide)
 rw [e1,e2] at h
 omega
theorem v90 {c:UInt8} (h:wsB c=true):(upperB c||lowerB c)=true:=by
 unfold wsB q82 at h
 unfold lowerB
 have e1:c=95↔c.toNat=95:=u8n (n:=95) (by decide)
 simp [upperB,e1] at h ⊢
 omega
theorem q72 {t:List UInt8} (h:zr2 t=true):∃ c r,t=c::r∧t.length≤64∧(upperB c||lowerB c)=true∧t.all zb2=true:=by
 cases t with
 | nil=>simp [zr2] at h
 | cons c r=>
   simp only [zr2,List.getElem?_cons_zero,Bool.and_eq_true,decide_eq_true_eq] at h
   exact ⟨c,r,rfl,h.1.1,v90 h.1.2,List.all_eq_true.2 fun x hx=>va2 (List.all_eq_true.1 h.2 x hx)⟩
theorem qx5 {t:List UInt8} (h:zh8 t=true):∃ c r,t=c::r∧t.length≤64∧symB c=true∧t.all symB=true∧qk0 t=false:=by
 cases t with
 | nil=>simp [zh8] at h
 | cons c r=>
   simp only [zh8,List.getElem?_cons_zero,Bool.and_eq_true,decide_eq_true_eq,Bool.or_eq_true] at h
   refine ⟨c,r,rfl,h.1.1,List.all_eq_true.1 h.1.2 c (by simp),h.1.2,?_⟩
   unfold qk0
   rcases h.2 with h2 | h2
   · simp only [h2];rfl
   · rw [Bool.and_eq_false_iff]
     right
     rw [← Bool.not_eq_true]
     intro ha
     have:(c::r).count 45=(c::r).length:=by
      rw [List.count_eq_length]
      intro b hb
      have:=List.all_eq_true.1 ha b hb
      simpa using (beq_iff_eq.1 this).symm
     omega
theorem qs6 {c:UInt8} (h:symB c=true):c.toNat=33∨c.toNat=35∨c.toNat=36∨c.toNat=37∨c.toNat=38∨c.toNat=42∨c.toNat=43∨c.toNat=46∨c.toNat=47∨c.toNat=60∨c.toNat=61∨c.toNat=62∨c.toNat=63∨c.toNat=64∨c.toNat=92∨c.toNat=94∨c.toNat=124∨c.toNat=45∨c.toNat=126∨c.toNat=58:=by
 have h:=List.contains_iff_mem.1 h
 simp only [symS,List.mem_cons,List.not_mem_nil,or_false] at h
 rcases h with h | h | h | h | h | h | h | h | h | h | h | h | h | h | h | h | h | h | h | h<;>subst h<;>decide
theorem wt5 {c:UInt8} (h:spS.contains c=true):c.toNat=40∨c.toNat=41∨c.toNat=91∨c.toNat=93∨c.toNat=123∨c.toNat=125∨c.toNat=44∨c.toNat=59∨c.toNat=96:=by
 have h:=List.contains_iff_mem.1 h
 simp only [spS,List.mem_cons,List.not_mem_nil,or_false] at h
 rcases h with h | h | h | h | h | h | h | h | h<;>subst h<;>decide
def Sep (z:List UInt8):Prop:=z=[]∨∃ r,z=32::r∨z=10::r
theorem qh0 {p:UInt8→Bool} (h1:p 32=false) (h2:p 10=false) {z:List UInt8} (h:Sep z):∀ x,z.head?=some x→p x=false:=by
 intro x hx
 rcases h with rfl | ⟨r,rfl | rfl⟩
 · cases hx
 · injection hx with hx;subst hx;exact h1
 · injection hx with hx;subst hx;exact h2
theorem zy8 {p:UInt8→Bool} {s w z:List UInt8} {i:Nat} (hs:s.drop i=w++z) (hw:w.all p=true) (hz:∀ x,z.head?=some x→p x=false):z83 p s i=w:=by
 unfold z83
 rw [hs,List.takeWhile_append_of_pos (fun x hx=>List.all_eq_true.1 hw x hx)]
 cases z with
 | nil=>simp
 | cons c r=>rw [List.takeWhile_cons_of_neg (by simp [hz c rfl])];simp
theorem zd8 {s w:List UInt8} {i:Nat} {c:UInt8} (h:s.drop i=c::w):s[i]?=some c:=by
 have:=List.getElem?_drop (xs:=s) (i:=i) (j:=0)
 rw [h] at this
 simpa using this.symm
theorem zy0 {s w z:List UInt8} {i:Nat} (h:s.drop i=w++z):s.drop (i+w.length)=z:=by
 rw [← List.drop_drop,h,List.drop_left]
theorem jn1 {s z:List UInt8} {i:Nat} (h:s.drop i=z):s[i]?=z.head?:=by
 rw [← h,List.head?_drop]
theorem zl0 {s r:List UInt8} {i:Nat} {c:UInt8} (h:s.drop i=c::r) (h1:c≠32) (h2:c≠9) (h3:c≠10) (h4:c=45→qk0 (z83 symB s i)=false) (h5:c=123→r.head?≠some 45):z98 s i c=none:=by
 unfold z98
 rw [if_neg (by simp [h1,h2,h3]),if_neg (by rintro ⟨a,b⟩;rw [h4 a] at b;cases b),if_neg]
 rw [h]
 intro hp
 cases r with
 | nil=>simp at hp
 | cons d r=>
   simp at hp
   exact h5 hp.1.symm (by simp [hp.2])
theorem j28 {s t z:List UInt8} {i:Nat} (hs:s.drop i=t++z) (hz:Sep z) (ht:zr2 t=true):∃ c,s[i]?=some c∧z98 s i c=none∧z69 s i c=.tok (nmOp t) [] t 0 (i+t.length):=by
 obtain ⟨c,r,e,hl,hc,ha⟩:=q72 ht
 have hc0:=hc
 simp [upperB,lowerB] at hc0
 have hsp:z83 zb2 s i=t:=zy8 hs ha (qh0 (by decide) (by decide) hz)
 refine ⟨c,zd8 (w:=r++z) (by rw [hs,e];rfl),?_,?_⟩
 · refine zl0 (r:=r++z) (by rw [hs,e];rfl) ?_ ?_ ?_ ?_ ?_
   all_goals (intro h;subst h;simp at hc0)
 · unfold z69
   rw [if_pos hc]
   unfold zr0
   simp only [hsp]
   rw [if_neg]
   · unfold zj1
     rw [if_neg (by simp),if_neg (by omega)]
   · rintro ⟨_,h,_⟩
     rw [jn1 (zy0 hs)] at h
     have:=qh0 (p:=fun x=>x==46) (by decide) (by decide) hz _ h
     simp at this
theorem wr6 {s q t z:List UInt8} {i:Nat} (hs:s.drop i=q++(46::(t++z))) (hz:Sep z) (hq:zr2 q=true) (hu:q25 q=true) (ht:(zr2 t=true∧z95 t≠5)∨(zh8 t=true∧z95 t≠6)):∃ c,s[i]?=some c∧z98 s i c=none∧z69 s i c=.tok (nmOp t) q t 0 (i+q.length+1+t.length):=by
 obtain ⟨c,r,e,hl,hc,ha⟩:=q72 hq
 have hc0:=hc
 simp [upperB,lowerB] at hc0
 have hsp:z83 zb2 s i=q:=zy8 hs ha (by intro x hx;injection hx with hx;subst hx;decide)
 have hd:s.drop (i+q.length)=46::(t++z):=zy0 hs
 have hd1:s.drop (i+q.length+1)=t++z:=by rw [← List.drop_drop,hd];rfl
 have hqs:q27 s (i+q.length+1)=t∧t≠[]∧t.length≤64:=by
  unfold q27
  rcases ht with ⟨h1,h2⟩ | ⟨h1,h2⟩
  · obtain ⟨d,r',e',hl',hd',ha'⟩:=q72 h1
    rw [zd8 (w:=r'++z) (by rw [hd1,e'];rfl)]
    dsimp only
    rw [if_pos hd',zy8 hd1 ha' (qh0 (by decide) (by decide) hz),if_neg h2]
    exact ⟨rfl,by rw [e'];simp,hl'⟩
  · obtain ⟨d,r',e',hl',hd',ha',hda⟩:=qx5 h1
    rw [zd8 (w:=r'++z) (by rw [hd1,e'];rfl)]
    have:=qs6 hd'
    dsimp only
    rw [if_neg (by simp [upperB,lowerB];omega),zy8 hd1 ha' (qh0 (by decide) (by decide) hz),hda,if_neg (by simp [h2])]
    exact ⟨rfl,by rw [e'];simp,hl'⟩
 obtain ⟨hqs,hne,htl⟩:=hqs
 have hci:s[i]?=some c:=zd8 (w:=r++(46::(t++z))) (by rw [hs,e];rfl)
 refine ⟨c,hci,?_,?_⟩
 · refine zl0 (r:=r++(46::(t++z))) (by rw [hs,e];rfl) ?_ ?_ ?_ ?_ ?_
   all_goals (intro h;subst h;simp at hc0)
 · unfold z69
   rw [if_pos hc]
   unfold zr0
   simp only [hsp,hqs]
   have hup:upperB c=true:=by rw [e] at hu;simpa [q25] using hu
   rw [if_pos ⟨⟨c,hci,hup⟩,zd8 hd,hne⟩]
   unfold zj1
   rw [if_neg (by omega),if_neg (by omega)]
theorem jo6 {s t z:List UInt8} {i:Nat} (hs:s.drop i=t++z) (hz:Sep z) (ht:zh8 t=true):∃ c,s[i]?=some c∧z98 s i c=none∧z69 s i c=.tok (nmOp t) [] t 0 (i+t.length):=by
 obtain ⟨c,r,e,hl,hc,ha,hda⟩:=qx5 ht
 have hsp:z83 symB s i=t:=zy8 hs ha (qh0 (by decide) (by decide) hz)
 have hcl:=qs6 hc
 have e39:c=39↔c.toNat=39:=u8n (n:=39) (by decide)
 have e34:c=34↔c.toNat=34:=u8n (n:=34) (by decide)
 refine ⟨c,zd8 (w:=r++z) (by rw [hs,e];rfl),?_,?_⟩
 · refine zl0 (r:=r++z) (by rw [hs,e];rfl) ?_ ?_ ?_ ?_ ?_
   · intro h;subst h;simp at hcl
   · intro h;subst h;simp at hcl
   · intro h;subst h;simp at hcl
   · intro _;rw [hsp];exact hda
   · intro h;subst h;simp at hcl
 · unfold z69
   rw [if_neg (by simp [upperB,lowerB];omega),if_neg (by simp [z93];omega),if_neg (by rw [e39,e34];omega),if_pos hc,hsp]
   unfold zj1
   rw [if_neg (by simp),if_neg (by omega)]
theorem v61 {s z:List UInt8} {i:Nat} {c:UInt8} (hs:s.drop i=[c]++z) (hz:Sep z) (hc:spS.contains c=true):s[i]?=some c∧z98 s i c=none∧z69 s i c=.tok 8 [] [c] 0 (i+1):=by
 have hcl:=wt5 hc
 have e39:c=39↔c.toNat=39:=u8n (n:=39) (by decide)
 have e34:c=34↔c.toNat=34:=u8n (n:=34) (by decide)
 refine ⟨zd8 hs,?_,?_⟩
 · refine zl0 hs ?_ ?_ ?_ ?_ ?_
   · intro h;subst h;simp at hcl
   · intro h;subst h;simp at hcl
   · intro h;subst h;simp at hcl
   · intro h;subst h;simp at hcl
   · intro _ h
     have:=qh0 (p:=fun x=>x==45) (by decide) (by decide) hz _ h
     simp at this
 · unfold z69
   have hns:symB c≠true:=by intro h;have:=qs6 h;omega
   rw [if_neg (by simp [upperB,lowerB];omega),if_neg (by simp [z93];omega),if_neg (by rw [e39,e34];omega),if_neg hns,if_pos hc]
theorem w51:∀ (a b:List UInt8) (v:Nat),numF (a++b) v=(numF a v).bind fun w=>numF b w:=by
 intro a
 induction a with
 | nil=>intro b v;rfl
 | cons c r ih=>
   intro b v
   simp only [List.cons_append,numF]
   split
   · exact ih _ _
   · rfl
theorem jd9 {d:Nat} (h:d<10):z93 (UInt8.ofNat (48+d))=true∧(UInt8.ofNat (48+d)).toNat=48+d:=by
 have e:(UInt8.ofNat (48+d)).toNat=48+d:=by simp;omega
 refine ⟨?_,e⟩
 unfold z93
 rw [e]
 simp
 omega
theorem jh2 (m:Nat):(Lib.decDigits m).all z93=true:=by
 induction m using Nat.strongRecOn with
 | ind m ih=>
   rw [Lib.decDigits]
   split
   · simp only [List.all_cons,List.all_nil,Bool.and_true];exact (jd9 (by omega)).1
   · simp only [List.all_append,List.all_cons,List.all_nil,Bool.and_true,Bool.and_eq_true]
     exact ⟨ih _ (by omega),(jd9 (by omega)).1⟩
theorem jx9 (m:Nat):∃ c r,Lib.decDigits m=c::r:=by
 cases h:Lib.decDigits m with
 | nil=>rw [Lib.decDigits] at h;split at h<;>simp at h
 | cons c r=>exact ⟨c,r,rfl⟩
theorem j22 (m:Nat) (h:m≤9223372036854775807):numF (Lib.decDigits m) 0=some m:=by
 induction m using Nat.strongRecOn with
 | ind m ih=>
   rw [Lib.decDigits]
   split
   · obtain ⟨h1,h2⟩:=jd9 (d:=m) (by omega)
     rw [numF,if_pos ⟨h1,by omega⟩,h2,numF]
     congr 1
     omega
   · obtain ⟨h1,h2⟩:=jd9 (d:=m % 10) (by omega)
     rw [w51,ih _ (by omega) (by omega),Option.bind_some,numF,if_pos ⟨h1,by rw [h2];omega⟩,h2,numF]
     congr 1
     omega
theorem wz5 {s z:List UInt8} {i:Nat} {n:Int} (hn:0≤n∧n≤9223372036854775807) (hs:s.drop i=Lib.itoa n++z) (hz:Sep z):∃ c,s[i]?=some c∧z98 s i c=none∧z69 s i c=.tok 5 [] [] n (i+(Lib.itoa n).length):=by
 have e:Lib.itoa n=Lib.decDigits n.toNat:=by unfold Lib.itoa;rw [if_neg (by omega)]
 rw [e] at hs ⊢
 have ha:=jh2 n.toNat
 have hf:=j22 n.toNat (by omega)
 obtain ⟨c,r,ec⟩:=jx9 n.toNat
 have hd:z93 c=true:=List.all_eq_true.1 ha c (by rw [ec];simp)
 have hd0:=hd
 simp [z93] at hd0
 have hsp:z83 z93 s i=Lib.decDigits n.toNat:=zy8 hs ha (qh0 (by decide) (by decide) hz)
 refine ⟨c,zd8 (w:=r++z) (by rw [hs,ec];rfl),?_,?_⟩
 · refine zl0 (r:=r++z) (by rw [hs,ec];rfl) ?_ ?_ ?_ ?_ ?_
   all_goals (intro h;subst h;simp at hd0)
 · unfold z69
   rw [if_neg (by simp [upperB,lowerB];omega),if_pos hd]
   unfold numU
   rw [hsp,hf]
   dsimp only
   congr 1
   omega
theorem step_none {s z:List UInt8} {i j:Nat} {c:UInt8} (h:s.drop j=c::z) (hc:32≤c.toNat∧c.toNat≤126):zg0 s i j=none∧s.getD j 0=c:=by
 have hg:=zd8 h
 constructor
 · unfold zg0
   rw [hg]
   dsimp only
   rw [if_neg (by simp [q44];omega),if_neg (by omega)]
 · simp [List.getD,hg]
theorem zi3 {s z:List UInt8} {j:Nat} {c:UInt8} (h:s.drop j=c::z):s.drop (j+1)=z:=by rw [← List.drop_drop,h];rfl
theorem wi4:∀ k:Fin 16,hexV (hexd k)=some k.val∧32≤(hexd k).toNat∧(hexd k).toNat≤126:=by decide
theorem jf0 {k:Nat} (h:k<16):hexV (hexd k)=some k∧32≤(hexd k).toNat∧(hexd k).toNat≤126:=wi4 ⟨k,h⟩
theorem wd1 {s z:List UInt8} {i j:Nat} {c m:UInt8} (hm:m=39∨m=34) (h:s.drop j=escB c m++z):zg0 s i j=none∧s.getD j 0≠m∧zm5 s i (s.getD j 0) (j+1)=.ok c (j+(escB c m).length):=by
 have hm92:(92:UInt8)≠m:=by rcases hm with rfl | rfl<;>decide
 have em:m.toNat=39∨m.toNat=34:=by rcases hm with rfl | rfl<;>decide
 have key:∀ d,escB c m=[92,d]→(32≤d.toNat∧d.toNat≤126)→((d=110∧c=10)∨(d=116∧c=9)∨((d=92∨d=39∨d=34)∧c=d))→zg0 s i j=none∧s.getD j 0≠m∧zm5 s i (s.getD j 0) (j+1)=.ok c (j+(escB c m).length):=by
  intro d he hd hk
  rw [he] at h ⊢
  have h1:s.drop j=92::(d::z):=h
  obtain ⟨a1,a2⟩:=step_none (i:=i) h1 (by decide)
  obtain ⟨b1,b2⟩:=step_none (i:=i) (zi3 h1) hd
  rw [a2]
  refine ⟨a1,hm92,?_⟩
  unfold zm5
  rw [if_neg (by simp),b1]
  dsimp only
  rw [b2]
  rcases hk with ⟨rfl,rfl⟩ | ⟨rfl,rfl⟩ | ⟨hk,rfl⟩
  · rfl
  · rfl
  · rcases hk with rfl | rfl | rfl<;>rfl
 by_cases h10:c=10
 · exact key 110 (by unfold escB;rw [if_pos h10]) (by decide) (by simp [h10])
 by_cases h9:c=9
 · exact key 116 (by unfold escB;rw [if_neg h10,if_pos h9]) (by decide) (by simp [h9])
 by_cases h92:c=92∨c=m
 · refine key c (by unfold escB;rw [if_neg h10,if_neg h9,if_pos h92]) ?_ ?_
   · rcases h92 with rfl | rfl
     · decide
     · omega
   · rcases h92 with rfl | rfl
     · simp
     · rcases hm with rfl | rfl<;>simp
 by_cases hp:32≤c.toNat∧c.toNat≤126
 · have he:escB c m=[c]:=by unfold escB;rw [if_neg h10,if_neg h9,if_neg h92,if_pos hp]
   rw [he] at h ⊢
   obtain ⟨a1,a2⟩:=step_none (i:=i) (show s.drop j=c::z from h) hp
   rw [a2]
   refine ⟨a1,fun e=>h92 (.inr e),?_⟩
   unfold zm5
   rw [if_pos (fun e=>h92 (.inl e))]
   rfl
 · have he:escB c m=[92,120,hexd (c.toNat / 16),hexd (c.toNat % 16)]:=by unfold escB;rw [if_neg h10,if_neg h9,if_neg h92,if_neg hp]
   have hlt:=c.toNat_lt
   obtain ⟨x1,x2⟩:=jf0 (k:=c.toNat / 16) (by omega)
   obtain ⟨y1,y2⟩:=jf0 (k:=c.toNat % 16) (by omega)
   rw [he] at h ⊢
   have h1:s.drop j=92::(120::hexd (c.toNat / 16)::hexd (c.toNat % 16)::z):=h
   obtain ⟨a1,a2⟩:=step_none (i:=i) h1 (by decide)
   have h2:=zi3 h1
   obtain ⟨b1,b2⟩:=step_none (i:=i) h2 (by decide)
   have h3:=zi3 h2
   obtain ⟨c1,c2⟩:=step_none (i:=i) h3 x2
   have h4:=zi3 h3
   obtain ⟨d1,d2⟩:=step_none (i:=i) h4 y2
   rw [a2]
   refine ⟨a1,hm92,?_⟩
   unfold zm5
   rw [if_neg (by simp),b1]
   dsimp only
   rw [b2,if_neg (by decide),if_neg (by decide),if_neg (by decide),if_pos rfl,hexS,c1]
   dsimp only
   rw [c2,x1]
   dsimp only
   rw [hexS,d1]
   dsimp only
   rw [d2,y1]
   dsimp only
   rw [hexS]
   have:UInt8.ofNat (16 * (16 * 0+c.toNat / 16)+c.toNat % 16)=c:=by
    rw [show 16 * (16 * 0+c.toNat / 16)+c.toNat % 16=c.toNat by omega]
    simp
   rw [this]
   rfl
theorem je4 {s z t:List UInt8} {i j:Nat} {m:UInt8} (hm:m=39∨m=34) (h:s.drop j=m::z):litS s i m t j=.ok t (j+1):=by
 have hc:32≤m.toNat∧m.toNat≤126:=by rcases hm with rfl | rfl<;>decide
 obtain ⟨a1,a2⟩:=step_none (i:=i) h hc
 rw [litS]
 split
 · rename_i h0;rw [a1] at h0;cases h0
 · rw [if_pos a2]
theorem ja4 {s z t:List UInt8} {i j:Nat} {c m:UInt8} (hm:m=39∨m=34) (h:s.drop j=escB c m++z) (hl:t.length<200) (h39:m=39→t=[]):litS s i m t j=litS s i m (t++[c]) (j+(escB c m).length):=by
 obtain ⟨a1,a2,a3⟩:=wd1 (i:=i) hm h
 rw [litS]
 split
 · rename_i h0;rw [a1] at h0;cases h0
 · rw [if_neg a2,if_neg (by rintro ⟨e,e2⟩;rw [h39 e] at e2;cases e2)]
   split
   · rename_i h0;rw [a3] at h0;cases h0
   · rename_i b e h0
     rw [a3] at h0
     injection h0 with e1 e2
     subst e1 e2
     rw [if_neg (by omega)]
theorem ws5 {s z:List UInt8} {i:Nat}:∀ (u t:List UInt8) (j:Nat),s.drop j=escS u 34++(34::z)→t.length+u.length≤200→litS s i 34 t j=.ok (t++u) (j+(escS u 34).length+1):=by
 intro u
 induction u with
 | nil=>
   intro t j h _
   rw [je4 (.inr rfl) h]
   simp [escS]
 | cons c u ih=>
   intro t j h hl
   have h:s.drop j=escB c 34++(escS u 34++(34::z)):=by
    rw [h];simp [escS]
   rw [ja4 (.inr rfl) h (by simp at hl;omega) (fun e=>absurd e (by decide)),ih _ _ (zy0 h) (by simp at hl ⊢;omega)]
   simp [escS]
   omega
theorem wv3 {s u z:List UInt8} {i:Nat} (hs:s.drop i=([34]++escS u 34++[34])++z) (hl:u.length≤200):s[i]?=some 34∧z98 s i 34=none∧z69 s i 34=.tok 7 [] u 0 (i+([34]++escS u 34++[34]).length):=by
 have h:s.drop i=34::(escS u 34++(34::z)):=by rw [hs];simp
 refine ⟨zd8 h,zl0 h (by decide) (by decide) (by decide) (fun e=>absurd e (by decide)) (fun e=>absurd e (by decide)),?_⟩
 unfold z69
 rw [if_neg (by decide),if_neg (by decide),if_pos (.inr rfl)]
 unfold litU
 rw [ws5 u [] (i+1) (zi3 h) (by simpa using hl)]
 unfold quoU
 dsimp only
 rw [if_neg (by decide)]
 simp
 omega
theorem v05 {s z:List UInt8} {i:Nat} {c:UInt8} (hs:s.drop i=([39]++escB c 39++[39])++z):s[i]?=some 39∧z98 s i 39=none∧z69 s i 39=.tok 6 [] [] c.toNat (i+([39]++escB c 39++[39]).length):=by
 have h:s.drop i=39::(escB c 39++(39::z)):=by rw [hs];simp
 refine ⟨zd8 h,zl0 h (by decide) (by decide) (by decide) (fun e=>absurd e (by decide)) (fun e=>absurd e (by decide)),?_⟩
 unfold z69
 rw [if_neg (by decide),if_neg (by decide),if_pos (.inl rfl)]
 unfold litU
 rw [ja4 (.inl rfl) (zi3 h) (by simp) (by simp),je4 (.inl rfl) (zy0 (zi3 h))]
 unfold quoU
 dsimp only [List.nil_append]
 rw [if_pos rfl]
 simp
 omega
end Go.Proofs.TryzL
namespace Go.Proofs.TryzL
set_option maxHeartbeats 4000000
theorem j75 {t:List UInt8} {op:Int} (h:(op=1∧z95 t=1)∨(op=2∧z95 t=2)∨(op=3∧z95 t=3)∨(op=4∧z95 t=4)∨(op=9∧z95 t=5)∨(op=10∧z95 t=6)):nmOp t=op:=by
 unfold nmOp
 rcases h with ⟨rfl,h⟩ | ⟨rfl,h⟩ | ⟨rfl,h⟩ | ⟨rfl,h⟩ | ⟨rfl,h⟩ | ⟨rfl,h⟩<;>rw [h]<;>rfl
theorem qb3 {s t z q:List UInt8} {i:Nat} {op:Int} (hq:q=[]∨z95 q=2) (hs:s.drop i=(if q=[] then t else q++[46]++t)++z) (hz:Sep z) (h:(op=1∧z95 t=1)∨(op=2∧z95 t=2)∨(op=3∧z95 t=3)∨(op=4∧z95 t=4)):∃ c,s[i]?=some c∧z98 s i c=none∧z69 s i c=.tok op q t 0 (i+(if q=[] then t else q++[46]++t).length):=by
 have hop:nmOp t=op:=j75 (by rcases h with h | h | h | h<;>simp [h])
 by_cases hq0:q=[]
 · subst hq0
   simp only [if_true] at hs ⊢
   rw [← hop]
   rcases h with ⟨_,h⟩ | ⟨_,h⟩ | ⟨_,h⟩ | ⟨_,h⟩
   · exact j28 hs hz (zz4 (.inl h))
   · exact j28 hs hz (zz4 (.inr (.inl h)))
   · exact jo6 hs hz (qe8 (.inl h))
   · exact jo6 hs hz (qe8 (.inr (.inl h)))
 · have hq2:z95 q=2:=hq.resolve_left hq0
   rw [if_neg hq0] at hs ⊢
   have hu:q25 q=true:=by
    have h:=hq2
    unfold z95 at h
    cases hu:q25 q with
    | true=>rfl
    | false=>
      simp only [hu,Bool.and_false,Bool.false_eq_true,if_false] at h
      repeat' (split at h)
      all_goals omega
   have:=wr6 (s:=s) (q:=q) (t:=t) (z:=z) (i:=i) (by rw [hs];simp) hz (zz4 (.inr (.inl hq2))) hu (by
    rcases h with ⟨_,h⟩ | ⟨_,h⟩ | ⟨_,h⟩ | ⟨_,h⟩
    · exact .inl ⟨zz4 (.inl h),by omega⟩
    · exact .inl ⟨zz4 (.inr (.inl h)),by omega⟩
    · exact .inr ⟨qe8 (.inl h),by omega⟩
    · exact .inr ⟨qe8 (.inr (.inl h)),by omega⟩)
   rw [hop] at this
   have e:i+q.length+1+t.length=i+(q++[46]++t).length:=by simp;omega
   rw [e] at this
   exact this
theorem w05 {s z q t:List UInt8} {i:Nat} {op n:Int} (hp:zc5 op q t n=true) (hn:n≤9223372036854775807) (hs:s.drop i=textS op q t n++z) (hz:Sep z) :
 ∃ c,s[i]?=some c∧z98 s i c=none∧z69 s i c=.tok op q t n (i+(textS op q t n).length):=by
 unfold zc5 at hp
 simp only [Bool.and_eq_true,Bool.or_eq_true,decide_eq_true_eq] at hp
 obtain ⟨hq,hb⟩:=hp
 have hq':q=[]∨z95 q=2:=hq.imp id (fun h=>h.2)
 have hq0:¬ (1≤op∧op≤4)→q=[]:=fun h=>hq.resolve_right (fun g=>h g.1)
 unfold textS at hs ⊢
 unfold q00 at hb
 by_cases o1:op=1
 · subst o1
   simp at hb hs ⊢
   obtain ⟨h1,rfl⟩:=hb
   simpa using qb3 hq' (by simpa using hs) hz (.inl ⟨rfl,h1⟩)
 by_cases o2:op=2
 · subst o2
   simp at hb hs ⊢
   obtain ⟨h1,rfl⟩:=hb
   simpa using qb3 hq' (by simpa using hs) hz (.inr (.inl ⟨rfl,h1⟩))
 by_cases o3:op=3
 · subst o3
   simp at hb hs ⊢
   obtain ⟨h1,rfl⟩:=hb
   simpa using qb3 hq' (by simpa using hs) hz (.inr (.inr (.inl ⟨rfl,h1⟩)))
 by_cases o4:op=4
 · subst o4
   simp at hb hs ⊢
   obtain ⟨h1,rfl⟩:=hb
   simpa using qb3 hq' (by simpa using hs) hz (.inr (.inr (.inr ⟨rfl,h1⟩)))
 have hqe:q=[]:=hq0 (by omega)
 subst hqe
 simp only [if_neg o1,if_neg o2,if_neg o3,if_neg o4] at hb
 by_cases o9:op=9
 · subst o9
   simp at hb hs ⊢
   obtain ⟨h1,rfl⟩:=hb
   have:=j28 hs hz (zz4 (.inr (.inr h1)))
   rw [j75 (.inr (.inr (.inr (.inr (.inl ⟨rfl,h1⟩)))))] at this
   exact this
 by_cases o10:op=10
 · subst o10
   simp at hb hs ⊢
   obtain ⟨h1,rfl⟩:=hb
   have:=jo6 hs hz (qe8 (.inr (.inr h1)))
   rw [j75 (.inr (.inr (.inr (.inr (.inr ⟨rfl,h1⟩)))))] at this
   exact this
 simp only [if_neg o9,if_neg o10] at hb
 by_cases o8:op=8
 · subst o8
   simp only [if_true,Bool.and_eq_true,decide_eq_true_eq] at hb
   simp at hs ⊢
   obtain ⟨⟨h1,h2⟩,rfl⟩:=hb
   obtain ⟨c,rfl⟩:=List.length_eq_one_iff.1 h1
   exact ⟨c,v61 hs hz h2⟩
 simp only [if_neg o8] at hb
 by_cases o7:op=7
 · subst o7
   simp only [if_true,Bool.and_eq_true,decide_eq_true_eq] at hb
   obtain ⟨h1,rfl⟩:=hb
   rw [if_neg (by decide),if_neg (by decide),if_pos rfl] at hs ⊢
   exact ⟨34,wv3 hs h1⟩
 simp only [if_neg o7] at hb
 by_cases o5:op=5
 · subst o5
   simp only [if_true,Bool.and_eq_true,decide_eq_true_eq] at hb
   obtain ⟨rfl,h1⟩:=hb
   rw [if_pos rfl] at hs ⊢
   exact wz5 ⟨h1,hn⟩ hs hz
 simp only [if_neg o5] at hb
 by_cases o6:op=6
 · subst o6
   simp only [if_true,Bool.and_eq_true,decide_eq_true_eq] at hb
   obtain ⟨⟨rfl,h1⟩,h2⟩:=hb
   rw [if_neg (by decide),if_pos rfl] at hs ⊢
   unfold qcS at hs ⊢
   rw [if_pos ⟨h1,h2⟩] at hs ⊢
   have e:(((UInt8.ofNat n.toNat).toNat:Nat):Int)=n:=by simp;omega
   have:=v05 hs
   rw [e] at this
   exact ⟨39,this⟩
 simp [o6] at hb
def qd4 (b:List UInt8):Prop:=∀ x∈b,x=32∨x=10
def Lay:List Tok→List UInt8→Prop
 | [],w=>w=[]
 | t::r,w=>∃ b w',w=b++(tokT t++w')∧qd4 b∧Sep w'∧Lay r w'
theorem wr3 {b w:List UInt8} (hb:qd4 b) (hne:b≠[]):Sep (b++w):=by
 cases b with
 | nil=>exact absurd rfl hne
 | cons c r=>
   rcases hb c (by simp) with rfl | rfl
   · exact .inr ⟨_,.inl rfl⟩
   · exact .inr ⟨_,.inr rfl⟩
theorem wg1 (n:Nat):Lib.repeatL [32] n=List.replicate n 32:=by
 induction n with
 | zero=>rfl
 | succ n ih=>rw [Lib.repeatL,ih,List.replicate_succ];rfl
theorem jz7 {a b:List UInt8} (ha:qd4 a) (hb:qd4 b):qd4 (a++b):=by
 intro x hx
 rcases List.mem_append.1 hx with h | h
 · exact ha x h
 · exact hb x h
theorem j14 (n:Nat):qd4 (List.replicate n 10)∧qd4 (Lib.repeatL [32] n):=by
 constructor
 · intro x hx;exact .inr (List.eq_of_mem_replicate hx)
 · rw [wg1];intro x hx;exact .inl (List.eq_of_mem_replicate hx)
theorem wl5 (t:Tok) (s:RS):∃ b,(rnl t s).out=s.out++b∧qd4 b∧((rnl t s).first=false→s.first=false)∧(s.first=false→(rnl t s).first=true→b≠[]):=by
 unfold rnl
 split
 · exact ⟨[],by simp,fun x hx=>by simp at hx,id,fun h1 h2=>by rw [h1] at h2;cases h2⟩
 · rename_i h
   refine ⟨List.replicate (nlK t s) 10,rfl,(j14 _).1,fun g=>Bool.noConfusion g,fun _ _=>?_⟩
   rw [Ne,List.replicate_eq_nil_iff]
   exact h
theorem wk2 (t:Tok) (s:RS):∃ b,(rsp t s).out=s.out++b∧qd4 b∧(s.first=false→b≠[]):=by
 unfold rsp
 split
 · refine ⟨_,rfl,(j14 _).2,fun _=>?_⟩
   rename_i h
   rw [wg1,Ne,List.replicate_eq_nil_iff]
   omega
 · split
   · rename_i h
     exact ⟨[],by simp,fun x hx=>by simp at hx,fun g=>by rw [g] at h;cases h⟩
   · exact ⟨[32],rfl,fun x hx=>by simp at hx;exact .inl hx,fun _=>by simp⟩
theorem jr9 (t:Tok) (s:RS):∃ b,(zi0 t s).out=s.out++(b++tokT t)∧qd4 b∧(s.first=false→b≠[])∧(zi0 t s).first=false:=by
 obtain ⟨b1,e1,a1,f1,g1⟩:=wl5 t s
 obtain ⟨b2,e2,a2,g2⟩:=wk2 t (rnl t s)
 refine ⟨b1++b2,?_,jz7 a1 a2,fun hs=>?_,rfl⟩
 · unfold zi0 rtx
   dsimp only
   rw [e2,e1]
   simp
 · cases hf:(rnl t s).first with
   | true=>have:=g1 hs hf;simp [this]
   | false=>have:=g2 hf;simp [this]
theorem w72:∀ (l:List Tok) (s:RS) (out:List UInt8),s.out.length≤65536→rend l s=some out→∃ w,out=s.out++w∧Lay l w∧(s.first=false→Sep w)∧out.length≤65536:=by
 intro l
 induction l with
 | nil=>
   intro s out h0 h
   injection h with h
   subst h
   exact ⟨[],by simp,rfl,fun _=>.inl rfl,h0⟩
 | cons t r ih=>
   intro s out h0 h
   rw [rend] at h
   split at h
   · cases h
   · rename_i hle
     obtain ⟨w,e,hl,hs,ho⟩:=ih _ _ (by omega) h
     obtain ⟨b,e1,a1,f1,f2⟩:=jr9 t s
     refine ⟨b++(tokT t++w),by rw [e,e1];simp,⟨b,w,rfl,a1,hs f2,hl⟩,fun hf=>wr3 a1 (f1 hf),ho⟩
theorem jd6 {l:List Tok} (h:(q01 l).2=0):l.all zw6=true∧l.length≤16384∧Lay l (q01 l).1∧(q01 l).1.length≤65536:=by
 unfold q01 at h ⊢
 split at h
 · cases h
 · split at h
   · cases h
   · rename_i h1 h2
     rw [if_neg h1,if_neg h2]
     cases hr:rend l rs0 with
     | none=>rw [hr] at h;cases h
     | some o=>
       obtain ⟨w,e,hl,_,ho⟩:=w72 l rs0 o (by decide) hr
       have e:o=w:=e
       subst e
       exact ⟨by simpa using h1,by omega,hl,ho⟩
theorem qn4 {s b z:List UInt8} {i:Nat} {acc:List Tok} (hs:s.drop i=b++z) (hb:qd4 b):lexU s i acc=lexU s (i+b.length) acc:=by
 induction b generalizing i with
 | nil=>rfl
 | cons c r ih=>
   have hc:=zd8 (w:=r++z) hs
   obtain ⟨hi,e⟩:=List.getElem?_eq_some_iff.1 hc
   have hbl:z98 s i c=some (.skip (i+1)):=by
    unfold z98
    rw [if_pos]
    rcases hb c (by simp) with rfl | rfl<;>simp
   rw [lexU,dif_pos hi]
   simp only [e,hbl]
   rw [dif_pos (by omega),ih (zi3 hs) (fun x hx=>hb x (by simp [hx]))]
   congr 1
   simp
   omega
theorem w31 {s q t z:List UInt8} {i:Nat} {op n:Int} {acc:List Tok} (hp:zc5 op q t n=true) (hn:n≤9223372036854775807) (hs:s.drop i=textS op q t n++z) (hz:Sep z) (hne:textS op q t n≠[]) (ha:acc.length<16384) :
 lexU s i acc=lexU s (i+(textS op q t n).length) (acc++[⟨op,q,t,n,false,(plc s i).1,(plc s i).2⟩]):=by
 obtain ⟨c,hc,hb,hu⟩:=w05 hp hn hs hz
 obtain ⟨hi,e⟩:=List.getElem?_eq_some_iff.1 hc
 rw [lexU,dif_pos hi]
 simp only [e,hb,hu]
 rw [if_neg (by omega),dif_pos (by have:=List.length_pos_iff.2 hne;omega)]
theorem wx2 {q t:List UInt8} {op n:Int} (hp:zc5 op q t n=true) (hn:n≤9223372036854775807):textS op q t n≠[]:=by
 intro h
 obtain ⟨c,hc,_⟩:=w05 (s:=[]) (z:=[]) (i:=0) hp hn (by rw [h];rfl) (.inl rfl)
 cases hc
end Go.Proofs.TryzL
namespace Go.Proofs.TryzL
open Go.Proofs.Lz
set_option maxHeartbeats 4000000
theorem wm0 (b:List Tok) (hb:b.length≤9223372036854775807):Rets Vv 17 [.c (.frz none []),.c (tks b)] (.c (.bool (qf4 [] b))):=by
 refine z73 wz6 ?_
 unfold tks
 have e0:([]:List CV).length=0:=rfl
 repeat' first|apply z01|exact z12|(apply z15;rfl;rfl)|(apply z30;(iterate 3 rfl))|(apply zb8;rfl)|(apply q77;rfl)|(apply z04;focus (repeat (first | exact z23 | (apply kq_c;rfl))))|apply z02|apply z00|apply z03|apply z06|apply z08|apply z09|(apply z13;rfl)|(with_reducible apply zd3;intro hc)|(with_reducible apply za8;intro hc)|(apply z97;rfl)
 · rw [j12 (by simp only [List.length_nil];omega)]
 refine ze9 (fun n:Nat=>[(1,.c (.frz (some 7) (b.map tokC))),(13,.c (.frz none [])),(14,.c (.int .i64 0)),(15,.c (.int .i64 n))]) (fun n=>n=0) (fun n=>0) 0 ?_ rfl ?_
 · repeat' first|exact z23|refine z64 rfl ?_
 rintro n rfl
 repeat' first|apply z01|exact z12|(apply z15;rfl;rfl)|(apply z30;(iterate 3 rfl))|(apply z04;focus (repeat (first | exact z23 | (apply kq_c;rfl))))|apply z02|apply z00|apply z03|apply z06|apply z08|apply z09|apply z56|(apply z13;rfl)|(with_reducible apply z67;intro hc)|(with_reducible apply z49;intro hc)|(apply z97;rfl)
 try any_goals (exfalso;omega)
 have e:b=[]:=List.length_eq_zero_iff.1 (by omega)
 subst e
 rfl
theorem wk0 (a b:List Tok) (ha:a.length≤9223372036854775807) (hb:b.length≤9223372036854775807):Rets Vv 17 [.c (tksF a),.c (tks b)] (.c (.bool (qf4 a b))):=by
 cases a with
 | nil=>exact wm0 b hb
 | cons t r=>exact wy7 _ b ha hb
end Go.Proofs.TryzL
