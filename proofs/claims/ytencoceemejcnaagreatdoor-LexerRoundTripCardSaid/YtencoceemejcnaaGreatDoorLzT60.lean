/- Chapter 02: the law about rendered texts being read again. -/
import Derived.Test.YtencoceemejcnaaGreatDoorLzT54
import Derived.Test.YtencoceemejcnaaGreatDoorLzT37
import Derived.Test.YtencoceemejcnaaGreatDoorLzT30
import Derived.Test.YtencoceemejcnaaGreatDoorLzT34
set_option linter.unusedSimpArgs false
set_option linter.unusedVariables false
namespace Go.Proofs.TryzL
set_option maxHeartbeats 4000000
theorem u8n {c:UInt8} {n:Nat} (hn:n<256):c=UInt8.ofNat n↔c.toNat=n:=by
 constructor
 · rintro rfl;simp;omega
 · intro h;apply UInt8.toNat_inj.1;simp;omega
theorem w51:∀ t∈rwordL,zq6 t=true:=by decide
theorem wu6:∀ t∈rsymL,zh4 t=true:=by decide
theorem zx7 {t:List UInt8} (h:z94 t=1∨z94 t=2∨z94 t=5):zq6 t=true:=by
 unfold z94 at h
 by_cases h1:rwordL.contains t=true
 · exact w51 t (List.contains_iff_mem.1 h1)
 · by_cases h2:rsymL.contains t=true
   · simp only [if_neg h1,if_pos h2] at h
     omega
   · cases hw:zq6 t with
     | true=>rfl
     | false=>
       simp only [if_neg h1,if_neg h2,hw,Bool.false_and,Bool.false_eq_true,if_false] at h
       repeat' (split at h)
       all_goals omega
theorem qb8 {t:List UInt8} (h:z94 t=3∨z94 t=4∨z94 t=6):zh4 t=true:=by
 unfold z94 at h
 by_cases h1:rwordL.contains t=true
 · simp only [if_pos h1] at h
   omega
 · by_cases h2:rsymL.contains t=true
   · exact wu6 t (List.contains_iff_mem.1 h2)
   · cases hw:zh4 t with
     | true=>rfl
     | false=>
       simp only [if_neg h1,if_neg h2,hw,Bool.false_and,Bool.false_eq_true,if_false] at h
       repeat' (split at h)
       all_goals omega
theorem v98 {c:UInt8} (h:wcB c=true):zb1 c=true:=by
 unfold wcB q70 at h
 unfold zb1 lowerB
 simp [upperB,z93,u8n] at h ⊢
 have e1:c=95↔c.toNat=95:=u8n (n:=95) (by decide)
 have e2:c=39↔c.toNat=39:=u8n (n:=39) (by decide)
 rw [e1,e2] at h
 omega
theorem v62 {c:UInt8} (h:wsB c=true):(upperB c||lowerB c)=true:=by
 unfold wsB q70 at h
 unfold lowerB
 have e1:c=95↔c.toNat=95:=u8n (n:=95) (by decide)
 simp [upperB,e1] at h ⊢
 omega
theorem q53 {t:List UInt8} (h:zq6 t=true):∃ c r,t=c::r∧t.length≤64∧(upperB c||lowerB c)=true∧t.all zb1=true:=by
 cases t with
 | nil=>simp [zq6] at h
 | cons c r=>
   simp only [zq6,List.getElem?_cons_zero,Bool.and_eq_true,decide_eq_true_eq] at h
   exact ⟨c,r,rfl,h.1.1,v62 h.1.2,List.all_eq_true.2 fun x hx=>v98 (List.all_eq_true.1 h.2 x hx)⟩
theorem qz2 {t:List UInt8} (h:zh4 t=true):∃ c r,t=c::r∧t.length≤64∧symB c=true∧t.all symB=true∧qi3 t=false:=by
 cases t with
 | nil=>simp [zh4] at h
 | cons c r=>
   simp only [zh4,List.getElem?_cons_zero,Bool.and_eq_true,decide_eq_true_eq,Bool.or_eq_true] at h
   refine ⟨c,r,rfl,h.1.1,List.all_eq_true.1 h.1.2 c (by simp),h.1.2,?_⟩
   unfold qi3
   rcases h.2 with h2 | h2
   · simp only [h2];rfl
   · rw [Bool.and_eq_false_iff]
     right
     rw [← Bool.not_eq_true]
     intro ha
     have:(c::r).count 45=(c::r).length:=by
      rw [List.count_eq_length]
      intro b hb
      have:=List.all_eq_true.1 ha b hb
      simpa using (beq_iff_eq.1 this).symm
     omega
theorem qr8 {c:UInt8} (h:symB c=true):c.toNat=33∨c.toNat=35∨c.toNat=36∨c.toNat=37∨c.toNat=38∨c.toNat=42∨c.toNat=43∨c.toNat=46∨c.toNat=47∨c.toNat=60∨c.toNat=61∨c.toNat=62∨c.toNat=63∨c.toNat=64∨c.toNat=92∨c.toNat=94∨c.toNat=124∨c.toNat=45∨c.toNat=126∨c.toNat=58:=by
 have h:=List.contains_iff_mem.1 h
 simp only [symS,List.mem_cons,List.not_mem_nil,or_false] at h
 rcases h with h | h | h | h | h | h | h | h | h | h | h | h | h | h | h | h | h | h | h | h<;>subst h<;>decide
theorem wh0 {c:UInt8} (h:spS.contains c=true):c.toNat=40∨c.toNat=41∨c.toNat=91∨c.toNat=93∨c.toNat=123∨c.toNat=125∨c.toNat=44∨c.toNat=59∨c.toNat=96:=by
 have h:=List.contains_iff_mem.1 h
 simp only [spS,List.mem_cons,List.not_mem_nil,or_false] at h
 rcases h with h | h | h | h | h | h | h | h | h<;>subst h<;>decide
def Sep (z:List UInt8):Prop:=z=[]∨∃ r,z=32::r∨z=10::r
theorem qc0 {p:UInt8→Bool} (h1:p 32=false) (h2:p 10=false) {z:List UInt8} (h:Sep z):∀ x,z.head?=some x→p x=false:=by
 intro x hx
 rcases h with rfl | ⟨r,rfl | rfl⟩
 · cases hx
 · injection hx with hx;subst hx;exact h1
 · injection hx with hx;subst hx;exact h2
theorem zz4 {p:UInt8→Bool} {s w z:List UInt8} {i:Nat} (hs:s.drop i=w++z) (hw:w.all p=true) (hz:∀ x,z.head?=some x→p x=false):z87 p s i=w:=by
 unfold z87
 rw [hs,List.takeWhile_append_of_pos (fun x hx=>List.all_eq_true.1 hw x hx)]
 cases z with
 | nil=>simp
 | cons c r=>rw [List.takeWhile_cons_of_neg (by simp [hz c rfl])];simp
theorem zi2 {s w:List UInt8} {i:Nat} {c:UInt8} (h:s.drop i=c::w):s[i]?=some c:=by
 have:=List.getElem?_drop (xs:=s) (i:=i) (j:=0)
 rw [h] at this
 simpa using this.symm
theorem zy9 {s w z:List UInt8} {i:Nat} (h:s.drop i=w++z):s.drop (i+w.length)=z:=by
 rw [← List.drop_drop,h,List.drop_left]
theorem jv9 {s z:List UInt8} {i:Nat} (h:s.drop i=z):s[i]?=z.head?:=by
 rw [← h,List.head?_drop]
theorem zk5 {s r:List UInt8} {i:Nat} {c:UInt8} (h:s.drop i=c::r) (h1:c≠32) (h2:c≠9) (h3:c≠10) (h4:c=45→qi3 (z87 symB s i)=false) (h5:c=123→r.head?≠some 45):za9 s i c=none:=by
 unfold za9
 rw [if_neg (by simp [h1,h2,h3]),if_neg (by rintro ⟨a,b⟩;rw [h4 a] at b;cases b),if_neg]
 rw [h]
 intro hp
 cases r with
 | nil=>simp at hp
 | cons d r=>
   simp at hp
   exact h5 hp.1.symm (by simp [hp.2])
theorem j11 {s t z:List UInt8} {i:Nat} (hs:s.drop i=t++z) (hz:Sep z) (ht:zq6 t=true):∃ c,s[i]?=some c∧za9 s i c=none∧z74 s i c=.tok (nmOp t) [] t 0 (i+t.length):=by
 obtain ⟨c,r,e,hl,hc,ha⟩:=q53 ht
 have hc0:=hc
 simp [upperB,lowerB] at hc0
 have hsp:z87 zb1 s i=t:=zz4 hs ha (qc0 (by decide) (by decide) hz)
 refine ⟨c,zi2 (w:=r++z) (by rw [hs,e];rfl),?_,?_⟩
 · refine zk5 (r:=r++z) (by rw [hs,e];rfl) ?_ ?_ ?_ ?_ ?_
   all_goals (intro h;subst h;simp at hc0)
 · unfold z74
   rw [if_pos hc]
   unfold zu2
   simp only [hsp]
   rw [if_neg]
   · unfold zm1
     rw [if_neg (by simp),if_neg (by omega)]
   · rintro ⟨_,h,_⟩
     rw [jv9 (zy9 hs)] at h
     have:=qc0 (p:=fun x=>x==46) (by decide) (by decide) hz _ h
     simp at this
theorem wl8 {s q t z:List UInt8} {i:Nat} (hs:s.drop i=q++(46::(t++z))) (hz:Sep z) (hq:zq6 q=true) (hu:q40 q=true) (ht:(zq6 t=true∧z94 t≠5)∨(zh4 t=true∧z94 t≠6)):∃ c,s[i]?=some c∧za9 s i c=none∧z74 s i c=.tok (nmOp t) q t 0 (i+q.length+1+t.length):=by
 obtain ⟨c,r,e,hl,hc,ha⟩:=q53 hq
 have hc0:=hc
 simp [upperB,lowerB] at hc0
 have hsp:z87 zb1 s i=q:=zz4 hs ha (by intro x hx;injection hx with hx;subst hx;decide)
 have hd:s.drop (i+q.length)=46::(t++z):=zy9 hs
 have hd1:s.drop (i+q.length+1)=t++z:=by rw [← List.drop_drop,hd];rfl
 have hqs:q45 s (i+q.length+1)=t∧t≠[]∧t.length≤64:=by
  unfold q45
  rcases ht with ⟨h1,h2⟩ | ⟨h1,h2⟩
  · obtain ⟨d,r',e',hl',hd',ha'⟩:=q53 h1
    rw [zi2 (w:=r'++z) (by rw [hd1,e'];rfl)]
    dsimp only
    rw [if_pos hd',zz4 hd1 ha' (qc0 (by decide) (by decide) hz),if_neg h2]
    exact ⟨rfl,by rw [e'];simp,hl'⟩
  · obtain ⟨d,r',e',hl',hd',ha',hda⟩:=qz2 h1
    rw [zi2 (w:=r'++z) (by rw [hd1,e'];rfl)]
    have:=qr8 hd'
    dsimp only
    rw [if_neg (by simp [upperB,lowerB];omega),zz4 hd1 ha' (qc0 (by decide) (by decide) hz),hda,if_neg (by simp [h2])]
    exact ⟨rfl,by rw [e'];simp,hl'⟩
 obtain ⟨hqs,hne,htl⟩:=hqs
 have hci:s[i]?=some c:=zi2 (w:=r++(46::(t++z))) (by rw [hs,e];rfl)
 refine ⟨c,hci,?_,?_⟩
 · refine zk5 (r:=r++(46::(t++z))) (by rw [hs,e];rfl) ?_ ?_ ?_ ?_ ?_
   all_goals (intro h;subst h;simp at hc0)
 · unfold z74
   rw [if_pos hc]
   unfold zu2
   simp only [hsp,hqs]
   have hup:upperB c=true:=by rw [e] at hu;simpa [q40] using hu
   rw [if_pos ⟨⟨c,hci,hup⟩,zi2 hd,hne⟩]
   unfold zm1
   rw [if_neg (by omega),if_neg (by omega)]
theorem jo2 {s t z:List UInt8} {i:Nat} (hs:s.drop i=t++z) (hz:Sep z) (ht:zh4 t=true):∃ c,s[i]?=some c∧za9 s i c=none∧z74 s i c=.tok (nmOp t) [] t 0 (i+t.length):=by
 obtain ⟨c,r,e,hl,hc,ha,hda⟩:=qz2 ht
 have hsp:z87 symB s i=t:=zz4 hs ha (qc0 (by decide) (by decide) hz)
 have hcl:=qr8 hc
 have e39:c=39↔c.toNat=39:=u8n (n:=39) (by decide)
 have e34:c=34↔c.toNat=34:=u8n (n:=34) (by decide)
 refine ⟨c,zi2 (w:=r++z) (by rw [hs,e];rfl),?_,?_⟩
 · refine zk5 (r:=r++z) (by rw [hs,e];rfl) ?_ ?_ ?_ ?_ ?_
   · intro h;subst h;simp at hcl
   · intro h;subst h;simp at hcl
   · intro h;subst h;simp at hcl
   · intro _;rw [hsp];exact hda
   · intro h;subst h;simp at hcl
 · unfold z74
   rw [if_neg (by simp [upperB,lowerB];omega),if_neg (by simp [z93];omega),if_neg (by rw [e39,e34];omega),if_pos hc,hsp]
   unfold zm1
   rw [if_neg (by simp),if_neg (by omega)]
theorem v41 {s z:List UInt8} {i:Nat} {c:UInt8} (hs:s.drop i=[c]++z) (hz:Sep z) (hc:spS.contains c=true):s[i]?=some c∧za9 s i c=none∧z74 s i c=.tok 8 [] [c] 0 (i+1):=by
 have hcl:=wh0 hc
 have e39:c=39↔c.toNat=39:=u8n (n:=39) (by decide)
 have e34:c=34↔c.toNat=34:=u8n (n:=34) (by decide)
 refine ⟨zi2 hs,?_,?_⟩
 · refine zk5 hs ?_ ?_ ?_ ?_ ?_
   · intro h;subst h;simp at hcl
   · intro h;subst h;simp at hcl
   · intro h;subst h;simp at hcl
   · intro h;subst h;simp at hcl
   · intro _ h
     have:=qc0 (p:=fun x=>x==45) (by decide) (by decide) hz _ h
     simp at this
 · unfold z74
   have hns:symB c≠true:=by intro h;have:=qr8 h;omega
   rw [if_neg (by simp [upperB,lowerB];omega),if_neg (by simp [z93];omega),if_neg (by rw [e39,e34];omega),if_neg hns,if_pos hc]
theorem w72:∀ (a b:List UInt8) (v:Nat),numF (a++b) v=(numF a v).bind fun w=>numF b w:=by
 intro a
 induction a with
 | nil=>intro b v;rfl
 | cons c r ih=>
   intro b v
   simp only [List.cons_append,numF]
   split
   · exact ih _ _
   · rfl
theorem j94 {d:Nat} (h:d<10):z93 (UInt8.ofNat (48+d))=true∧(UInt8.ofNat (48+d)).toNat=48+d:=by
 have e:(UInt8.ofNat (48+d)).toNat=48+d:=by simp;omega
 refine ⟨?_,e⟩
 unfold z93
 rw [e]
 simp
 omega
theorem jj4 (m:Nat):(Lib.decDigits m).all z93=true:=by
 induction m using Nat.strongRecOn with
 | ind m ih=>
   rw [Lib.decDigits]
   split
   · simp only [List.all_cons,List.all_nil,Bool.and_true];exact (j94 (by omega)).1
   · simp only [List.all_append,List.all_cons,List.all_nil,Bool.and_true,Bool.and_eq_true]
     exact ⟨ih _ (by omega),(j94 (by omega)).1⟩
theorem jr2 (m:Nat):∃ c r,Lib.decDigits m=c::r:=by
 cases h:Lib.decDigits m with
 | nil=>rw [Lib.decDigits] at h;split at h<;>simp at h
 | cons c r=>exact ⟨c,r,rfl⟩
theorem j19 (m:Nat) (h:m≤9223372036854775807):numF (Lib.decDigits m) 0=some m:=by
 induction m using Nat.strongRecOn with
 | ind m ih=>
   rw [Lib.decDigits]
   split
   · obtain ⟨h1,h2⟩:=j94 (d:=m) (by omega)
     rw [numF,if_pos ⟨h1,by omega⟩,h2,numF]
     congr 1
     omega
   · obtain ⟨h1,h2⟩:=j94 (d:=m % 10) (by omega)
     rw [w72,ih _ (by omega) (by omega),Option.bind_some,numF,if_pos ⟨h1,by rw [h2];omega⟩,h2,numF]
     congr 1
     omega
theorem ww5 {s z:List UInt8} {i:Nat} {n:Int} (hn:0≤n∧n≤9223372036854775807) (hs:s.drop i=Lib.itoa n++z) (hz:Sep z):∃ c,s[i]?=some c∧za9 s i c=none∧z74 s i c=.tok 5 [] [] n (i+(Lib.itoa n).length):=by
 have e:Lib.itoa n=Lib.decDigits n.toNat:=by unfold Lib.itoa;rw [if_neg (by omega)]
 rw [e] at hs ⊢
 have ha:=jj4 n.toNat
 have hf:=j19 n.toNat (by omega)
 obtain ⟨c,r,ec⟩:=jr2 n.toNat
 have hd:z93 c=true:=List.all_eq_true.1 ha c (by rw [ec];simp)
 have hd0:=hd
 simp [z93] at hd0
 have hsp:z87 z93 s i=Lib.decDigits n.toNat:=zz4 hs ha (qc0 (by decide) (by decide) hz)
 refine ⟨c,zi2 (w:=r++z) (by rw [hs,ec];rfl),?_,?_⟩
 · refine zk5 (r:=r++z) (by rw [hs,ec];rfl) ?_ ?_ ?_ ?_ ?_
   all_goals (intro h;subst h;simp at hd0)
 · unfold z74
   rw [if_neg (by simp [upperB,lowerB];omega),if_pos hd]
   unfold numU
   rw [hsp,hf]
   dsimp only
   congr 1
   omega
theorem step_none {s z:List UInt8} {i j:Nat} {c:UInt8} (h:s.drop j=c::z) (hc:32≤c.toNat∧c.toNat≤126):zi7 s i j=none∧s.getD j 0=c:=by
 have hg:=zi2 h
 constructor
 · unfold zi7
   rw [hg]
   dsimp only
   rw [if_neg (by simp [q34];omega),if_neg (by omega)]
 · simp [List.getD,hg]
theorem zm2 {s z:List UInt8} {j:Nat} {c:UInt8} (h:s.drop j=c::z):s.drop (j+1)=z:=by rw [← List.drop_drop,h];rfl
theorem wr5:∀ k:Fin 16,hexV (hexd k)=some k.val∧32≤(hexd k).toNat∧(hexd k).toNat≤126:=by decide
theorem j95 {k:Nat} (h:k<16):hexV (hexd k)=some k∧32≤(hexd k).toNat∧(hexd k).toNat≤126:=wr5 ⟨k,h⟩
theorem w73 {s z:List UInt8} {i j:Nat} {c m:UInt8} (hm:m=39∨m=34) (h:s.drop j=escB c m++z):zi7 s i j=none∧s.getD j 0≠m∧zo2 s i (s.getD j 0) (j+1)=.ok c (j+(escB c m).length):=by
 have hm92:(92:UInt8)≠m:=by rcases hm with rfl | rfl<;>decide
 have em:m.toNat=39∨m.toNat=34:=by rcases hm with rfl | rfl<;>decide
 have key:∀ d,escB c m=[92,d]→(32≤d.toNat∧d.toNat≤126)→((d=110∧c=10)∨(d=116∧c=9)∨((d=92∨d=39∨d=34)∧c=d))→zi7 s i j=none∧s.getD j 0≠m∧zo2 s i (s.getD j 0) (j+1)=.ok c (j+(escB c m).length):=by
  intro d he hd hk
  rw [he] at h ⊢
  have h1:s.drop j=92::(d::z):=h
  obtain ⟨a1,a2⟩:=step_none (i:=i) h1 (by decide)
  obtain ⟨b1,b2⟩:=step_none (i:=i) (zm2 h1) hd
  rw [a2]
  refine ⟨a1,hm92,?_⟩
  unfold zo2
  rw [if_neg (by simp),b1]
  dsimp only
  rw [b2]
  rcases hk with ⟨rfl,rfl⟩ | ⟨rfl,rfl⟩ | ⟨hk,rfl⟩
  · rfl
  · rfl
  · rcases hk with rfl | rfl | rfl<;>rfl
 by_cases h10:c=10
 · exact key 110 (by unfold escB;rw [if_pos h10]) (by decide) (by simp [h10])
 by_cases h9:c=9
 · exact key 116 (by unfold escB;rw [if_neg h10,if_pos h9]) (by decide) (by simp [h9])
 by_cases h92:c=92∨c=m
 · refine key c (by unfold escB;rw [if_neg h10,if_neg h9,if_pos h92]) ?_ ?_
   · rcases h92 with rfl | rfl
     · decide
     · omega
   · rcases h92 with rfl | rfl
     · simp
     · rcases hm with rfl | rfl<;>simp
 by_cases hp:32≤c.toNat∧c.toNat≤126
 · have he:escB c m=[c]:=by unfold escB;rw [if_neg h10,if_neg h9,if_neg h92,if_pos hp]
   rw [he] at h ⊢
   obtain ⟨a1,a2⟩:=step_none (i:=i) (show s.drop j=c::z from h) hp
   rw [a2]
   refine ⟨a1,fun e=>h92 (.inr e),?_⟩
   unfold zo2
   rw [if_pos (fun e=>h92 (.inl e))]
   rfl
 · have he:escB c m=[92,120,hexd (c.toNat / 16),hexd (c.toNat % 16)]:=by unfold escB;rw [if_neg h10,if_neg h9,if_neg h92,if_neg hp]
   have hlt:=c.toNat_lt
   obtain ⟨x1,x2⟩:=j95 (k:=c.toNat / 16) (by omega)
   obtain ⟨y1,y2⟩:=j95 (k:=c.toNat % 16) (by omega)
   rw [he] at h ⊢
   have h1:s.drop j=92::(120::hexd (c.toNat / 16)::hexd (c.toNat % 16)::z):=h
   obtain ⟨a1,a2⟩:=step_none (i:=i) h1 (by decide)
   have h2:=zm2 h1
   obtain ⟨b1,b2⟩:=step_none (i:=i) h2 (by decide)
   have h3:=zm2 h2
   obtain ⟨c1,c2⟩:=step_none (i:=i) h3 x2
   have h4:=zm2 h3
   obtain ⟨d1,d2⟩:=step_none (i:=i) h4 y2
   rw [a2]
   refine ⟨a1,hm92,?_⟩
   unfold zo2
   rw [if_neg (by simp),b1]
   dsimp only
   rw [b2,if_neg (by decide),if_neg (by decide),if_neg (by decide),if_pos rfl,hexS,c1]
   dsimp only
   rw [c2,x1]
   dsimp only
   rw [hexS,d1]
   dsimp only
   rw [d2,y1]
   dsimp only
   rw [hexS]
   have:UInt8.ofNat (16 * (16 * 0+c.toNat / 16)+c.toNat % 16)=c:=by
    rw [show 16 * (16 * 0+c.toNat / 16)+c.toNat % 16=c.toNat by omega]
    simp
   rw [this]
   rfl
theorem jb4 {s z t:List UInt8} {i j:Nat} {m:UInt8} (hm:m=39∨m=34) (h:s.drop j=m::z):litS s i m t j=.ok t (j+1):=by
 have hc:32≤m.toNat∧m.toNat≤126:=by rcases hm with rfl | rfl<;>decide
 obtain ⟨a1,a2⟩:=step_none (i:=i) h hc
 rw [litS]
 split
 · rename_i h0;rw [a1] at h0;cases h0
 · rw [if_pos a2]
theorem jb8 {s z t:List UInt8} {i j:Nat} {c m:UInt8} (hm:m=39∨m=34) (h:s.drop j=escB c m++z) (hl:t.length<200) (h39:m=39→t=[]):litS s i m t j=litS s i m (t++[c]) (j+(escB c m).length):=by
 obtain ⟨a1,a2,a3⟩:=w73 (i:=i) hm h
 rw [litS]
 split
 · rename_i h0;rw [a1] at h0;cases h0
 · rw [if_neg a2,if_neg (by rintro ⟨e,e2⟩;rw [h39 e] at e2;cases e2)]
   split
   · rename_i h0;rw [a3] at h0;cases h0
   · rename_i b e h0
     rw [a3] at h0
     injection h0 with e1 e2
     subst e1 e2
     rw [if_neg (by omega)]
theorem ws4 {s z:List UInt8} {i:Nat}:∀ (u t:List UInt8) (j:Nat),s.drop j=escS u 34++(34::z)→t.length+u.length≤200→litS s i 34 t j=.ok (t++u) (j+(escS u 34).length+1):=by
 intro u
 induction u with
 | nil=>
   intro t j h _
   rw [jb4 (.inr rfl) h]
   simp [escS]
 | cons c u ih=>
   intro t j h hl
   have h:s.drop j=escB c 34++(escS u 34++(34::z)):=by
    rw [h];simp [escS]
   rw [jb8 (.inr rfl) h (by simp at hl;omega) (fun e=>absurd e (by decide)),ih _ _ (zy9 h) (by simp at hl ⊢;omega)]
   simp [escS]
   omega
theorem wt2 {s u z:List UInt8} {i:Nat} (hs:s.drop i=([34]++escS u 34++[34])++z) (hl:u.length≤200):s[i]?=some 34∧za9 s i 34=none∧z74 s i 34=.tok 7 [] u 0 (i+([34]++escS u 34++[34]).length):=by
 have h:s.drop i=34::(escS u 34++(34::z)):=by rw [hs];simp
 refine ⟨zi2 h,zk5 h (by decide) (by decide) (by decide) (fun e=>absurd e (by decide)) (fun e=>absurd e (by decide)),?_⟩
 unfold z74
 rw [if_neg (by decide),if_neg (by decide),if_pos (.inr rfl)]
 unfold litU
 rw [ws4 u [] (i+1) (zm2 h) (by simpa using hl)]
 unfold quoU
 dsimp only
 rw [if_neg (by decide)]
 simp
 omega
theorem ws7 {s z:List UInt8} {i:Nat} {c:UInt8} (hs:s.drop i=([39]++escB c 39++[39])++z):s[i]?=some 39∧za9 s i 39=none∧z74 s i 39=.tok 6 [] [] c.toNat (i+([39]++escB c 39++[39]).length):=by
 have h:s.drop i=39::(escB c 39++(39::z)):=by rw [hs];simp
 refine ⟨zi2 h,zk5 h (by decide) (by decide) (by decide) (fun e=>absurd e (by decide)) (fun e=>absurd e (by decide)),?_⟩
 unfold z74
 rw [if_neg (by decide),if_neg (by decide),if_pos (.inl rfl)]
 unfold litU
 rw [jb8 (.inl rfl) (zm2 h) (by simp) (by simp),jb4 (.inl rfl) (zy9 (zm2 h))]
 unfold quoU
 dsimp only [List.nil_append]
 rw [if_pos rfl]
 simp
 omega
end Go.Proofs.TryzL
namespace Go.Proofs.TryzL
set_option maxHeartbeats 4000000
theorem j63 {t:List UInt8} {op:Int} (h:(op=1∧z94 t=1)∨(op=2∧z94 t=2)∨(op=3∧z94 t=3)∨(op=4∧z94 t=4)∨(op=9∧z94 t=5)∨(op=10∧z94 t=6)):nmOp t=op:=by
 unfold nmOp
 rcases h with ⟨rfl,h⟩ | ⟨rfl,h⟩ | ⟨rfl,h⟩ | ⟨rfl,h⟩ | ⟨rfl,h⟩ | ⟨rfl,h⟩<;>rw [h]<;>rfl
theorem qa3 {s t z q:List UInt8} {i:Nat} {op:Int} (hq:q=[]∨z94 q=2) (hs:s.drop i=(if q=[] then t else q++[46]++t)++z) (hz:Sep z) (h:(op=1∧z94 t=1)∨(op=2∧z94 t=2)∨(op=3∧z94 t=3)∨(op=4∧z94 t=4)):∃ c,s[i]?=some c∧za9 s i c=none∧z74 s i c=.tok op q t 0 (i+(if q=[] then t else q++[46]++t).length):=by
 have hop:nmOp t=op:=j63 (by rcases h with h | h | h | h<;>simp [h])
 by_cases hq0:q=[]
 · subst hq0
   simp only [if_true] at hs ⊢
   rw [← hop]
   rcases h with ⟨_,h⟩ | ⟨_,h⟩ | ⟨_,h⟩ | ⟨_,h⟩
   · exact j11 hs hz (zx7 (.inl h))
   · exact j11 hs hz (zx7 (.inr (.inl h)))
   · exact jo2 hs hz (qb8 (.inl h))
   · exact jo2 hs hz (qb8 (.inr (.inl h)))
 · have hq2:z94 q=2:=hq.resolve_left hq0
   rw [if_neg hq0] at hs ⊢
   have hu:q40 q=true:=by
    have h:=hq2
    unfold z94 at h
    cases hu:q40 q with
    | true=>rfl
    | false=>
      simp only [hu,Bool.and_false,Bool.false_eq_true,if_false] at h
      repeat' (split at h)
      all_goals omega
   have:=wl8 (s:=s) (q:=q) (t:=t) (z:=z) (i:=i) (by rw [hs];simp) hz (zx7 (.inr (.inl hq2))) hu (by
    rcases h with ⟨_,h⟩ | ⟨_,h⟩ | ⟨_,h⟩ | ⟨_,h⟩
    · exact .inl ⟨zx7 (.inl h),by omega⟩
    · exact .inl ⟨zx7 (.inr (.inl h)),by omega⟩
    · exact .inr ⟨qb8 (.inl h),by omega⟩
    · exact .inr ⟨qb8 (.inr (.inl h)),by omega⟩)
   rw [hop] at this
   have e:i+q.length+1+t.length=i+(q++[46]++t).length:=by simp;omega
   rw [e] at this
   exact this
theorem jv5 {s z q t:List UInt8} {i:Nat} {op n:Int} (hp:zc1 op q t n=true) (hn:n≤9223372036854775807) (hs:s.drop i=textS op q t n++z) (hz:Sep z) :
 ∃ c,s[i]?=some c∧za9 s i c=none∧z74 s i c=.tok op q t n (i+(textS op q t n).length):=by
 unfold zc1 at hp
 simp only [Bool.and_eq_true,Bool.or_eq_true,decide_eq_true_eq] at hp
 obtain ⟨hq,hb⟩:=hp
 have hq':q=[]∨z94 q=2:=hq.imp id (fun h=>h.2)
 have hq0:¬ (1≤op∧op≤4)→q=[]:=fun h=>hq.resolve_right (fun g=>h g.1)
 unfold textS at hs ⊢
 unfold zz5 at hb
 by_cases o1:op=1
 · subst o1
   simp at hb hs ⊢
   obtain ⟨h1,rfl⟩:=hb
   simpa using qa3 hq' (by simpa using hs) hz (.inl ⟨rfl,h1⟩)
 by_cases o2:op=2
 · subst o2
   simp at hb hs ⊢
   obtain ⟨h1,rfl⟩:=hb
   simpa using qa3 hq' (by simpa using hs) hz (.inr (.inl ⟨rfl,h1⟩))
 by_cases o3:op=3
 · subst o3
   simp at hb hs ⊢
   obtain ⟨h1,rfl⟩:=hb
   simpa using qa3 hq' (by simpa using hs) hz (.inr (.inr (.inl ⟨rfl,h1⟩)))
 by_cases o4:op=4
 · subst o4
   simp at hb hs ⊢
   obtain ⟨h1,rfl⟩:=hb
   simpa using qa3 hq' (by simpa using hs) hz (.inr (.inr (.inr ⟨rfl,h1⟩)))
 have hqe:q=[]:=hq0 (by omega)
 subst hqe
 simp only [if_neg o1,if_neg o2,if_neg o3,if_neg o4] at hb
 by_cases o9:op=9
 · subst o9
   simp at hb hs ⊢
   obtain ⟨h1,rfl⟩:=hb
   have:=j11 hs hz (zx7 (.inr (.inr h1)))
   rw [j63 (.inr (.inr (.inr (.inr (.inl ⟨rfl,h1⟩)))))] at this
   exact this
 by_cases o10:op=10
 · subst o10
   simp at hb hs ⊢
   obtain ⟨h1,rfl⟩:=hb
   have:=jo2 hs hz (qb8 (.inr (.inr h1)))
   rw [j63 (.inr (.inr (.inr (.inr (.inr ⟨rfl,h1⟩)))))] at this
   exact this
 simp only [if_neg o9,if_neg o10] at hb
 by_cases o8:op=8
 · subst o8
   simp only [if_true,Bool.and_eq_true,decide_eq_true_eq] at hb
   simp at hs ⊢
   obtain ⟨⟨h1,h2⟩,rfl⟩:=hb
   obtain ⟨c,rfl⟩:=List.length_eq_one_iff.1 h1
   exact ⟨c,v41 hs hz h2⟩
 simp only [if_neg o8] at hb
 by_cases o7:op=7
 · subst o7
   simp only [if_true,Bool.and_eq_true,decide_eq_true_eq] at hb
   obtain ⟨h1,rfl⟩:=hb
   rw [if_neg (by decide),if_neg (by decide),if_pos rfl] at hs ⊢
   exact ⟨34,wt2 hs h1⟩
 simp only [if_neg o7] at hb
 by_cases o5:op=5
 · subst o5
   simp only [if_true,Bool.and_eq_true,decide_eq_true_eq] at hb
   obtain ⟨rfl,h1⟩:=hb
   rw [if_pos rfl] at hs ⊢
   exact ww5 ⟨h1,hn⟩ hs hz
 simp only [if_neg o5] at hb
 by_cases o6:op=6
 · subst o6
   simp only [if_true,Bool.and_eq_true,decide_eq_true_eq] at hb
   obtain ⟨⟨rfl,h1⟩,h2⟩:=hb
   rw [if_neg (by decide),if_pos rfl] at hs ⊢
   unfold qcS at hs ⊢
   rw [if_pos ⟨h1,h2⟩] at hs ⊢
   have e:(((UInt8.ofNat n.toNat).toNat:Nat):Int)=n:=by simp;omega
   have:=ws7 hs
   rw [e] at this
   exact ⟨39,this⟩
 simp [o6] at hb
def qh4 (b:List UInt8):Prop:=∀ x∈b,x=32∨x=10
def Lay:List Tok→List UInt8→Prop
 | [],w=>w=[]
 | t::r,w=>∃ b w',w=b++(tokT t++w')∧qh4 b∧Sep w'∧Lay r w'
theorem wq0 {b w:List UInt8} (hb:qh4 b) (hne:b≠[]):Sep (b++w):=by
 cases b with
 | nil=>exact absurd rfl hne
 | cons c r=>
   rcases hb c (by simp) with rfl | rfl
   · exact .inr ⟨_,.inl rfl⟩
   · exact .inr ⟨_,.inr rfl⟩
theorem wc5 (n:Nat):Lib.repeatL [32] n=List.replicate n 32:=by
 induction n with
 | zero=>rfl
 | succ n ih=>rw [Lib.repeatL,ih,List.replicate_succ];rfl
theorem jy3 {a b:List UInt8} (ha:qh4 a) (hb:qh4 b):qh4 (a++b):=by
 intro x hx
 rcases List.mem_append.1 hx with h | h
 · exact ha x h
 · exact hb x h
theorem qu9 (n:Nat):qh4 (List.replicate n 10)∧qh4 (Lib.repeatL [32] n):=by
 constructor
 · intro x hx;exact .inr (List.eq_of_mem_replicate hx)
 · rw [wc5];intro x hx;exact .inl (List.eq_of_mem_replicate hx)
theorem wo0 (t:Tok) (s:RS):∃ b,(rnl t s).out=s.out++b∧qh4 b∧((rnl t s).first=false→s.first=false)∧(s.first=false→(rnl t s).first=true→b≠[]):=by
 unfold rnl
 split
 · exact ⟨[],by simp,fun x hx=>by simp at hx,id,fun h1 h2=>by rw [h1] at h2;cases h2⟩
 · rename_i h
   refine ⟨List.replicate (nlK t s) 10,rfl,(qu9 _).1,fun g=>Bool.noConfusion g,fun _ _=>?_⟩
   rw [Ne,List.replicate_eq_nil_iff]
   exact h
theorem wk3 (t:Tok) (s:RS):∃ b,(rsp t s).out=s.out++b∧qh4 b∧(s.first=false→b≠[]):=by
 unfold rsp
 split
 · refine ⟨_,rfl,(qu9 _).2,fun _=>?_⟩
   rename_i h
   rw [wc5,Ne,List.replicate_eq_nil_iff]
   omega
 · split
   · rename_i h
     exact ⟨[],by simp,fun x hx=>by simp at hx,fun g=>by rw [g] at h;cases h⟩
   · exact ⟨[32],rfl,fun x hx=>by simp at hx;exact .inl hx,fun _=>by simp⟩
theorem w16 (t:Tok) (s:RS):∃ b,(zj0 t s).out=s.out++(b++tokT t)∧qh4 b∧(s.first=false→b≠[])∧(zj0 t s).first=false:=by
 obtain ⟨b1,e1,a1,f1,g1⟩:=wo0 t s
 obtain ⟨b2,e2,a2,g2⟩:=wk3 t (rnl t s)
 refine ⟨b1++b2,?_,jy3 a1 a2,fun hs=>?_,rfl⟩
 · unfold zj0 rtx
   dsimp only
   rw [e2,e1]
   simp
 · cases hf:(rnl t s).first with
   | true=>have:=g1 hs hf;simp [this]
   | false=>have:=g2 hf;simp [this]
theorem w90:∀ (l:List Tok) (s:RS) (out:List UInt8),s.out.length≤65536→rend l s=some out→∃ w,out=s.out++w∧Lay l w∧(s.first=false→Sep w)∧out.length≤65536:=by
 intro l
 induction l with
 | nil=>
   intro s out h0 h
   injection h with h
   subst h
   exact ⟨[],by simp,rfl,fun _=>.inl rfl,h0⟩
 | cons t r ih=>
   intro s out h0 h
   rw [rend] at h
   split at h
   · cases h
   · rename_i hle
     obtain ⟨w,e,hl,hs,ho⟩:=ih _ _ (by omega) h
     obtain ⟨b,e1,a1,f1,f2⟩:=w16 t s
     refine ⟨b++(tokT t++w),by rw [e,e1];simp,⟨b,w,rfl,a1,hs f2,hl⟩,fun hf=>wq0 a1 (f1 hf),ho⟩
theorem w49 {l:List Tok} (h:(zu3 l).2=0):l.all qy2=true∧l.length≤16384∧Lay l (zu3 l).1∧(zu3 l).1.length≤65536:=by
 unfold zu3 at h ⊢
 split at h
 · cases h
 · split at h
   · cases h
   · rename_i h1 h2
     rw [if_neg h1,if_neg h2]
     cases hr:rend l rs0 with
     | none=>rw [hr] at h;cases h
     | some o=>
       obtain ⟨w,e,hl,_,ho⟩:=w90 l rs0 o (by decide) hr
       have e:o=w:=e
       subst e
       exact ⟨by simpa using h1,by omega,hl,ho⟩
theorem jh3 {s b z:List UInt8} {i:Nat} {acc:List Tok} (hs:s.drop i=b++z) (hb:qh4 b):lexU s i acc=lexU s (i+b.length) acc:=by
 induction b generalizing i with
 | nil=>rfl
 | cons c r ih=>
   have hc:=zi2 (w:=r++z) hs
   obtain ⟨hi,e⟩:=List.getElem?_eq_some_iff.1 hc
   have hbl:za9 s i c=some (.skip (i+1)):=by
    unfold za9
    rw [if_pos]
    rcases hb c (by simp) with rfl | rfl<;>simp
   rw [lexU,dif_pos hi]
   simp only [e,hbl]
   rw [dif_pos (by omega),ih (zm2 hs) (fun x hx=>hb x (by simp [hx]))]
   congr 1
   simp
   omega
theorem wc0 {s q t z:List UInt8} {i:Nat} {op n:Int} {acc:List Tok} (hp:zc1 op q t n=true) (hn:n≤9223372036854775807) (hs:s.drop i=textS op q t n++z) (hz:Sep z) (hne:textS op q t n≠[]) (ha:acc.length<16384) :
 lexU s i acc=lexU s (i+(textS op q t n).length) (acc++[⟨op,q,t,n,false,(plc s i).1,(plc s i).2⟩]):=by
 obtain ⟨c,hc,hb,hu⟩:=jv5 hp hn hs hz
 obtain ⟨hi,e⟩:=List.getElem?_eq_some_iff.1 hc
 rw [lexU,dif_pos hi]
 simp only [e,hb,hu]
 rw [if_neg (by omega),dif_pos (by have:=List.length_pos_iff.2 hne;omega)]
theorem v02 {q t:List UInt8} {op n:Int} (hp:zc1 op q t n=true) (hn:n≤9223372036854775807):textS op q t n≠[]:=by
 intro h
 obtain ⟨c,hc,_⟩:=jv5 (s:=[]) (z:=[]) (i:=0) hp hn (by rw [h];rfl) (.inl rfl)
 cases hc
theorem wc3 {s:List UInt8}:∀ (l:List Tok) (w:List UInt8) (i:Nat) (acc:List Tok),Lay l w→s.drop i=w→l.all qy2=true→(∀ t∈l,t.n≤9223372036854775807)→acc.length+l.length≤16384→∃ l',lexU s i acc=.ok (acc++l')∧l'.map keyT=l.map keyT:=by
 intro l
 induction l with
 | nil=>
   intro w i acc hl hs _ _ _
   have hl:w=[]:=hl
   subst hl
   refine ⟨[],?_,rfl⟩
   have:s.length≤i:=by simpa using hs
   rw [lexU,dif_neg (by omega)]
   simp
 | cons t r ih=>
   intro w i acc hl hs hp hn ha
   obtain ⟨b,w',rfl,hb,hz,hl⟩:=hl
   simp only [List.all_cons,Bool.and_eq_true] at hp
   have hp1:zc1 t.op t.qual t.text t.n=true:=hp.1
   have hn1:=hn t (by simp)
   have h2:=zy9 hs
   simp only [List.length_cons] at ha
   rw [jh3 hs hb,wc0 hp1 hn1 h2 hz (v02 hp1 hn1) (by omega)]
   obtain ⟨l',e1,e2⟩:=ih w' _ (acc++[⟨t.op,t.qual,t.text,t.n,false,(plc s (i+b.length)).1,(plc s (i+b.length)).2⟩]) hl (zy9 h2) hp.2 (fun x hx=>hn x (by simp [hx])) (by simp;omega)
   refine ⟨⟨t.op,t.qual,t.text,t.n,false,(plc s (i+b.length)).1,(plc s (i+b.length)).2⟩::l',?_,?_⟩
   · show lexU s (i+b.length+(tokT t).length) _=_
     rw [e1];simp
   · simp only [List.map_cons,e2];rfl
theorem jh5 {l:List Tok} (hn:∀ t∈l,t.n≤9223372036854775807) (h:(zu3 l).2=0):∃ l',lexU (zu3 l).1 0 []=.ok l'∧l'.map keyT=l.map keyT∧(zu3 l).1.length≤65536:=by
 obtain ⟨h1,h2,h3,h4⟩:=w49 h
 obtain ⟨l',e1,e2⟩:=wc3 (s:=(zu3 l).1) l (zu3 l).1 0 [] h3 rfl h1 hn (by simpa using h2)
 exact ⟨l',by simpa using e1,e2,h4⟩
end Go.Proofs.TryzL
namespace Go.Proofs.TryzL
open Go.Proofs.Lz
set_option maxHeartbeats 4000000
theorem wk5 (b:List Tok) (hb:b.length≤9223372036854775807):Rets Vv 17 [.c (.frz none []),.c (tks b)] (.c (.bool (q33 [] b))):=by
 refine z67 wz8 ?_
 unfold tks
 have e0:([]:List CV).length=0:=rfl
 repeat' first
  | apply z01
  | exact z13
  | (apply z15;rfl;rfl)
  | (apply z30;(iterate 3 rfl))
  | (apply zb8;rfl)
  | (apply q65;rfl)
  | (apply z04;focus (repeat (first | exact z23 | (apply kq_c;rfl))))
  | apply z02
  | apply z00
  | apply z03
  | apply z05
  | apply z07
  | apply z09
  | (apply z12;rfl)
  | (with_reducible apply zd3;intro hc)
  | (with_reducible apply za6;intro hc)
  | (apply z98;rfl)
 · rw [q43 (by simp only [List.length_nil];omega)]
 refine zd2 (fun n:Nat=>[(1,.c (.frz (some 7) (b.map tokC))),(13,.c (.frz none [])),(14,.c (.int .i64 0)),(15,.c (.int .i64 n))]) (fun n=>n=0) (fun n=>0) 0 ?_ rfl ?_
 · repeat' first
    | exact z23
    | refine z64 rfl ?_
 rintro n rfl
 repeat' first
  | apply z01
  | exact z13
  | (apply z15;rfl;rfl)
  | (apply z30;(iterate 3 rfl))
  | (apply z04;focus (repeat (first | exact z23 | (apply kq_c;rfl))))
  | apply z02
  | apply z00
  | apply z03
  | apply z05
  | apply z07
  | apply z09
  | apply z56
  | (apply z12;rfl)
  | (with_reducible apply z69;intro hc)
  | (with_reducible apply z52;intro hc)
  | (apply z98;rfl)
 try any_goals (exfalso;omega)
 have e:b=[]:=List.length_eq_zero_iff.1 (by omega)
 subst e
 rfl
theorem wm6 (b:List Tok) (hb:b.length≤9223372036854775807):Rets Vv 18 [.c (.frz none []),.c (tks b)] (.c (.bool (q33 [] b))):=by
 refine z67 v13 ?_
 unfold tks
 have e0:([]:List CV).length=0:=rfl
 repeat' first
  | apply z01
  | exact z13
  | (apply z15;rfl;rfl)
  | (apply z30;(iterate 3 rfl))
  | (apply zb8;rfl)
  | (apply q65;rfl)
  | (apply z04;focus (repeat (first | exact z23 | (apply kq_c;rfl))))
  | apply z02
  | apply z00
  | apply z03
  | apply z05
  | apply z07
  | apply z09
  | (apply z12;rfl)
  | (with_reducible apply zd3;intro hc)
  | (with_reducible apply za6;intro hc)
  | (apply z98;rfl)
 · rw [q43 (by simp only [List.length_nil];omega)]
 refine zd2 (fun n:Nat=>[(0,.c (.frz none [])),(1,.c (.frz (some 7) (b.map tokC))),(5,.c (.int .i64 n))]) (fun n=>n=0) (fun n=>0) 0 ?_ rfl ?_
 · repeat' first
    | exact z23
    | refine z64 rfl ?_
 rintro n rfl
 repeat' first
  | apply z01
  | exact z13
  | (apply z15;rfl;rfl)
  | (apply z30;(iterate 3 rfl))
  | (apply q65;rfl)
  | (apply z04;focus (repeat (first | exact z23 | (apply kq_c;rfl))))
  | apply z02
  | apply z00
  | apply z03
  | apply z05
  | apply z07
  | apply z09
  | apply z56
  | apply z25
  | (apply z12;rfl)
  | (apply z62;(exact rfl))
  | (with_reducible apply z69;intro hc)
  | (with_reducible apply z52;intro hc)
  | (apply z48;rfl)
  | (apply jt4)
  | (apply dand;rfl)
  | (apply z98;rfl)
 try any_goals (exfalso;omega)
 have e:b=[]:=List.length_eq_zero_iff.1 (by omega)
 subst e
 rfl
theorem wp8 (a b:List Tok) (ha:a.length≤9223372036854775807) (hb:b.length≤9223372036854775807):Rets Vv 17 [.c (tksF a),.c (tks b)] (.c (.bool (q33 a b))):=by
 cases a with
 | nil=>exact wk5 b hb
 | cons t r=>exact wt9 _ b ha hb
theorem wi3 (a b:List Tok) (ha:a.length≤9223372036854775807) (hb:b.length≤9223372036854775807):Rets Vv 18 [.c (tksF a),.c (tks b)] (.c (.bool (q33 a b))):=by
 cases a with
 | nil=>exact wm6 b hb
 | cons t r=>exact ww3 _ b ha hb
theorem law6 (l:List Tok) (hl:l.length≤9223372036854775807) (hk:∀ t∈l,TokI t):Rets Vv 6 [.c (tks l)] (.c (.bool true)):=by
 refine z67 vfn6 ?_
 have h14:=va5 l hl
 cases hf:fewB l with
 | false=>
   rw [hf] at h14
   repeat' first
    | apply z01
    | exact z13
    | (apply z15;rfl;rfl)
    | (apply z84;rfl;rfl)
    | (apply z08 (hc:=h14);rfl;rfl;rfl)
    | (apply z08 (hc:=j08);rfl;rfl;rfl)
    | (apply z04;focus (repeat (exact z23)))
    | apply z02
    | apply z00
    | apply z03
    | apply z09
    | (apply z12;rfl)
    | with_reducible exact ze7
    | with_reducible apply ze2
    | with_reducible apply z57
    | with_reducible apply z58
    | (apply z98;rfl)
   all_goals rfl
 | true=>
   rw [hf] at h14
   obtain ⟨h3,hkk⟩:=wb3 hf hk
   have h15:=wb8 l (by omega) hkk
   unfold rcv at h15
   by_cases h0:(zu3 l).2=0
   · obtain ⟨l',e1,e2,e3⟩:=jh5 (fun t ht=>(hk t ht).n.2) h0
     have h11:=v47 (zu3 l).1 (by omega)
     have hall:q86 (zu3 l).1=.ok l':=by unfold q86;rw [if_neg (by omega),e1]
     have hlen:l'.length=l.length:=by simpa using congrArg List.length e2
     have hsame:q33 l' l=true:=by unfold q33;rw [e2];simp
     have h17:=wp8 l' l (by omega) hl
     have h18:=wi3 l' l (by omega) hl
     rw [hall] at h11
     rw [hsame] at h17 h18
     unfold lexR zF at h11
     rw [h0] at h15
     repeat' first
      | apply z01
      | exact z13
      | exact z19 rfl
      | (apply z15;rfl;rfl)
      | (apply z45;(iterate 3 rfl))
      | (apply z30;(iterate 3 rfl))
      | (apply z84;rfl;rfl)
      | (apply wy3;(iterate 3 rfl))
      | (apply z17;rfl;(with_reducible rfl);rfl)
      | (apply z16;rfl;(with_reducible rfl);rfl)
      | (apply z78;(iterate 3 rfl))
      | (apply z63;(iterate 3 rfl))
      | (apply z88;rfl;rfl;first | exact z65 (by first | exact rfl | assumption | exact z06 (by assumption)) | exact z73 (by first | exact rfl | assumption | exact z06 (by assumption)))
      | (apply z28;(iterate 4 rfl);exact z34 (by first | exact rfl | assumption | exact z06 (by assumption)))
      | (apply za4;rfl;rfl)
      | (apply z08 (hc:=h14);rfl;rfl;rfl)
      | (apply z08 (hc:=h15);rfl;rfl;rfl)
      | (apply z08 (hc:=h11);rfl;rfl;rfl)
      | (apply z08 (hc:=h17);rfl;rfl;rfl)
      | (apply z08 (hc:=h18);rfl;rfl;rfl)
      | (apply z08 (hc:=j08);rfl;rfl;rfl)
      | (apply z04;focus (repeat (first | exact z23 | (apply kq_c;rfl))))
      | apply z02
      | apply z00
      | apply z03
      | apply z07
      | apply z09
      | (apply z12;rfl)
      | (apply z47;rfl;(with_reducible rfl))
      | (apply z43;rfl;(with_reducible rfl))
      | (apply z39;rfl)
      | with_reducible exact zb5
      | with_reducible apply zb4
      | with_reducible apply z57
      | with_reducible apply z58
      | (with_reducible apply zd3;intro hc)
      | (with_reducible apply za6;intro hc)
      | (with_reducible apply zh6;intro hc)
      | (apply z98;rfl)
     all_goals (first | rfl | (exfalso;contradiction) | trace_state)
   · repeat' first
      | apply z01
      | exact z13
      | exact z19 rfl
      | (apply z15;rfl;rfl)
      | (apply z30;(iterate 3 rfl))
      | (apply z84;rfl;rfl)
      | (apply z63;(iterate 3 rfl))
      | (apply za4;rfl;rfl)
      | (apply z08 (hc:=h14);rfl;rfl;rfl)
      | (apply z08 (hc:=h15);rfl;rfl;rfl)
      | (apply z08 (hc:=j08);rfl;rfl;rfl)
      | (apply z04;focus (repeat (first | exact z23 | (apply kq_c;rfl))))
      | apply z02
      | apply z00
      | apply z03
      | apply z07
      | apply z09
      | (apply z12;rfl)
      | with_reducible exact zb5
      | with_reducible apply zb4
      | with_reducible apply z57
      | with_reducible apply z58
      | (with_reducible apply zd3;intro hc)
      | (with_reducible apply za6;intro hc)
      | (apply z98;rfl)
     all_goals (first | rfl | (exfalso;contradiction) | trace_state)
end Go.Proofs.TryzL
