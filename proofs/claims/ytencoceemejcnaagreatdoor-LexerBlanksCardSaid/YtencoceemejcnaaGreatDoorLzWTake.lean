/- Taking views in hand; putting what is in hand into a slot. -/
import Derived.Test.YtencoceemejcnaaGreatDoorLzWPlace
namespace Go.Proofs.Lz
def Cx.hide (X:Cx):Cx:={ X with O:=fun p=>if zc7 p=true then none else X.O p }
theorem XOk.hide {X:Cx} (h:XOk X):XOk X.hide:=
 ⟨fun p b e ek xs hp=>by
  have:X.O p=some (b,e,ek,xs):=by
   simp only [Cx.hide] at hp;split at hp
   · cases hp
   · exact hp
  exact h.own p b e ek xs this,fun p p' h1 h2 he=>h.dis p p' (fun h=>h1 (by simp [Cx.hide,h])) (fun h=>h2 (by simp [Cx.hide,h])) he,
  fun p h1=>h.nf p (fun h=>h1 (by simp [Cx.hide,h])),h.rinj,h.fl,fun i k hi=>h.hz i k hi⟩
structure SR (X:Cx) (w:WFr) (W:z18) (fr:Fr):Prop where
 ok:XOk X
 fr:FrR X w fr
 hp:HpR X W
 ht:∀ i k,X.O (.tmp i k)=none
structure Hand (X:Cx) (w:WFr) (W:z18) (fr:Fr) (v:WV) (h:HV):Prop where
 ok:XOk X
 fr:FrR X.hide w fr
 hp:HpR X.hide W
 vo:z89 v=true→VR X Pl.tmp v h∧noView v=true
 vf:z89 v=false→VR X.hide Pl.tmp v h
theorem qu9 (K L:Pl→Bool) (pl:Pl) (v:WV):hit1 L false pl (hit1 K false pl v)=hit1 (fun p=>K p||L p) false pl v:=by
 cases v with
 | own b e ek xs=>
   by_cases hk:K pl=true<;>simp [hit1,hk]
 | view p b off e ek xs=>
   by_cases hk:K p=true<;>simp [hit1,hk]
 | eptr p i off ek x=>
   by_cases hk:K p=true<;>simp [hit1,hk]
 | _=>rfl
theorem w08 (K L:Pl→Bool) (q:Nat→Pl):∀ (l:List WV) (k:Nat),hitL L false q k (hitL K false q k l)=hitL (fun p=>K p||L p) false q k l:=by
 intro l
 induction l with
 | nil=>intro k;rfl
 | cons v l ih=>intro k;simp only [hitL,qu9,ih]
theorem qi2 {K:Pl→Bool} {fz:Bool} {q:Nat→Pl} {v:WV} (h:∀ cs,v≠.agg cs):hitC K fz q v=hit1 K fz (q 0) v:=by
 cases v with
 | agg cs=>exact (h cs rfl).elim
 | _=>rfl
theorem wb2 {K:Pl→Bool} {fz:Bool} {pl:Pl} {v:WV} (h:∀ cs,v≠.agg cs):∀ cs,hit1 K fz pl v≠.agg cs:=by
 intro cs
 cases v with
 | agg cs=>exact (h cs rfl).elim
 | own b e ek xs=>simp only [hit1];split<;>(try split)<;>exact fun h=>by cases h
 | view p b off e ek xs=>simp only [hit1];split<;>exact fun h=>by cases h
 | eptr p i off ek x=>simp only [hit1];split<;>exact fun h=>by cases h
 | _=>exact fun h=>by cases h
theorem qh9 (K L:Pl→Bool) (q:Nat→Pl) (v:WV):hitC L false q (hitC K false q v)=hitC (fun p=>K p||L p) false q v:=by
 by_cases h:∃ cs,v=.agg cs
 · obtain ⟨cs,rfl⟩:=h;simp only [hitC,w08]
 · have h':∀ cs,v≠.agg cs:=fun cs e=>h ⟨cs,e⟩
   rw [qi2 h',qi2 h',qi2 (wb2 h'),qu9]
theorem jx5 (K L:Pl→Bool) (q:Nat→Nat→Pl):∀ (l:List WV) (k:Nat),hitT L false q k (hitT K false q k l)=hitT (fun p=>K p||L p) false q k l:=by
 intro l
 induction l with
 | nil=>intro k;rfl
 | cons v l ih=>intro k;simp only [hitT,qh9,ih]
theorem qn7 {K:Pl→Bool} {fz:Bool} {q:Nat→Pl} {v:WV} (h1:∀ vs,v≠.tup vs) (h2:∀ ek w,v≠.lbox ek w):(∀ vs,hitC K fz q v≠.tup vs)∧∀ ek w,hitC K fz q v≠.lbox ek w:=by
 cases v with
 | tup vs=>exact (h1 _ rfl).elim
 | lbox ek w=>exact (h2 _ _ rfl).elim
 | agg cs=>exact ⟨fun _ h=>(by cases h),fun _ _ h=>(by cases h)⟩
 | own b e ek xs=>simp only [hitC,hit1];split<;>(try split)<;>exact ⟨fun _ h=>(by cases h),fun _ _ h=>(by cases h)⟩
 | view p b off e ek xs=>simp only [hitC,hit1];split<;>exact ⟨fun _ h=>(by cases h),fun _ _ h=>(by cases h)⟩
 | eptr p i off ek x=>simp only [hitC,hit1];split<;>exact ⟨fun _ h=>(by cases h),fun _ _ h=>(by cases h)⟩
 | _=>exact ⟨fun _ h=>(by cases h),fun _ _ h=>(by cases h)⟩
theorem wn4 (K L:Pl→Bool) (q:Nat→Nat→Pl) (v:WV):hit L false q (hit K false q v)=hit (fun p=>K p||L p) false q v:=by
 by_cases h1:∃ vs,v=.tup vs
 · obtain ⟨vs,rfl⟩:=h1;simp only [hit,jx5]
 · by_cases h2:∃ ek w,v=.lbox ek w
   · obtain ⟨ek,w,rfl⟩:=h2;simp only [hit,qh9]
   · have n1:∀ vs,v≠.tup vs:=fun vs e=>h1 ⟨vs,e⟩
     have n2:∀ ek w,v≠.lbox ek w:=fun ek w e=>h2 ⟨ek,w,e⟩
     rw [wa4 n1 n2,wa4 n1 n2,wa4 (qn7 n1 n2).1 (qn7 n1 n2).2,qh9]
theorem jn7 (K L:Pl→Bool) (w:WFr):hitF L false (hitF K false w)=hitF (fun p=>K p||L p) false w:=by
 simp only [hitF,wn4]
theorem js6 (pl:Pl) (fz:Bool) (v:WV):hit1 (fun _=>false) fz pl v=v:=by cases v<;>simp [hit1]
theorem qi8 (q:Nat→Pl) (fz:Bool):∀ (l:List WV) (k:Nat),hitL (fun _=>false) fz q k l=l:=by
 intro l
 induction l with
 | nil=>intro k;rfl
 | cons v l ih=>intro k;simp only [hitL,js6,ih]
theorem j59 (q:Nat→Pl) (fz:Bool) (v:WV):hitC (fun _=>false) fz q v=v:=by
 cases v with
 | agg cs=>simp only [hitC,qi8]
 | _=>simp only [hitC,js6]
theorem wi3 (q:Nat→Nat→Pl) (fz:Bool):∀ (l:List WV) (k:Nat),hitT (fun _=>false) fz q k l=l:=by
 intro l
 induction l with
 | nil=>intro k;rfl
 | cons v l ih=>intro k;simp only [hitT,j59,ih]
theorem v11 (q:Nat→Nat→Pl) (fz:Bool) (v:WV):hit (fun _=>false) fz q v=v:=by
 cases v with
 | tup vs=>simp only [hit,wi3]
 | lbox ek w=>simp only [hit,j59]
 | _=>simp only [hit,j59]
theorem qo4 (fz:Bool) (w:WFr):hitF (fun _=>false) fz w=w:=by
 simp only [hitF,v11]
theorem j86:inK []=fun _=>false:=rfl
theorem zq3 (K:List Pl) (fz:Bool) (w:WFr) (W:z18):zh3 K fz w W=(hitF (inK K) fz w,hitH fz K W):=by
 cases K with
 | nil=>simp only [zh3,j86,qo4,hitH]
 | cons=>rfl
def zc4 (K:List Pl) (fz:Bool) (i:Nat):Nat→List WV→List WV
 | _,[]=>[]
 | k,v::r=>(if inK K (.hp i k)=true then hit1 (fun _=>true) fz (.hp i k) v else v)::zc4 K fz i (k+1) r
theorem qu6 (fz:Bool) (i:Nat):∀ (l:List WV) (k:Nat),zc4 [] fz i k l=l:=by
 intro l
 induction l with
 | nil=>intro k;rfl
 | cons v l ih=>intro k;simp only [zc4,j86,Bool.false_eq_true,if_false,ih]
theorem ji7 (fz:Bool) (pl:Pl) (v:WV):hit1 (fun _=>true) fz pl (hit1 (fun _=>true) fz pl v)=hit1 (fun _=>true) fz pl v:=by
 cases v<;>cases fz<;>simp [hit1]
theorem qb0 (x:Pl) (K:List Pl) (p:Pl):inK (x::K) p=(decide (x=p)||inK K p):=by
 simp only [inK,List.any_cons]
theorem zl5 (K:List Pl) (fz:Bool) (x:Pl) (i:Nat) (hx:∀ k,x≠.hp i k):∀ (l:List WV) (k:Nat),zc4 (x::K) fz i k l=zc4 K fz i k l:=by
 intro l
 induction l with
 | nil=>intro k;rfl
 | cons v l ih=>intro k;simp only [zc4,qb0,hx k,decide_false,Bool.false_or,ih]
theorem qw1 (K:List Pl) (fz:Bool) (i j:Nat):∀ (l:List WV) (k:Nat),zc4 (.hp i (k+j)::K) fz i k l=zc4 K fz i k (match l[j]? with
 | some v=>l.set j (hit1 (fun _=>true) fz (.hp i (k+j)) v)
 | none=>l):=by
 induction j with
 | zero=>
   intro l k
   cases l with
   | nil=>rfl
   | cons v l=>
     have e:∀ (l:List WV) (m:Nat),k<m→zc4 (.hp i (k+0)::K) fz i m l=zc4 K fz i m l:=by
      intro l
      induction l with
      | nil=>intro m _;rfl
      | cons v l ih=>
        intro m hm
        have:¬ (Pl.hp i (k+0)=Pl.hp i m):=by intro h;injection h;omega
        simp only [zc4,qb0,this,decide_false,Bool.false_or,ih (m+1) (by omega)]
     simp only [List.getElem?_cons_zero,List.set_cons_zero,zc4,qb0,Nat.add_zero,decide_true,Bool.true_or,if_true]
     rw [show Pl.hp i k=Pl.hp i (k+0) from rfl,e l (k+1) (by omega)]
     congr 1
     split<;>simp [ji7]
 | succ j ih=>
   intro l k
   cases l with
   | nil=>rfl
   | cons v l=>
     have:=ih l (k+1)
     have ej:k+1+j=k+(j+1):=by omega
     rw [ej] at this
     simp only [List.getElem?_cons_succ,zc4,qb0]
     have ne:¬ (Pl.hp i (k+(j+1))=Pl.hp i k):=by intro h;injection h;omega
     simp only [ne,decide_false,Bool.false_or,this]
     cases hl:l[j]? with
     | none=>rfl
     | some x=>rfl
theorem jg5 (fz:Bool) (K:List Pl):∀ (W:z18) (i:Nat),(hitH fz K W)[i]?=(W[i]?).map fun | .var ek cs=>.var ek (zc4 K fz i 0 cs):=by
 induction K with
 | nil=>
   intro W i
   simp only [hitH]
   cases h:W[i]? with
   | none=>rfl
   | some o=>obtain ⟨ek,cs⟩:=o;simp only [Option.map_some,qu6]
 | cons x K ih=>
   intro W i
   cases x with
   | hp id k=>
     simp only [hitH]
     rw [ih]
     cases h:W[id]? with
     | none=>
       by_cases hi:i=id
       · subst hi;simp [h]
       · congr 1
         funext o;obtain ⟨ek,cs⟩:=o
         rw [zl5 K fz (.hp id k) i (by intro m hm;injection hm with e1 e2;exact hi e1.symm)]
     | some o=>
       obtain ⟨ek,cs⟩:=o
       by_cases hi:i=id
       · subst hi
         have hlt:=(List.getElem?_eq_some_iff.1 h).1
         simp only [List.getElem?_set_self hlt,Option.map_some,h]
         have:=qw1 K fz i k cs 0
         rw [Nat.zero_add] at this
         rw [this]
         cases hc:cs[k]?<;>rfl
       · simp only
         rw [List.getElem?_set_ne (Ne.symm hi)]
         congr 1
         funext o;obtain ⟨ek,cs⟩:=o
         rw [zl5 K fz (.hp id k) i (by intro m hm;injection hm with e1 e2;exact hi e1.symm)]
   | sl s a b=>
     simp only [hitH]
     rw [ih]
     congr 1
     funext o;obtain ⟨ek,cs⟩:=o
     rw [zl5 K fz _ i (by intro m hm;cases hm)]
   | tmp a b=>
     simp only [hitH]
     rw [ih]
     congr 1
     funext o;obtain ⟨ek,cs⟩:=o
     rw [zl5 K fz _ i (by intro m hm;cases hm)]
theorem qi4 (fz:Bool) (K:List Pl):∀ (W:z18),(hitH fz K W).length=W.length:=by
 induction K with
 | nil=>intro W;rfl
 | cons x K ih=>
   intro W
   cases x with
   | hp id k=>
     simp only [hitH,ih]
     split<;>simp
   | sl s a b=>simp only [hitH,ih]
   | tmp a b=>simp only [hitH,ih]
theorem jp4 {fz:Bool} {pl:Pl} {v:WV} (h:zx9 v=true):zx9 (hit1 (fun _=>true) fz pl v)=true:=by
 cases v<;>first | exact h | (cases fz<;>rfl) | cases h
theorem VRL.cells {K:List Pl} {fz:Bool} {X Y:Cx} (E:Ext (inK K) fz X Y) {i:Nat}:∀ {l:List WV} {k:Nat} {s:List HV},VRL X (Pl.hp i) k l s→l.all zx9=true →
 VRL Y (Pl.hp i) k (zc4 K fz i k l) s∧(zc4 K fz i k l).all zx9=true:=by
 intro l
 induction l with
 | nil=>intro k s h _;cases s with
   | nil=>exact ⟨trivial,rfl⟩
   | cons=>exact h.elim
 | cons v l ih=>intro k s h hc;cases s with
   | nil=>exact h.elim
   | cons a s=>
     simp only [List.all_cons,Bool.and_eq_true] at hc
     obtain ⟨i1,i2⟩:=ih h.2 hc.2
     have hv:=h.1.hit E
     simp only [zc4,VRL,List.all_cons,Bool.and_eq_true]
     cases hk:inK K (.hp i k) with
     | true=>
       simp only [if_true]
       refine ⟨⟨?_,i1⟩,jp4 hc.1,i2⟩
       revert hv
       cases v with
       | own b e ek xs=>simp only [hit1,hk,if_true];exact fun x=>x
       | view=>cases hc.1
       | eptr=>cases hc.1
       | _=>exact fun x=>x
     | false=>
       simp only [Bool.false_eq_true,if_false]
       refine ⟨⟨?_,i1⟩,hc.1,i2⟩
       revert hv
       cases v with
       | own b e ek xs=>simp only [hit1,hk,Bool.false_eq_true,if_false];exact fun x=>x
       | view=>cases hc.1
       | eptr=>cases hc.1
       | _=>exact fun x=>x
theorem HpR.hit {K:List Pl} {fz:Bool} {X Y:Cx} (E:Ext (inK K) fz X Y) (hn:Y.n=X.n) (hv:∀ i,i<X.n→Y.H[X.rho i]?=X.H[X.rho i]?) {W:z18} (h:HpR X W):HpR Y (hitH fz K W):=by
 refine ⟨by rw [hn,h.n,qi4],?_⟩
 intro i ek cs hi
 rw [jg5] at hi
 cases hw:W[i]? with
 | none=>rw [hw] at hi;cases hi
 | some o=>
   obtain ⟨ek',cs'⟩:=o
   rw [hw] at hi
   simp only [Option.map_some,Option.some.injEq,WO.var.injEq] at hi
   obtain ⟨rfl,rfl⟩:=hi
   obtain ⟨⟨hs,h1,h2⟩,h3⟩:=h.cells i ek' cs' hw
   have hlt:i<X.n:=by rw [h.n];exact (List.getElem?_eq_some_iff.1 hw).1
   obtain ⟨c1,c2⟩:=h2.cells E h3
   exact ⟨⟨hs,by rw [E.rho i hlt,hv i hlt];exact h1,c1⟩,c2⟩
theorem HpR.hit' {K:List Pl} {fz:Bool} {X Y:Cx} (E:Ext (inK K) fz X Y) (hn:Y.n=X.n) (hv:∀ i,i<X.n→∀ ek cs,X.H[X.rho i]?=some (.var ek cs)→Y.H[X.rho i]?=some (.var ek cs)) {W:z18} (h:HpR X W):HpR Y (hitH fz K W):=by
 refine ⟨by rw [hn,h.n,qi4],?_⟩
 intro i ek cs hi
 rw [jg5] at hi
 cases hw:W[i]? with
 | none=>rw [hw] at hi;cases hi
 | some o=>
   obtain ⟨ek',cs'⟩:=o
   rw [hw] at hi
   simp only [Option.map_some,Option.some.injEq,WO.var.injEq] at hi
   obtain ⟨rfl,rfl⟩:=hi
   obtain ⟨⟨hs,h1,h2⟩,h3⟩:=h.cells i ek' cs' hw
   have hlt:i<X.n:=by rw [h.n];exact (List.getElem?_eq_some_iff.1 hw).1
   obtain ⟨c1,c2⟩:=h2.cells E h3
   exact ⟨⟨hs,by rw [E.rho i hlt];exact hv i hlt _ _ h1,c1⟩,c2⟩
theorem VRL.still {K:Pl→Bool} {fz:Bool} {X Y:Cx} (E:Ext K fz X Y) {i:Nat} (hk:∀ k,K (.hp i k)=false):∀ {l:List WV} {k:Nat} {s:List HV},VRL X (Pl.hp i) k l s→l.all zx9=true →
 VRL Y (Pl.hp i) k l s:=by
 intro l
 induction l with
 | nil=>intro k s h _;cases s with
   | nil=>trivial
   | cons=>exact h.elim
 | cons v l ih=>intro k s h hc;cases s with
   | nil=>exact h.elim
   | cons a s=>
     simp only [List.all_cons,Bool.and_eq_true] at hc
     refine ⟨?_,ih h.2 hc.2⟩
     have hv:=h.1.hit E
     revert hv
     cases v with
     | own b e ek xs=>simp only [hit1,hk,Bool.false_eq_true,if_false];exact fun x=>x
     | view=>cases hc.1
     | eptr=>cases hc.1
     | _=>exact fun x=>x
theorem HpR.still {K:Pl→Bool} {fz:Bool} {X Y:Cx} (E:Ext K fz X Y) (hk:∀ i k,K (.hp i k)=false) (hn:Y.n=X.n) (hv:∀ i,i<X.n→Y.H[X.rho i]?=X.H[X.rho i]?) {W:z18} (h:HpR X W):HpR Y W:=by
 refine ⟨by rw [hn,h.n],?_⟩
 intro i ek cs hi
 obtain ⟨⟨hs,h1,h2⟩,h3⟩:=h.cells i ek cs hi
 have hlt:i<X.n:=by rw [h.n];exact (List.getElem?_eq_some_iff.1 hi).1
 exact ⟨⟨hs,by rw [E.rho i hlt,hv i hlt];exact h1,h2.still E (hk i) h3⟩,h3⟩
def q03 (d:Nat):Pl→Option (Nat×Nat)
 | .sl s i k=>if s=d then some (i,k) else none
 | _=>none
theorem zx8 (d:Nat):(fun p=>(q03 d p).isSome)=ze0 d:=by
 funext p
 cases p with
 | sl s i k=>simp only [q03,ze0];by_cases h:s=d<;>simp [h]
 | _=>rfl
theorem zw4 {X:Cx} {dec:Pl→Option (Nat×Nat)} (E:Ext (fun p=>(dec p).isSome||zc7 p) false X (X.land dec)):Ext (fun p=>(dec p).isSome) false X.hide (X.land dec):=
 ⟨E.n,E.rho,fun p hp ho=>by
  have ht:zc7 p=false:=by
   cases h:zc7 p with
   | false=>rfl
   | true=>simp only [Cx.hide,h,if_true] at ho;exact (ho rfl).elim
  have:=E.pl p (by simp only [hp,ht,Bool.or_self]) (by simpa [Cx.hide,ht] using ho)
  exact ⟨this.1,by rw [this.2];simp [Cx.hide,ht]⟩,E.F,E.rows,fun h=>by cases h⟩
theorem q83 {X:Cx} {dec:Pl→Option (Nat×Nat)} (dt:∀ i k,dec (.tmp i k)=none):∀ i k,(X.land dec).O (.tmp i k)=none:=by
 intro i k
 simp only [Cx.land,dt,zc7,if_true]
theorem Hand.putD {X:Cx} {w:WFr} {W:z18} {fr:Fr} {v:WV} {h:HV} (s:Hand X w W fr v h) (d:Nat) :
 ∃ Y,SR Y (w.putD d v) W (fr.put (some d) h)∧WStp X Y∧Y.H=X.H:=by
 cases ho:z89 v with
 | false=>
   have hx:XOk X.hide:=s.ok.hide
   refine ⟨X.hide,⟨hx,?_,s.hp,fun i k=>rfl⟩,⟨Nat.le_refl _,fun _ _=>rfl,rfl,fun _ _ h _=>h⟩,rfl⟩
   simp only [WFr.putD,ho,Bool.false_eq_true,if_false]
   exact s.fr.put1 ((s.vf ho).any ho)
 | true=>
   obtain ⟨l1,l2,l3⟩:=Cx.land_ok s.ok (dec:=q03 d) (by
    intro p p' x h1 h2
    cases p with
    | sl a b c=>
      cases p' with
      | sl a' b' c'=>
        simp only [q03] at h1 h2
        split at h1
        · split at h2
          · rename_i e1 e2;subst e1;subst e2;rw [← h2] at h1;injection h1 with h1;injection h1 with h1 h3;subst h1;subst h3;rfl
          · cases h2
        · cases h1
      | _=>cases h2
    | _=>cases h1) (fun i k x h=>by cases h)
   have E:=zw4 l2
   refine ⟨X.land (q03 d),⟨l1,?_,?_,q83 (fun i k=>rfl)⟩,l3,rfl⟩
   · simp only [WFr.putD,ho,if_true]
     rw [zx8] at E
     exact (s.fr.hit E).put1 ((s.vo ho).1.land l2 (fun i k=>by simp [q03]) (s.vo ho).2)
   · exact s.hp.still E (fun i k=>rfl) rfl (fun i _=>rfl)
theorem ja7 {α β:Type} (f:α→List β):∀ (l:List α) (i j:Nat) (a b:α) (p:β),(l.flatMap f).Nodup→l[i]?=some a→l[j]?=some b→p∈f a→p∈f b→i=j:=by
 intro l
 induction l with
 | nil=>intro i j a b p _ h;cases h
 | cons x l ih=>
   intro i j a b p hn hi hj ha hb
   rw [List.flatMap_cons,List.nodup_append] at hn
   obtain ⟨n1,n2,n3⟩:=hn
   cases i with
   | zero=>
     cases j with
     | zero=>rfl
     | succ j=>
       simp only [List.getElem?_cons_zero,Option.some.injEq] at hi
       simp only [List.getElem?_cons_succ] at hj
       subst hi
       exact (n3 p ha p (List.mem_flatMap.2 ⟨b,List.mem_of_getElem? hj,hb⟩) rfl).elim
   | succ i=>
     cases j with
     | zero=>
       simp only [List.getElem?_cons_zero,Option.some.injEq] at hj
       simp only [List.getElem?_cons_succ] at hi
       subst hj
       exact (n3 p hb p (List.mem_flatMap.2 ⟨a,List.mem_of_getElem? hi,ha⟩) rfl).elim
     | succ j=>
       simp only [List.getElem?_cons_succ] at hi hj
       rw [ih i j a b p n2 hi hj ha hb]
theorem jk9 {α β:Type} (f:α→List β):∀ (l:List α) (i:Nat) (a:α),(l.flatMap f).Nodup→l[i]?=some a→(f a).Nodup:=by
 intro l
 induction l with
 | nil=>intro i a _ h;cases h
 | cons x l ih=>
   intro i a hn hi
   rw [List.flatMap_cons,List.nodup_append] at hn
   cases i with
   | zero=>simp only [List.getElem?_cons_zero,Option.some.injEq] at hi;subst hi;exact hn.1
   | succ i=>exact ih i a hn.2.1 (by simpa using hi)
theorem qo6:∀ l:List WV,srcL l=l.flatMap src1:=by
 intro l
 induction l with
 | nil=>rfl
 | cons v l ih=>simp only [srcL,List.flatMap_cons,ih]
theorem qp8:∀ l:List WV,srcT l=l.flatMap srcC:=by
 intro l
 induction l with
 | nil=>rfl
 | cons v l ih=>simp only [srcT,List.flatMap_cons,ih]
theorem zt2 {v:WV} {p:Pl} {off:Nat} (h:zs9 v=some (p,off)):p∈src1 v:=by
 cases v with
 | view=>simp only [zs9,Option.some.injEq,Prod.mk.injEq] at h;obtain ⟨rfl,rfl⟩:=h;simp [src1]
 | _=>cases h
theorem zt8 {v:WV} {k:Nat} {p:Pl} {off:Nat} (h:zc8 v k=some (p,off)):p∈srcC v:=by
 cases v with
 | agg cs=>
   simp only [zc8] at h
   cases hc:cs[k]? with
   | none=>rw [hc] at h;cases h
   | some c=>rw [hc] at h;simp only [srcC,qo6];exact List.mem_flatMap.2 ⟨c,List.mem_of_getElem? hc,zt2 h⟩
 | view=>
   cases k with
   | zero=>simp only [zc8] at h;exact zt2 h
   | succ k=>simp [zc8] at h
 | _=>cases k<;>simp [zc8,zs9] at h
theorem qc9 {v:WV} (hn:(srcC v).Nodup) {k k':Nat} {p:Pl} {off off':Nat} (h:zc8 v k=some (p,off)) (h':zc8 v k'=some (p,off')):k=k':=by
 cases v with
 | agg cs=>
   simp only [zc8] at h h'
   simp only [srcC,qo6] at hn
   cases hc:cs[k]? with
   | none=>rw [hc] at h;cases h
   | some c=>
     cases hc':cs[k']? with
     | none=>rw [hc'] at h';cases h'
     | some c'=>rw [hc] at h;rw [hc'] at h';exact ja7 src1 cs k k' c c' p hn hc hc' (zt2 h) (zt2 h')
 | _=>
   cases k<;>cases k'<;>first | rfl | (simp [zc8,zs9] at h;done) | (simp [zc8,zs9] at h';done)
theorem jj2 {v:WV} (hn:(srcs v).Nodup) {i k i' k':Nat} {p:Pl} {off off':Nat} (h:viewAt v i k=some (p,off)) (h':viewAt v i' k'=some (p,off')):i=i'∧k=k':=by
 by_cases h1:∃ vs,v=.tup vs
 · obtain ⟨vs,rfl⟩:=h1
   simp only [viewAt] at h h'
   simp only [srcs,qp8] at hn
   cases hc:vs[i]? with
   | none=>rw [hc] at h;cases h
   | some c=>
     cases hc':vs[i']? with
     | none=>rw [hc'] at h';cases h'
     | some c'=>
       rw [hc] at h;rw [hc'] at h'
       have e:=ja7 srcC vs i i' c c' p hn hc hc' (zt8 h) (zt8 h')
       subst e
       rw [hc] at hc'
       injection hc' with hc'
       subst hc'
       exact ⟨rfl,qc9 (jk9 srcC vs i c hn hc) h h'⟩
 · have n1:∀ vs,v≠.tup vs:=fun vs e=>h1 ⟨vs,e⟩
   have e0:∀ i k,viewAt v i k=if i=0 then zc8 v k else none:=by
    intro i k
    cases v with
    | tup vs=>exact (n1 _ rfl).elim
    | _=>cases i<;>rfl
   have e1:srcs v=srcC v:=by
    cases v with
    | tup vs=>exact (n1 _ rfl).elim
    | _=>rfl
   rw [e0] at h h'
   split at h
   · split at h'
     · rename_i a b;rw [e1] at hn;exact ⟨by rw [a,b],qc9 hn h h'⟩
     · cases h'
   · cases h
theorem ws6 {c:WV} {b:Bool} {e:Nat} {ek:Option Nat} {xs:List CV} (h:qe6 (ze2 c)=some (b,e,ek,xs)) (ho:z88 c=false):∃ p off,c=.view p b off e ek xs:=by
 cases c with
 | view p b off e ek xs=>simp only [ze2,qe6,Option.some.injEq,Prod.mk.injEq] at h;obtain ⟨rfl,rfl,rfl,rfl⟩:=h;exact ⟨p,off,rfl⟩
 | own=>cases ho
 | _=>cases h
theorem VRL.get {X:Cx} {q:Nat→Pl}:∀ {l:List WV} {k:Nat} {s:List HV} {j:Nat} {c:WV},VRL X q k l s→l[j]?=some c→∃ a,s[j]?=some a∧VR1 X (q (k+j)) c a:=by
 intro l
 induction l with
 | nil=>intro k s j c _ h;cases h
 | cons v l ih=>intro k s j c h hj;cases s with
   | nil=>exact h.elim
   | cons a s=>
     cases j with
     | zero=>simp only [List.getElem?_cons_zero,Option.some.injEq] at hj;subst hj;exact ⟨a,rfl,h.1⟩
     | succ j=>
       obtain ⟨a',h1,h2⟩:=ih h.2 (by simpa using hj)
       exact ⟨a',by simpa using h1,by rw [show k+(j+1)=k+1+j by omega];exact h2⟩
theorem VRT.get {X:Cx} {q:Nat→Nat→Pl}:∀ {l:List WV} {k:Nat} {s:List HV} {j:Nat} {c:WV},VRT X q k l s→l[j]?=some c→∃ a,s[j]?=some a∧VRC X (q (k+j)) c a:=by
 intro l
 induction l with
 | nil=>intro k s j c _ h;cases h
 | cons v l ih=>intro k s j c h hj;cases s with
   | nil=>exact h.elim
   | cons a s=>
     cases j with
     | zero=>simp only [List.getElem?_cons_zero,Option.some.injEq] at hj;subst hj;exact ⟨a,rfl,h.1⟩
     | succ j=>
       obtain ⟨a',h1,h2⟩:=ih h.2 (by simpa using hj)
       exact ⟨a',by simpa using h1,by rw [show k+(j+1)=k+1+j by omega];exact h2⟩
theorem j80 {α:Type} {f:α→Bool} {l:List α} (h:l.any f=false) {j:Nat} {c:α} (hj:l[j]?=some c):f c=false:=by
 have:=List.any_eq_false.1 h c (List.mem_of_getElem? hj)
 simpa using this
theorem qe0 {X:Cx} {q:Nat→Pl} {v:WV} {h:HV} (r:VRC X q v h) (ho:za4 v=false) {k:Nat} {b:Bool} {e:Nat} {ek:Option Nat} {xs:List CV} (hk:zu4 (z62 v) k=some (b,e,ek,xs)) :
 ∃ p off,zc8 v k=some (p,off)∧jc8 X p b off e ek xs:=by
 cases v with
 | agg cs=>
   obtain ⟨hs,r1,r2⟩:=r
   simp only [z62,zu4,List.getElem?_map] at hk
   cases hc:cs[k]? with
   | none=>rw [hc] at hk;cases hk
   | some c=>
     rw [hc] at hk
     simp only [Option.map_some] at hk
     obtain ⟨p,off,rfl⟩:=ws6 hk (j80 ho hc)
     obtain ⟨a,g1,g2⟩:=r2.get hc
     exact ⟨p,off,by simp only [zc8,hc,zs9],g2.2⟩
 | view p b' off e' ek' xs'=>
   cases k with
   | zero=>
     simp only [z62,ze2,zu4,qe6,Option.some.injEq,Prod.mk.injEq] at hk
     obtain ⟨rfl,rfl,rfl,rfl⟩:=hk
     exact ⟨p,off,rfl,r.2⟩
   | succ k=>cases hk
 | own=>cases ho
 | _=>cases k<;>cases hk
theorem zy1 {X:Cx} {q:Nat→Nat→Pl} {v:WV} {h:HV} (r:VR X q v h) (ho:z89 v=false) {i k:Nat} {b:Bool} {e:Nat} {ek:Option Nat} {xs:List CV} (hk:zq9 (zg7 v) i k=some (b,e,ek,xs)) :
 ∃ p off,viewAt v i k=some (p,off)∧jc8 X p b off e ek xs:=by
 by_cases h1:∃ vs,v=.tup vs
 · obtain ⟨vs,rfl⟩:=h1
   obtain ⟨hs,r1,r2⟩:=r
   simp only [zg7,zq9,List.getElem?_map] at hk
   cases hc:vs[i]? with
   | none=>rw [hc] at hk;cases hk
   | some c=>
     rw [hc] at hk
     simp only [Option.map_some] at hk
     obtain ⟨a,g1,g2⟩:=r2.get hc
     obtain ⟨p,off,h1,h2⟩:=qe0 g2 (j80 ho hc) hk
     exact ⟨p,off,by simp only [viewAt,hc];exact h1,h2⟩
 · by_cases h2:∃ ek w,v=.lbox ek w
   · obtain ⟨ek,w,rfl⟩:=h2
     cases i<;>cases k<;>cases hk
   · have n1:∀ vs,v≠.tup vs:=fun vs e=>h1 ⟨vs,e⟩
     have n2:∀ ek w,v≠.lbox ek w:=fun ek w e=>h2 ⟨ek,w,e⟩
     have e1:zg7 v=z62 v:=by
      cases v with
      | tup vs=>exact (n1 _ rfl).elim
      | _=>rfl
     have e2:z89 v=za4 v:=by
      cases v with
      | tup vs=>exact (n1 _ rfl).elim
      | lbox ek w=>exact (n2 _ _ rfl).elim
      | _=>rfl
     have e3:∀ i k,viewAt v i k=if i=0 then zc8 v k else none:=by
      intro i k
      cases v with
      | tup vs=>exact (n1 _ rfl).elim
      | _=>cases i<;>rfl
     have e4:∀ i k,zq9 (z62 v) i k=if i=0 then zu4 (z62 v) k else none:=by
      intro i k
      cases v with
      | tup vs=>exact (n1 _ rfl).elim
      | _=>cases i<;>rfl
     rw [e1,e4] at hk
     split at hk
     · rename_i hi
       rw [e2] at ho
       obtain ⟨p,off,g1,g2⟩:=qe0 (r.toC n1 n2) ho hk
       exact ⟨p,off,by rw [e3,if_pos hi];exact g1,g2⟩
     · cases hk
theorem jl8 {v:WV} {i k:Nat} {p:Pl} {off:Nat} (h:viewAt v i k=some (p,off)):p∈srcs v:=by
 by_cases h1:∃ vs,v=.tup vs
 · obtain ⟨vs,rfl⟩:=h1
   simp only [viewAt] at h
   cases hc:vs[i]? with
   | none=>rw [hc] at h;cases h
   | some c=>rw [hc] at h;simp only [srcs,qp8];exact List.mem_flatMap.2 ⟨c,List.mem_of_getElem? hc,zt8 h⟩
 · have n1:∀ vs,v≠.tup vs:=fun vs e=>h1 ⟨vs,e⟩
   have e1:srcs v=srcC v:=by
    cases v with
    | tup vs=>exact (n1 _ rfl).elim
    | _=>rfl
   have e3:∀ i k,viewAt v i k=if i=0 then zc8 v k else none:=by
    intro i k
    cases v with
    | tup vs=>exact (n1 _ rfl).elim
    | _=>cases i<;>rfl
   rw [e3] at h
   split at h
   · rw [e1];exact zt8 h
   · cases h
theorem jn5 {K:Pl→Bool} {fz:Bool} {pl:Pl} {v:WV} (h:zj9 v=true) (ho:z88 v=false):hit1 K fz pl v=v:=by
 cases v with
 | own=>cases ho
 | view=>cases h
 | eptr=>cases h
 | _=>rfl
theorem jn8 {K:Pl→Bool} {fz:Bool} {q:Nat→Pl}:∀ {l:List WV} {k:Nat},l.all zj9=true→l.any z88=false→hitL K fz q k l=l:=by
 intro l
 induction l with
 | nil=>intro k _ _;rfl
 | cons v l ih=>
   intro k h ho
   simp only [List.all_cons,Bool.and_eq_true] at h
   simp only [List.any_cons,Bool.or_eq_false_iff] at ho
   simp only [hitL,jn5 h.1 ho.1,ih h.2 ho.2]
theorem qe9 {K:Pl→Bool} {fz:Bool} {q:Nat→Pl} {v:WV} (h:zf1 v=true) (ho:za4 v=false):hitC K fz q v=v:=by
 cases v with
 | agg cs=>simp only [hitC,jn8 h ho]
 | own=>cases ho
 | view=>cases h
 | eptr=>cases h
 | _=>rfl
theorem js8 {K:Pl→Bool} {fz:Bool} {q:Nat→Nat→Pl}:∀ {l:List WV} {k:Nat},l.all zf1=true→l.any za4=false→hitT K fz q k l=l:=by
 intro l
 induction l with
 | nil=>intro k _ _;rfl
 | cons v l ih=>
   intro k h ho
   simp only [List.all_cons,Bool.and_eq_true] at h
   simp only [List.any_cons,Bool.or_eq_false_iff] at ho
   simp only [hitT,qe9 h.1 ho.1,ih h.2 ho.2]
theorem wd4 {K:Pl→Bool} {fz:Bool} {q:Nat→Nat→Pl} {v:WV} (h:noView v=true) (ho:z89 v=false):hit K fz q v=v:=by
 cases v with
 | tup vs=>simp only [hit,js8 h ho]
 | lbox ek w=>simp only [hit,qe9 h ho]
 | agg cs=>exact qe9 (v:=.agg cs) h ho
 | own=>cases ho
 | view=>cases h
 | eptr=>cases h
 | _=>rfl
theorem VR1.taken {X Y:Cx} {K:Pl→Bool} (E:Ext K false X Y) {pl q':Pl} {v:WV} {h:HV} (r:VR1 X pl v h) (ho:z88 v=false)
 (hO:∀ p b off e ek xs,v=.view p b off e ek xs→Y.O q'=some (b,e,ek,xs)∧Y.th q'=((X.th p).1,(X.th p).2.1,(X.th p).2.2+off)):VR1 Y q' (ze2 v) h:=by
 cases v with
 | own=>cases ho
 | view p b off e ek xs=>
   obtain ⟨h1,h2⟩:=hO p b off e ek xs rfl
   exact ⟨by rw [h2];exact r.1,h1⟩
 | eptr p i off ek x=>obtain ⟨rfl,_⟩:=r;exact ⟨rfl,by intro v hv;cases hv⟩
 | _=>exact (VR1.hit E r).any rfl
theorem VRL.taken {X Y:Cx} {K:Pl→Bool} (E:Ext K false X Y) {q q':Nat→Pl}:∀ {l:List WV} {k k':Nat} {s:List HV},VRL X q k l s→l.any z88=false →
 (∀ j p b off e ek xs,l[j]?=some (.view p b off e ek xs)→Y.O (q' (k'+j))=some (b,e,ek,xs)∧Y.th (q' (k'+j))=((X.th p).1,(X.th p).2.1,(X.th p).2.2+off))→VRL Y q' k' (l.map ze2) s:=by
 intro l
 induction l with
 | nil=>intro k k' s h _ _;cases s with
   | nil=>trivial
   | cons=>exact h.elim
 | cons v l ih=>intro k k' s h ho hO;cases s with
   | nil=>exact h.elim
   | cons a s=>
     simp only [List.any_cons,Bool.or_eq_false_iff] at ho
     refine ⟨h.1.taken E ho.1 (fun p b off e ek xs hv=>hO 0 p b off e ek xs (by simp [hv])),ih h.2 ho.2 ?_⟩
     intro j p b off e ek xs hj
     have:=hO (j+1) p b off e ek xs (by simpa using hj)
     rw [show k'+(j+1)=k'+1+j by omega] at this
     exact this
theorem VRC.taken {X Y:Cx} {K:Pl→Bool} (E:Ext K false X Y) {q q':Nat→Pl} {v:WV} {h:HV} (r:VRC X q v h) (ho:za4 v=false)
 (hO:∀ k p b off e ek xs,zc8 v k=some (p,off)→zu4 (z62 v) k=some (b,e,ek,xs)→Y.O (q' k)=some (b,e,ek,xs)∧Y.th (q' k)=((X.th p).1,(X.th p).2.1,(X.th p).2.2+off)):VRC Y q' (z62 v) h:=by
 cases v with
 | agg cs=>
   obtain ⟨hs,r1,r2⟩:=r
   refine ⟨hs,r1,r2.taken E ho ?_⟩
   intro j p b off e ek xs hj
   have:=hO j p b off e ek xs (by simp only [zc8,hj,zs9]) (by simp only [z62,zu4,List.getElem?_map,hj,Option.map_some,ze2,qe6])
   rw [Nat.zero_add]
   exact this
 | own=>cases ho
 | undef=>exact r
 | tup=>exact r.elim
 | lbox=>exact r.elim
 | view p b off e ek xs=>exact VR1.taken (pl:=q 0) (q':=q' 0) E (v:=.view p b off e ek xs) r rfl (fun p' b' off' e' ek' xs' hv=>by injection hv with h1 h2 h3 h4 h5 h6;subst h1;subst h2;subst h3;subst h4;subst h5;subst h6;exact hO 0 _ _ _ _ _ _ rfl rfl)
 | eptr p i off ek x=>exact VR1.taken (pl:=q 0) (q':=q' 0) E (v:=.eptr p i off ek x) r rfl (fun _ _ _ _ _ _ hv=>by cases hv)
 | c v=>exact r
 | nils=>exact r
 | skipv=>exact r
 | gone=>exact r
 | imm fz ek xs=>exact VR1.taken (pl:=q 0) (q':=q' 0) E (v:=.imm fz ek xs) r rfl (fun _ _ _ _ _ _ hv=>by cases hv)
 | ptr id off=>exact VR1.taken (pl:=q 0) (q':=q' 0) E (v:=.ptr id off) r rfl (fun _ _ _ _ _ _ hv=>by cases hv)
 | iptr fz ek x off=>exact VR1.taken (pl:=q 0) (q':=q' 0) E (v:=.iptr fz ek x off) r rfl (fun _ _ _ _ _ _ hv=>by cases hv)
 | fn f a b=>exact VR1.taken (pl:=q 0) (q':=q' 0) E (v:=.fn f a b) r rfl (fun _ _ _ _ _ _ hv=>by cases hv)
theorem VRT.taken {X Y:Cx} {K:Pl→Bool} (E:Ext K false X Y) {q q':Nat→Nat→Pl}:∀ {l:List WV} {k k':Nat} {s:List HV},VRT X q k l s→l.any za4=false →
 (∀ j k p b off e ek xs,(∃ c,l[j]?=some c∧zc8 c k=some (p,off)∧zu4 (z62 c) k=some (b,e,ek,xs))→Y.O (q' (k'+j) k)=some (b,e,ek,xs)∧Y.th (q' (k'+j) k)=((X.th p).1,(X.th p).2.1,(X.th p).2.2+off))→VRT Y q' k' (l.map z62) s:=by
 intro l
 induction l with
 | nil=>intro k k' s h _ _;cases s with
   | nil=>trivial
   | cons=>exact h.elim
 | cons v l ih=>intro k k' s h ho hO;cases s with
   | nil=>exact h.elim
   | cons a s=>
     simp only [List.any_cons,Bool.or_eq_false_iff] at ho
     refine ⟨h.1.taken E ho.1 (fun k p b off e ek xs h1 h2=>hO 0 k p b off e ek xs ⟨v,rfl,h1,h2⟩),ih h.2 ho.2 ?_⟩
     intro j k p b off e ek xs hj
     obtain ⟨c,c1,c2⟩:=hj
     have:=hO (j+1) k p b off e ek xs ⟨c,by simpa using c1,c2⟩
     rw [show k'+(j+1)=k'+1+j by omega] at this
     exact this
theorem j48 (v:WV):zj9 (ze2 v)=true:=by cases v<;>rfl
theorem qi9 (v:WV):zf1 (z62 v)=true:=by
 cases v with
 | agg cs=>simp only [z62,zf1,List.all_map,List.all_eq_true];intro x _;exact j48 x
 | _=>rfl
theorem q58 (v:WV) (h:∀ ek w,v≠.lbox ek w):noView (zg7 v)=true:=by
 cases v with
 | tup vs=>simp only [zg7,noView,List.all_map,List.all_eq_true];intro x _;exact qi9 x
 | lbox ek w=>exact (h _ _ rfl).elim
 | agg cs=>exact qi9 (.agg cs)
 | _=>rfl
theorem SR.take {X:Cx} {w:WFr} {W:z18} {fr:Fr} (s:SR X w W fr) {v:WV} {h:HV} {q:Nat→Nat→Pl} (r:VR X q v h) (ho:z89 v=false) (hb:∀ ek w,v≠.lbox ek w) (hn:(srcs v).Nodup) :
 ∃ Y,Hand Y (hitF (inK (srcs v)) false w) (hitH false (srcs v) W) fr (zg7 v) h∧WStp X Y∧Y.H=X.H∧VR Y Pl.tmp (zg7 v) h∧noView (zg7 v)=true∧Ext (inK (srcs v)) false X Y:=by
 let t:Nat→Nat→Nat×Nat×Nat:=fun i k=>match viewAt v i k with
  | some (p,off)=>((X.th p).1,(X.th p).2.1,(X.th p).2.2+off)
  | none=>(0,0,0)
 have ht:∀ {i k p off},viewAt v i k=some (p,off)→t i k=((X.th p).1,(X.th p).2.1,(X.th p).2.2+off):=by
  intro i k p off h;simp only [t,h]
 have hmem:∀ p,p∈srcs v→inK (srcs v) p=true:=by
  intro p hp;simp only [inK,List.any_eq_true,decide_eq_true_eq];exact ⟨p,hp,rfl⟩
 obtain ⟨g1,g2,g3⟩:=Cx.grab_ok (H':=X.H) (K:=inK (srcs v)) (v':=zg7 v) (t:=t) s.ok (by
  intro i k b e ek xs hk
  obtain ⟨p,off,h1,b',ys,h2,h3,h4,h5⟩:=zy1 r ho hk
  rw [ht h1]
  refine ⟨?_,s.ok.nf p (by rw [h2];simp)⟩
  obtain ⟨zs,z1,z2,z3,z4⟩:=s.ok.own p b' e ek ys h2
  refine ⟨zs,z1,by simp only;omega,?_,?_⟩
  · simp only
    rw [← h4,← z3,List.drop_take,List.take_take,List.drop_drop]
    congr 1
    simp only [List.length_take,List.length_drop]
    omega
  · intro hb
    obtain ⟨q1,q2⟩:=h5 hb
    simp only [z4 q1,q2])
  (by
    intro i k o p hk hp _ hK he
    obtain ⟨b,e,ek,xs⟩:=o
    obtain ⟨p',off,h1,b',ys,h2,_⟩:=zy1 r ho hk
    rw [ht h1] at he
    have:=s.ok.dis p p' hp (by rw [h2];simp) he
    subst this
    rw [hmem p (jl8 h1)] at hK
    cases hK)
  (by
    intro i k i' k' o o' hk hk' he
    obtain ⟨b,e,ek,xs⟩:=o
    obtain ⟨b2,e2,ek2,xs2⟩:=o'
    obtain ⟨p,off,h1,_,ys,h2,_⟩:=zy1 r ho hk
    obtain ⟨p',off',h1',_,ys',h2',_⟩:=zy1 r ho hk'
    rw [ht h1,ht h1'] at he
    have:=s.ok.dis p p' (by rw [h2];simp) (by rw [h2'];simp) he
    subst this
    exact jj2 hn h1 h1')
  (fun _ _ _ _=>rfl) (fun _ _ h _=>h)
 have E:Ext (inK (srcs v)) false X (X.grab (inK (srcs v)) (zg7 v) t X.H).hide:=by
  refine ⟨g2.n,g2.rho,?_,g2.F,g2.rows,fun h=>by cases h⟩
  intro p hp hop
  have hnt:zc7 p=false:=by
   cases p with
   | tmp i k=>exact (hop (s.ht i k)).elim
   | _=>rfl
  have:=g2.pl p (by simp [hp,hnt]) hop
  refine ⟨this.1,?_⟩
  simp only [Cx.hide,hnt,Bool.false_eq_true,if_false]
  exact this.2
 have hv:VR (X.grab (inK (srcs v)) (zg7 v) t X.H) Pl.tmp (zg7 v) h:=by
  by_cases h1:∃ vs,v=.tup vs
  · obtain ⟨vs,rfl⟩:=h1
    obtain ⟨hs,r1,r2⟩:=r
    refine ⟨hs,r1,r2.taken g2 ho ?_⟩
    intro j k p b off e ek xs hj
    obtain ⟨c,c1,c2,c3⟩:=hj
    rw [Nat.zero_add]
    refine ⟨?_,ht (by simp only [viewAt,c1];exact c2)⟩
    show zq9 (zg7 (.tup vs)) j k=_
    simp only [zg7,zq9,List.getElem?_map,c1,Option.map_some,c3]
  · have n1:∀ vs,v≠.tup vs:=fun vs e=>h1 ⟨vs,e⟩
    have e1:zg7 v=z62 v:=by
     cases v with
     | tup vs=>exact (n1 _ rfl).elim
     | _=>rfl
    have e2:z89 v=za4 v:=by
     cases v with
     | tup vs=>exact (n1 _ rfl).elim
     | lbox ek w=>exact (hb _ _ rfl).elim
     | _=>rfl
    have e3:∀ k,viewAt v 0 k=zc8 v k:=by
     intro k
     cases v with
     | tup vs=>exact (n1 _ rfl).elim
     | _=>rfl
    have e4:∀ k,zq9 (zg7 v) 0 k=zu4 (z62 v) k:=by
     intro k
     cases v with
     | tup vs=>exact (n1 _ rfl).elim
     | _=>rfl
    have key:=(r.toC n1 hb).taken (q':=Pl.tmp 0) g2 (by rw [← e2];exact ho) (by
     intro k p b off e ek xs h1 h2
     refine ⟨?_,ht (by rw [e3];exact h1)⟩
     show zq9 (zg7 v) 0 k=_
     rw [e4];exact h2)
    rw [e1] at key ⊢
    exact zo6 key
 refine ⟨_,⟨g1,s.fr.hit E,s.hp.hit E rfl (fun i _=>rfl),fun _=>⟨hv,q58 v hb⟩,?_⟩,g3,rfl,hv,q58 v hb,⟨g2.n,g2.rho,fun p hp hop=>g2.pl p (by
  have hnt:zc7 p=false:=by
   cases p with
   | tmp i k=>exact (hop (s.ht i k)).elim
   | _=>rfl
  simp [hp,hnt]) hop,g2.F,g2.rows,fun h=>by cases h⟩⟩
 intro hno
 have hnv:=q58 v hb
 have Z:Ext zc7 false (X.grab (inK (srcs v)) (zg7 v) t X.H) (X.grab (inK (srcs v)) (zg7 v) t X.H).hide:=
  ⟨Nat.le_refl _,fun _ _=>rfl,fun p hp _=>⟨rfl,by simp [Cx.hide,hp]⟩,fun _ h=>h,fun _ _ h _=>h,fun h=>by cases h⟩
 have:=hv.hit Z
 rw [wd4 hnv hno] at this
 exact this
end Go.Proofs.Lz
