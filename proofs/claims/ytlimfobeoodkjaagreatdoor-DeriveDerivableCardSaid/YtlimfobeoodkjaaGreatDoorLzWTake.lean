/- Taking views in hand; putting what is in hand into a slot. -/
import Derived.Test.YtlimfobeoodkjaaGreatDoorLzWRel
namespace Go.Proofs.Lz
structure WStp (X Y:Cx):Prop where
 n:X.n<=Y.n
 rho:∀ i,i<X.n->Y.rho i=X.rho i
 F:Y.F=X.F
 rows:∀ id r,X.H[id]?=some r->(V5 r\/X.F id)->Y.H[id]?=some r
theorem WStp.refl (X:Cx):WStp X X:=⟨Nat.le_refl _,fun _ _=>rfl,rfl,fun _ _ h _=>h⟩
theorem WStp.trans {X Y Z:Cx} (a:WStp X Y) (b:WStp Y Z):WStp X Z:=
 ⟨Nat.le_trans a.n b.n,fun i h=>(b.rho i (Nat.lt_of_lt_of_le h a.n)).trans (a.rho i h),b.F.trans a.F,
  fun id r h k=>b.rows id r (a.rows id r h k) (k.imp (fun x=>x) (fun k=>by rw [a.F];exact k))⟩
def Y3:WV->Option (Bool×Nat×Option Nat×List CV)
 | .own b e ek xs=>some (b,e,ek,xs)
 | _=>none
def M9:WV->Nat->Option (Bool×Nat×Option Nat×List CV)
 | .agg cs,k=>match cs[k]? with
   | some v=>Y3 v
   | none=>none
 | v,0=>Y3 v
 | _,_=>none
def B0:WV->Nat->Nat->Option (Bool×Nat×Option Nat×List CV)
 | .tup vs,i,k=>match vs[i]? with
   | some v=>M9 v k
   | none=>none
 | v,0,k=>M9 v k
 | _,_,_=>none
def S7:WV->Option (Pl×Nat)
 | .view p _ off _ _ _=>some (p,off)
 | _=>none
def A4:WV->Nat->Option (Pl×Nat)
 | .agg cs,k=>match cs[k]? with
   | some v=>S7 v
   | none=>none
 | v,0=>S7 v
 | _,_=>none
def viewAt:WV->Nat->Nat->Option (Pl×Nat)
 | .tup vs,i,k=>match vs[i]? with
   | some v=>A4 v k
   | none=>none
 | v,0,k=>A4 v k
 | _,_,_=>none
def Cx.grab (X:Cx) (K:Pl->Bool) (v':WV) (t:Nat->Nat->Nat×Nat×Nat) (H':q7):Cx:=
 { X with
   O:=fun p=>match p with
    | .tmp i k=>B0 v' i k
    | p=>if K p=true then none else X.O p
   th:=fun p=>match p with
    | .tmp i k=>t i k
    | p=>X.th p
   H:=H' }
def y9:Pl->Bool
 | .tmp _ _=>true
 | _=>false
theorem Cx.grab_ok {X:Cx} (hx:XOk X) {K:Pl->Bool} {v':WV} {t:Nat->Nat->Nat×Nat×Nat} {H':q7}
 (rows:∀ i k b e ek xs,B0 v' i k=some (b,e,ek,xs)->kZ H' (t i k) b e ek xs/\¬ X.F (t i k).1)
 (out:∀ i k o p,B0 v' i k=some o->X.O p≠none->y9 p=false->K p=false->(X.th p).1≠(t i k).1)
 (dist:∀ i k i' k' o o',B0 v' i k=some o->B0 v' i' k'=some o'->(t i k).1=(t i' k').1->i=i'/\k=k')
 (same:∀ p,X.O p≠none->y9 p=false->K p=false->H'[(X.th p).1]?=X.H[(X.th p).1]?)
 (keep:∀ id r,X.H[id]?=some r->(V5 r\/X.F id)->H'[id]?=some r) :
 XOk (X.grab K v' t H')/\Ext (fun p=>K p||y9 p) false X (X.grab K v' t H')/\WStp X (X.grab K v' t H'):=by
 have hO:∀ p,y9 p=false->(X.grab K v' t H').O p=if K p=true then none else X.O p:=by
  intro p hp;cases p with
  | tmp=>cases hp
  | _=>rfl
 have hT:∀ p,y9 p=false->(X.grab K v' t H').th p=X.th p:=by
  intro p hp;cases p with
  | tmp=>cases hp
  | _=>rfl
 have tm:∀ p,y9 p=true->∃ i k,p=.tmp i k:=by
  intro p hp;cases p with
  | tmp i k=>exact ⟨i,k,rfl⟩
  | _=>cases hp
 have hO':∀ p,y9 p=false->(X.grab K v' t H').O p≠none->K p=false/\X.O p≠none:=by
  intro p hp h;rw [hO p hp] at h;cases hk:K p with
  | true=>rw [hk] at h;exact (h rfl).elim
  | false=>rw [hk] at h;exact ⟨rfl,by simpa using h⟩
 refine ⟨⟨?_,?_,?_,hx.rinj,fun i hi=>(hx.fl i hi).elim fun a ⟨b,c,d,e,hr⟩=>⟨a,b,c,d,e,keep i _ hr (.inr hi)⟩,fun i k hi=>by simp only [Cx.grab,hx.hz i k hi];split<;>rfl⟩,⟨Nat.le_refl _,fun _ _=>rfl,?_,fun _ h=>h,keep,fun h=>by cases h⟩,⟨Nat.le_refl _,fun _ _=>rfl,rfl,keep⟩⟩
 . intro p b e ek xs h;cases hp:y9 p with
   | true=>
     obtain ⟨i,k,rfl⟩:=tm p hp;exact (rows i k b e ek xs h).1
   | false=>
     obtain ⟨k1,k2⟩:=hO' p hp (by rw [h];simp);rw [hO p hp,k1] at h;obtain ⟨ys,r1,r2⟩:=hx.own p b e ek xs (by simpa using h);rw [hT p hp];exact ⟨ys,by rw [<-r1];exact same p k2 hp k1,r2⟩
 . intro p p' h h' he;cases hp:y9 p with
   | true=>
     obtain ⟨i,k,rfl⟩:=tm p hp;obtain ⟨o,ho⟩:=Option.ne_none_iff_exists'.1 h;cases hp':y9 p' with
     | true=>
       obtain ⟨i',k',rfl⟩:=tm p' hp';obtain ⟨o',ho'⟩:=Option.ne_none_iff_exists'.1 h';obtain ⟨e1,e2⟩:=dist i k i' k' o o' ho ho' he;rw [e1,e2]
     | false=>
       obtain ⟨k1,k2⟩:=hO' p' hp' h';rw [hT p' hp'] at he;exact (out i k o p' ho k2 hp' k1 he.symm).elim
   | false=>
     obtain ⟨k1,k2⟩:=hO' p hp h;rw [hT p hp] at he;cases hp':y9 p' with
     | true=>
       obtain ⟨i',k',rfl⟩:=tm p' hp';obtain ⟨o',ho'⟩:=Option.ne_none_iff_exists'.1 h';exact (out i' k' o' p ho' k2 hp k1 he).elim
     | false=>
       obtain ⟨k1',k2'⟩:=hO' p' hp' h';rw [hT p' hp'] at he;exact hx.dis p p' k2 k2' he
 . intro p h;cases hp:y9 p with
   | true=>
     obtain ⟨i,k,rfl⟩:=tm p hp;obtain ⟨o,ho⟩:=Option.ne_none_iff_exists'.1 h;obtain ⟨b,e,ek,xs⟩:=o;exact (rows i k b e ek xs ho).2
   | false=>
     obtain ⟨k1,k2⟩:=hO' p hp h;rw [hT p hp];exact hx.nf p k2
 . intro p hp h;simp only [Bool.or_eq_false_iff] at hp;refine ⟨hT p hp.2,?_⟩;rw [hO p hp.2,hp.1];rfl
def Cx.land (X:Cx) (dec:Pl->Option (Nat×Nat)):Cx:=
 { X with
   O:=fun p=>match dec p with
    | some (i,k)=>X.O (.tmp i k)
    | none=>if y9 p=true then none else X.O p
   th:=fun p=>match dec p with
    | some (i,k)=>X.th (.tmp i k)
    | none=>X.th p }
theorem Cx.land_ok {X:Cx} (hx:XOk X) {dec:Pl->Option (Nat×Nat)} (dinj:∀ p p' x,dec p=some x->dec p'=some x->p=p') (dhp:∀ i k x,dec (.hp i k)=some x->i<X.n) :
 XOk (X.land dec)/\Ext (fun p=>(dec p).isSome||y9 p) false X (X.land dec)/\WStp X (X.land dec):=by
 have hO:∀ p,dec p=none->(X.land dec).O p=if y9 p=true then none else X.O p:=by
  intro p h;simp only [Cx.land,h]
 have hT:∀ p,dec p=none->(X.land dec).th p=X.th p:=by
  intro p h;simp only [Cx.land,h]
 have hO1:∀ p i k,dec p=some (i,k)->(X.land dec).O p=X.O (.tmp i k):=by
  intro p i k h;simp only [Cx.land,h]
 have hT1:∀ p i k,dec p=some (i,k)->(X.land dec).th p=X.th (.tmp i k):=by
  intro p i k h;simp only [Cx.land,h]
 have hO':∀ p,dec p=none->(X.land dec).O p≠none->y9 p=false/\X.O p≠none:=by
  intro p hp h;rw [hO p hp] at h;cases hk:y9 p with
  | true=>rw [hk] at h;exact (h rfl).elim
  | false=>rw [hk] at h;exact ⟨rfl,by simpa using h⟩
 refine ⟨⟨?_,?_,?_,hx.rinj,hx.fl,fun i k hi=>?_⟩,⟨Nat.le_refl _,fun _ _=>rfl,?_,fun _ h=>h,fun _ _ h _=>h,fun h=>by cases h⟩,⟨Nat.le_refl _,fun _ _=>rfl,rfl,fun _ _ h _=>h⟩⟩
 . intro p b e ek xs h;cases hp:dec p with
   | some x=>obtain ⟨i,k⟩:=x;rw [hO1 p i k hp] at h;rw [hT1 p i k hp];exact hx.own _ b e ek xs h
   | none=>
     obtain ⟨k1,k2⟩:=hO' p hp (by rw [h];simp);rw [hO p hp,k1] at h;rw [hT p hp];exact hx.own p b e ek xs (by simpa using h)
 . intro p p' h h' he;cases hp:dec p with
   | some x=>
     obtain ⟨i,k⟩:=x;rw [hO1 p i k hp] at h;rw [hT1 p i k hp] at he;cases hp':dec p' with
     | some x'=>
       obtain ⟨i',k'⟩:=x';rw [hO1 p' i' k' hp'] at h';rw [hT1 p' i' k' hp'] at he;have:=hx.dis _ _ h h' he;injection this with e1 e2;subst e1;subst e2;exact dinj _ _ _ hp hp'
     | none=>
       obtain ⟨k1,k2⟩:=hO' p' hp' h';rw [hT p' hp'] at he;have:=hx.dis _ _ h k2 he;subst this;cases k1
   | none=>
     obtain ⟨k1,k2⟩:=hO' p hp h;rw [hT p hp] at he;cases hp':dec p' with
     | some x'=>
       obtain ⟨i',k'⟩:=x';rw [hO1 p' i' k' hp'] at h';rw [hT1 p' i' k' hp'] at he;have:=hx.dis _ _ k2 h' he;subst this;cases k1
     | none=>
       obtain ⟨k1',k2'⟩:=hO' p' hp' h';rw [hT p' hp'] at he;exact hx.dis p p' k2 k2' he
 . intro p h;cases hp:dec p with
   | some x=>obtain ⟨i,k⟩:=x;rw [hO1 p i k hp] at h;rw [hT1 p i k hp];exact hx.nf _ h
   | none=>rw [hT p hp];exact hx.nf p (hO' p hp h).2
 . cases hd:dec (.hp i k) with
   | some x=>exact (Nat.not_lt_of_le hi (dhp i k x hd)).elim
   | none=>rw [hO _ hd,hx.hz i k hi];rfl
 . intro p hp h;simp only [Bool.or_eq_false_iff] at hp;have hd:dec p=none:=by simpa using hp.1
   refine ⟨hT p hd,?_⟩;rw [hO p hd,hp.2];rfl
theorem VR1.land {X:Cx} {dec:Pl->Option (Nat×Nat)} (E:Ext (fun p=>(dec p).isSome||y9 p) false X (X.land dec)) {i k:Nat} {q':Pl} (hd:dec q'=some (i,k)) {v:WV} {h:HV}
 (r:VR1 X (.tmp i k) v h) (nv:I2 v=true):VR1 (X.land dec) q' v h:=by
 cases v with
 | own b e ek xs=>
   obtain ⟨r1,r2⟩:=r;refine ⟨?_,?_⟩
   . simp only [Cx.land,hd];exact r1
   . simp only [Cx.land,hd];exact r2
 | view=>cases nv
 | eptr=>cases nv
 | _=>exact (VR1.hit E r).any rfl
theorem VRL.land {X:Cx} {dec:Pl->Option (Nat×Nat)} (E:Ext (fun p=>(dec p).isSome||y9 p) false X (X.land dec)) {i:Nat} {q':Nat->Pl} (hd:∀ k,dec (q' k)=some (i,k)) :
 ∀ {l:List WV} {k:Nat} {s:List HV},VRL X (Pl.tmp i) k l s->l.all I2=true->VRL (X.land dec) q' k l s:=by
 intro l;induction l with
 | nil=>intro k s h _;cases s with
   | nil=>trivial
   | cons=>exact h.elim
 | cons v l ih=>intro k s h nv;cases s with
   | nil=>exact h.elim
   | cons a s=>
     simp only [List.all_cons,Bool.and_eq_true] at nv;exact ⟨h.1.land E (hd k) nv.1,ih h.2 nv.2⟩
theorem VRC.land {X:Cx} {dec:Pl->Option (Nat×Nat)} (E:Ext (fun p=>(dec p).isSome||y9 p) false X (X.land dec)) {i:Nat} {q':Nat->Pl} (hd:∀ k,dec (q' k)=some (i,k))
 {v:WV} {h:HV} (r:VRC X (Pl.tmp i) v h) (nv:E8 v=true):VRC (X.land dec) q' v h:=by
 cases v with
 | agg cs=>obtain ⟨hs,r1,r2⟩:=r;exact ⟨hs,r1,r2.land E hd nv⟩
 | undef=>exact r
 | tup=>exact r.elim
 | lbox=>exact r.elim
 | view=>cases nv
 | eptr=>cases nv
 | own b e ek xs=>exact VR1.land E (hd 0) (v:=.own b e ek xs) r rfl
 | c v=>exact r
 | nils=>exact r
 | skipv=>exact r
 | gone=>exact r
 | imm fz ek xs=>exact VR1.land E (hd 0) (v:=.imm fz ek xs) r rfl
 | ptr id off=>exact VR1.land E (hd 0) (v:=.ptr id off) r rfl
 | iptr fz ek x off=>exact VR1.land E (hd 0) (v:=.iptr fz ek x off) r rfl
 | fn f a b=>exact VR1.land E (hd 0) (v:=.fn f a b) r rfl
theorem VRT.land {X:Cx} {dec:Pl->Option (Nat×Nat)} (E:Ext (fun p=>(dec p).isSome||y9 p) false X (X.land dec)) {q':Nat->Nat->Pl} (hd:∀ i k,dec (q' i k)=some (i,k)) :
 ∀ {l:List WV} {i:Nat} {s:List HV},VRT X Pl.tmp i l s->l.all E8=true->VRT (X.land dec) q' i l s:=by
 intro l;induction l with
 | nil=>intro k s h _;cases s with
   | nil=>trivial
   | cons=>exact h.elim
 | cons v l ih=>intro k s h nv;cases s with
   | nil=>exact h.elim
   | cons a s=>
     simp only [List.all_cons,Bool.and_eq_true] at nv;exact ⟨h.1.land E (hd k) nv.1,ih h.2 nv.2⟩
theorem VR.land {X:Cx} {dec:Pl->Option (Nat×Nat)} (E:Ext (fun p=>(dec p).isSome||y9 p) false X (X.land dec)) {q':Nat->Nat->Pl} (hd:∀ i k,dec (q' i k)=some (i,k))
 {v:WV} {h:HV} (r:VR X Pl.tmp v h) (nv:noView v=true):VR (X.land dec) q' v h:=by
 by_cases h1:∃ vs,v=.tup vs
 . obtain ⟨vs,rfl⟩:=h1;obtain ⟨hs,r1,r2⟩:=r;exact ⟨hs,r1,r2.land E hd nv⟩
 . by_cases h2:∃ ek w,v=.lbox ek w
   . obtain ⟨ek,w,rfl⟩:=h2;obtain ⟨h',r1,r2⟩:=r;exact ⟨h',r1,r2.land E (hd 0) nv⟩
   . have n1:∀ vs,v≠.tup vs:=fun vs e=>h1 ⟨vs,e⟩;have n2:∀ ek w,v≠.lbox ek w:=fun ek w e=>h2 ⟨ek,w,e⟩;have:noView v=E8 v:=by
      cases v with
      | tup vs=>exact (n1 _ rfl).elim
      | lbox ek w=>exact (n2 _ _ rfl).elim
      | _=>rfl
     exact N9 ((r.toC n1 n2).land E (hd 0) (by rw [<-this];exact nv))
end Go.Proofs.Lz
namespace Go.Proofs.Lz
def Cx.hide (X:Cx):Cx:={ X with O:=fun p=>if y9 p=true then none else X.O p }
theorem XOk.hide {X:Cx} (h:XOk X):XOk X.hide:=
 ⟨fun p b e ek xs hp=>by
  have:X.O p=some (b,e,ek,xs):=by
   simp only [Cx.hide] at hp;split at hp
   . cases hp
   . exact hp
  exact h.own p b e ek xs this,fun p p' h1 h2 he=>h.dis p p' (fun h=>h1 (by simp [Cx.hide,h])) (fun h=>h2 (by simp [Cx.hide,h])) he,
  fun p h1=>h.nf p (fun h=>h1 (by simp [Cx.hide,h])),h.rinj,h.fl,fun i k hi=>h.hz i k hi⟩
structure SR (X:Cx) (w:WFr) (W:q8) (fr:Fr):Prop where
 ok:XOk X
 fr:FrR X w fr
 hp:HpR X W
 ht:∀ i k,X.O (.tmp i k)=none
structure Hand (X:Cx) (w:WFr) (W:q8) (fr:Fr) (v:WV) (h:HV):Prop where
 ok:XOk X
 fr:FrR X.hide w fr
 hp:HpR X.hide W
 vo:y7 v=true->VR X Pl.tmp v h/\noView v=true
 vf:y7 v=false->VR X.hide Pl.tmp v h
theorem sS (K L:Pl->Bool) (pl:Pl) (v:WV):x8 L false pl (x8 K false pl v)=x8 (fun p=>K p||L p) false pl v:=by
 cases v with
 | own b e ek xs=>
   by_cases hk:K pl=true<;>simp [x8,hk]
 | view p b off e ek xs=>
   by_cases hk:K p=true<;>simp [x8,hk]
 | eptr p i off ek x=>
   by_cases hk:K p=true<;>simp [x8,hk]
 | _=>rfl
theorem zr5 (K L:Pl->Bool) (q:Nat->Pl):∀ (l:List WV) (k:Nat),C6 L false q k (C6 K false q k l)=C6 (fun p=>K p||L p) false q k l:=by
 intro l;induction l with
 | nil=>intro k;rfl
 | cons v l ih=>intro k;simp only [C6,sS,ih]
theorem gY {K:Pl->Bool} {fz:Bool} {q:Nat->Pl} {v:WV} (h:∀ cs,v≠.agg cs):b6 K fz q v=x8 K fz (q 0) v:=by
 cases v with
 | agg cs=>exact (h cs rfl).elim
 | _=>rfl
theorem zl3 {K:Pl->Bool} {fz:Bool} {pl:Pl} {v:WV} (h:∀ cs,v≠.agg cs):∀ cs,x8 K fz pl v≠.agg cs:=by
 intro cs;cases v with
 | agg cs=>exact (h cs rfl).elim
 | own b e ek xs=>simp only [x8];split<;>(try split)<;>exact fun h=>by cases h
 | view p b off e ek xs=>simp only [x8];split<;>exact fun h=>by cases h
 | eptr p i off ek x=>simp only [x8];split<;>exact fun h=>by cases h
 | _=>exact fun h=>by cases h
theorem bS (K L:Pl->Bool) (q:Nat->Pl) (v:WV):b6 L false q (b6 K false q v)=b6 (fun p=>K p||L p) false q v:=by
 by_cases h:∃ cs,v=.agg cs
 . obtain ⟨cs,rfl⟩:=h;simp only [b6,zr5]
 . have h':∀ cs,v≠.agg cs:=fun cs e=>h ⟨cs,e⟩;rw [gY h',gY h',gY (zl3 h'),sS]
theorem zw8 (K L:Pl->Bool) (q:Nat->Nat->Pl):∀ (l:List WV) (k:Nat),C3 L false q k (C3 K false q k l)=C3 (fun p=>K p||L p) false q k l:=by
 intro l;induction l with
 | nil=>intro k;rfl
 | cons v l ih=>intro k;simp only [C3,bS,ih]
theorem cY {K:Pl->Bool} {fz:Bool} {q:Nat->Pl} {v:WV} (h1:∀ vs,v≠.tup vs) (h2:∀ ek w,v≠.lbox ek w):(∀ vs,b6 K fz q v≠.tup vs)/\∀ ek w,b6 K fz q v≠.lbox ek w:=by
 cases v with
 | tup vs=>exact (h1 _ rfl).elim
 | lbox ek w=>exact (h2 _ _ rfl).elim
 | agg cs=>exact ⟨fun _ h=>(by cases h),fun _ _ h=>(by cases h)⟩
 | own b e ek xs=>simp only [b6,x8];split<;>(try split)<;>exact ⟨fun _ h=>(by cases h),fun _ _ h=>(by cases h)⟩
 | view p b off e ek xs=>simp only [b6,x8];split<;>exact ⟨fun _ h=>(by cases h),fun _ _ h=>(by cases h)⟩
 | eptr p i off ek x=>simp only [b6,x8];split<;>exact ⟨fun _ h=>(by cases h),fun _ _ h=>(by cases h)⟩
 | _=>exact ⟨fun _ h=>(by cases h),fun _ _ h=>(by cases h)⟩
theorem zh6 (K L:Pl->Bool) (q:Nat->Nat->Pl) (v:WV):hit L false q (hit K false q v)=hit (fun p=>K p||L p) false q v:=by
 by_cases h1:∃ vs,v=.tup vs
 . obtain ⟨vs,rfl⟩:=h1;simp only [hit,zw8]
 . by_cases h2:∃ ek w,v=.lbox ek w
   . obtain ⟨ek,w,rfl⟩:=h2;simp only [hit,bS]
   . have n1:∀ vs,v≠.tup vs:=fun vs e=>h1 ⟨vs,e⟩;have n2:∀ ek w,v≠.lbox ek w:=fun ek w e=>h2 ⟨ek,w,e⟩;rw [xM n1 n2,xM n1 n2,xM (cY n1 n2).1 (cY n1 n2).2,bS]
theorem z13 (K L:Pl->Bool) (w:WFr):b8 L false (b8 K false w)=b8 (fun p=>K p||L p) false w:=by
 simp only [b8,zh6]
theorem cQ (pl:Pl) (fz:Bool) (v:WV):x8 (fun _=>false) fz pl v=v:=by cases v<;>simp [x8]
theorem jO (q:Nat->Pl) (fz:Bool):∀ (l:List WV) (k:Nat),C6 (fun _=>false) fz q k l=l:=by
 intro l;induction l with
 | nil=>intro k;rfl
 | cons v l ih=>intro k;simp only [C6,cQ,ih]
theorem bH (q:Nat->Pl) (fz:Bool) (v:WV):b6 (fun _=>false) fz q v=v:=by
 cases v with
 | agg cs=>simp only [b6,jO]
 | _=>simp only [b6,cQ]
theorem zz8 (q:Nat->Nat->Pl) (fz:Bool):∀ (l:List WV) (k:Nat),C3 (fun _=>false) fz q k l=l:=by
 intro l;induction l with
 | nil=>intro k;rfl
 | cons v l ih=>intro k;simp only [C3,bH,ih]
theorem z39 (q:Nat->Nat->Pl) (fz:Bool) (v:WV):hit (fun _=>false) fz q v=v:=by
 cases v with
 | tup vs=>simp only [hit,zz8]
 | lbox ek w=>simp only [hit,bH]
 | _=>simp only [hit,bH]
theorem vN (fz:Bool) (w:WFr):b8 (fun _=>false) fz w=w:=by
 simp only [b8,z39]
theorem kR:inK []=fun _=>false:=rfl
theorem zC (K:List Pl) (fz:Bool) (w:WFr) (W:q8):K1 K fz w W=(b8 (inK K) fz w,c6 fz K W):=by
 cases K with
 | nil=>simp only [K1,kR,vN,c6]
 | cons=>rfl
def D7 (K:List Pl) (fz:Bool) (i:Nat):Nat->List WV->List WV
 | _,[]=>[]
 | k,v::r=>(if inK K (.hp i k)=true then x8 (fun _=>true) fz (.hp i k) v else v)::D7 K fz i (k+1) r
theorem z60 (fz:Bool) (i:Nat):∀ (l:List WV) (k:Nat),D7 [] fz i k l=l:=by
 intro l;induction l with
 | nil=>intro k;rfl
 | cons v l ih=>intro k;simp only [D7,kR,Bool.false_eq_true,if_false,ih]
theorem zn5 (fz:Bool) (pl:Pl) (v:WV):x8 (fun _=>true) fz pl (x8 (fun _=>true) fz pl v)=x8 (fun _=>true) fz pl v:=by
 cases v<;>cases fz<;>simp [x8]
theorem yN (x:Pl) (K:List Pl) (p:Pl):inK (x::K) p=(decide (x=p)||inK K p):=by
 simp only [inK,List.any_cons]
theorem vF (K:List Pl) (fz:Bool) (x:Pl) (i:Nat) (hx:∀ k,x≠.hp i k):∀ (l:List WV) (k:Nat),D7 (x::K) fz i k l=D7 K fz i k l:=by
 intro l;induction l with
 | nil=>intro k;rfl
 | cons v l ih=>intro k;simp only [D7,yN,hx k,decide_false,Bool.false_or,ih]
theorem ze7 (K:List Pl) (fz:Bool) (i j:Nat):∀ (l:List WV) (k:Nat),D7 (.hp i (k+j)::K) fz i k l=D7 K fz i k (match l[j]? with
 | some v=>l.set j (x8 (fun _=>true) fz (.hp i (k+j)) v)
 | none=>l):=by
 induction j with
 | zero=>
   intro l k;cases l with
   | nil=>rfl
   | cons v l=>
     have e:∀ (l:List WV) (m:Nat),k<m->D7 (.hp i (k+0)::K) fz i m l=D7 K fz i m l:=by
      intro l;induction l with
      | nil=>intro m _;rfl
      | cons v l ih=>
        intro m hm;have:¬ (Pl.hp i (k+0)=Pl.hp i m):=by intro h;injection h;omega
        simp only [D7,yN,this,decide_false,Bool.false_or,ih (m+1) (by omega)]
     simp only [List.getElem?_cons_zero,List.set_cons_zero,D7,yN,Nat.add_zero,decide_true,Bool.true_or,if_true];rw [show Pl.hp i k=Pl.hp i (k+0) from rfl,e l (k+1) (by omega)];congr 1;split<;>simp [zn5]
 | succ j ih=>
   intro l k;cases l with
   | nil=>rfl
   | cons v l=>
     have:=ih l (k+1);have ej:k+1+j=k+(j+1):=by omega
     rw [ej] at this;simp only [List.getElem?_cons_succ,D7,yN];have ne:¬ (Pl.hp i (k+(j+1))=Pl.hp i k):=by intro h;injection h;omega
     simp only [ne,decide_false,Bool.false_or,this];cases hl:l[j]? with
     | none=>rfl
     | some x=>rfl
theorem nD (fz:Bool) (K:List Pl):∀ (W:q8) (i:Nat),(c6 fz K W)[i]?=(W[i]?).map fun | .var ek cs=>.var ek (D7 K fz i 0 cs):=by
 induction K with
 | nil=>
   intro W i;simp only [c6];cases h:W[i]? with
   | none=>rfl
   | some o=>obtain ⟨ek,cs⟩:=o;simp only [Option.map_some,z60]
 | cons x K ih=>
   intro W i;cases x with
   | hp id k=>
     simp only [c6];rw [ih];cases h:W[id]? with
     | none=>
       by_cases hi:i=id
       . subst hi;simp [h]
       . congr 1;funext o;obtain ⟨ek,cs⟩:=o;rw [vF K fz (.hp id k) i (by intro m hm;injection hm with e1 e2;exact hi e1.symm)]
     | some o=>
       obtain ⟨ek,cs⟩:=o;by_cases hi:i=id
       . subst hi;have hlt:=(gEs h).1;simp only [List.getElem?_set_self hlt,Option.map_some,h];have:=ze7 K fz i k cs 0;rw [Nat.zero_add] at this;rw [this];cases hc:cs[k]?<;>rfl
       . simp only;rw [List.getElem?_set_ne (Ne.symm hi)];congr 1;funext o;obtain ⟨ek,cs⟩:=o;rw [vF K fz (.hp id k) i (by intro m hm;injection hm with e1 e2;exact hi e1.symm)]
   | sl s a b=>
     simp only [c6];rw [ih];congr 1;funext o;obtain ⟨ek,cs⟩:=o;rw [vF K fz _ i (by intro m hm;cases hm)]
   | tmp a b=>
     simp only [c6];rw [ih];congr 1;funext o;obtain ⟨ek,cs⟩:=o;rw [vF K fz _ i (by intro m hm;cases hm)]
theorem fK (fz:Bool) (K:List Pl):∀ (W:q8),(c6 fz K W).length=W.length:=by
 induction K with
 | nil=>intro W;rfl
 | cons x K ih=>
   intro W;cases x with
   | hp id k=>
     simp only [c6,ih];split<;>simp
   | sl s a b=>simp only [c6,ih]
   | tmp a b=>simp only [c6,ih]
theorem zl8 {fz:Bool} {pl:Pl} {v:WV} (h:E4 v=true):E4 (x8 (fun _=>true) fz pl v)=true:=by
 cases v<;>first | exact h | (cases fz<;>rfl) | cases h
theorem VRL.cells {K:List Pl} {fz:Bool} {X Y:Cx} (E:Ext (inK K) fz X Y) {i:Nat}:∀ {l:List WV} {k:Nat} {s:List HV},VRL X (Pl.hp i) k l s->l.all E4=true ->
 VRL Y (Pl.hp i) k (D7 K fz i k l) s/\(D7 K fz i k l).all E4=true:=by
 intro l;induction l with
 | nil=>intro k s h _;cases s with
   | nil=>exact ⟨trivial,rfl⟩
   | cons=>exact h.elim
 | cons v l ih=>intro k s h hc;cases s with
   | nil=>exact h.elim
   | cons a s=>
     simp only [List.all_cons,Bool.and_eq_true] at hc;obtain ⟨i1,i2⟩:=ih h.2 hc.2;have hv:=h.1.hit E;simp only [D7,VRL,List.all_cons,Bool.and_eq_true];cases hk:inK K (.hp i k) with
     | true=>
       simp only [if_true];refine ⟨⟨?_,i1⟩,zl8 hc.1,i2⟩;revert hv
       cases v with
       | own b e ek xs=>simp only [x8,hk,if_true];exact fun x=>x
       | view=>cases hc.1
       | eptr=>cases hc.1
       | _=>exact fun x=>x
     | false=>
       simp only [Bool.false_eq_true,if_false];refine ⟨⟨?_,i1⟩,hc.1,i2⟩;revert hv
       cases v with
       | own b e ek xs=>simp only [x8,hk,Bool.false_eq_true,if_false];exact fun x=>x
       | view=>cases hc.1
       | eptr=>cases hc.1
       | _=>exact fun x=>x
theorem HpR.hit {K:List Pl} {fz:Bool} {X Y:Cx} (E:Ext (inK K) fz X Y) (hn:Y.n=X.n) (hv:∀ i,i<X.n->Y.H[X.rho i]?=X.H[X.rho i]?) {W:q8} (h:HpR X W):HpR Y (c6 fz K W):=by
 refine ⟨by rw [hn,h.n,fK],?_⟩;intro i ek cs hi;rw [nD] at hi;cases hw:W[i]? with
 | none=>rw [hw] at hi;cases hi
 | some o=>
   obtain ⟨ek',cs'⟩:=o;rw [hw] at hi;simp only [Option.map_some,Option.some.injEq,WO.var.injEq] at hi;obtain ⟨rfl,rfl⟩:=hi;obtain ⟨⟨hs,h1,h2⟩,h3⟩:=h.cells i ek' cs' hw;have hlt:i<X.n:=by rw [h.n];exact (gEs hw).1
   obtain ⟨c1,c2⟩:=h2.cells E h3;exact ⟨⟨hs,by rw [E.rho i hlt,hv i hlt];exact h1,c1⟩,c2⟩
theorem HpR.hit' {K:List Pl} {fz:Bool} {X Y:Cx} (E:Ext (inK K) fz X Y) (hn:Y.n=X.n) (hv:∀ i,i<X.n->∀ ek cs,X.H[X.rho i]?=some (.var ek cs)->Y.H[X.rho i]?=some (.var ek cs)) {W:q8} (h:HpR X W):HpR Y (c6 fz K W):=by
 refine ⟨by rw [hn,h.n,fK],?_⟩;intro i ek cs hi;rw [nD] at hi;cases hw:W[i]? with
 | none=>rw [hw] at hi;cases hi
 | some o=>
   obtain ⟨ek',cs'⟩:=o;rw [hw] at hi;simp only [Option.map_some,Option.some.injEq,WO.var.injEq] at hi;obtain ⟨rfl,rfl⟩:=hi;obtain ⟨⟨hs,h1,h2⟩,h3⟩:=h.cells i ek' cs' hw;have hlt:i<X.n:=by rw [h.n];exact (gEs hw).1
   obtain ⟨c1,c2⟩:=h2.cells E h3;exact ⟨⟨hs,by rw [E.rho i hlt];exact hv i hlt _ _ h1,c1⟩,c2⟩
theorem VRL.still {K:Pl->Bool} {fz:Bool} {X Y:Cx} (E:Ext K fz X Y) {i:Nat} (hk:∀ k,K (.hp i k)=false):∀ {l:List WV} {k:Nat} {s:List HV},VRL X (Pl.hp i) k l s->l.all E4=true ->
 VRL Y (Pl.hp i) k l s:=by
 intro l;induction l with
 | nil=>intro k s h _;cases s with
   | nil=>trivial
   | cons=>exact h.elim
 | cons v l ih=>intro k s h hc;cases s with
   | nil=>exact h.elim
   | cons a s=>
     simp only [List.all_cons,Bool.and_eq_true] at hc;refine ⟨?_,ih h.2 hc.2⟩;have hv:=h.1.hit E;revert hv
     cases v with
     | own b e ek xs=>simp only [x8,hk,Bool.false_eq_true,if_false];exact fun x=>x
     | view=>cases hc.1
     | eptr=>cases hc.1
     | _=>exact fun x=>x
theorem HpR.still {K:Pl->Bool} {fz:Bool} {X Y:Cx} (E:Ext K fz X Y) (hk:∀ i k,K (.hp i k)=false) (hn:Y.n=X.n) (hv:∀ i,i<X.n->Y.H[X.rho i]?=X.H[X.rho i]?) {W:q8} (h:HpR X W):HpR Y W:=by
 refine ⟨by rw [hn,h.n],?_⟩;intro i ek cs hi;obtain ⟨⟨hs,h1,h2⟩,h3⟩:=h.cells i ek cs hi;have hlt:i<X.n:=by rw [h.n];exact (gEs hi).1
 exact ⟨⟨hs,by rw [E.rho i hlt,hv i hlt];exact h1,h2.still E (hk i) h3⟩,h3⟩
def F9 (d:Nat):Pl->Option (Nat×Nat)
 | .sl s i k=>if s=d then some (i,k) else none
 | _=>none
theorem bR (d:Nat):(fun p=>(F9 d p).isSome)=o7 d:=by
 funext p;cases p with
 | sl s i k=>simp only [F9,o7];by_cases h:s=d<;>simp [h]
 | _=>rfl
theorem wU {X:Cx} {dec:Pl->Option (Nat×Nat)} (E:Ext (fun p=>(dec p).isSome||y9 p) false X (X.land dec)):Ext (fun p=>(dec p).isSome) false X.hide (X.land dec):=
 ⟨E.n,E.rho,fun p hp ho=>by
  have ht:y9 p=false:=by
   cases h:y9 p with
   | false=>rfl
   | true=>simp only [Cx.hide,h,if_true] at ho;exact (ho rfl).elim
  have:=E.pl p (by simp only [hp,ht,Bool.or_self]) (by simpa [Cx.hide,ht] using ho);exact ⟨this.1,by rw [this.2];simp [Cx.hide,ht]⟩,E.F,E.rows,fun h=>by cases h⟩
theorem Z7 {X:Cx} {dec:Pl->Option (Nat×Nat)} (dt:∀ i k,dec (.tmp i k)=none):∀ i k,(X.land dec).O (.tmp i k)=none:=by
 intro i k;simp only [Cx.land,dt,y9,if_true]
theorem Hand.putD {X:Cx} {w:WFr} {W:q8} {fr:Fr} {v:WV} {h:HV} (s:Hand X w W fr v h) (d:Nat) :
 ∃ Y,SR Y (w.putD d v) W (fr.put (some d) h)/\WStp X Y/\Y.H=X.H:=by
 cases ho:y7 v with
 | false=>
   have hx:XOk X.hide:=s.ok.hide;refine ⟨X.hide,⟨hx,?_,s.hp,fun i k=>rfl⟩,⟨Nat.le_refl _,fun _ _=>rfl,rfl,fun _ _ h _=>h⟩,rfl⟩;simp only [WFr.putD,ho,Bool.false_eq_true,if_false];exact s.fr.put1 ((s.vf ho).any ho)
 | true=>
   obtain ⟨l1,l2,l3⟩:=Cx.land_ok s.ok (dec:=F9 d) (by
    intro p p' x h1 h2;cases p with
    | sl a b c=>
      cases p' with
      | sl a' b' c'=>
        simp only [F9] at h1 h2;split at h1
        . split at h2
          . rename_i e1 e2;subst e1;subst e2;rw [<-h2] at h1;injection h1 with h1;injection h1 with h1 h3;subst h1;subst h3;rfl
          . cases h2
        . cases h1
      | _=>cases h2
    | _=>cases h1) (fun i k x h=>by cases h)
   have E:=wU l2;refine ⟨X.land (F9 d),⟨l1,?_,?_,Z7 (fun i k=>rfl)⟩,l3,rfl⟩
   . simp only [WFr.putD,ho,if_true];rw [bR] at E;exact (s.fr.hit E).put1 ((s.vo ho).1.land l2 (fun i k=>by simp [F9]) (s.vo ho).2)
   . exact s.hp.still E (fun i k=>rfl) rfl (fun i _=>rfl)
theorem dJ {α β:Type} (f:α->List β):∀ (l:List α) (i j:Nat) (a b:α) (p:β),(l.flatMap f).Nodup->l[i]?=some a->l[j]?=some b->p∈f a->p∈f b->i=j:=by
 intro l;induction l with
 | nil=>intro i j a b p _ h;cases h
 | cons x l ih=>
   intro i j a b p hn hi hj ha hb;rw [List.flatMap_cons,List.nodup_append] at hn;obtain ⟨n1,n2,n3⟩:=hn;cases i with
   | zero=>
     cases j with
     | zero=>rfl
     | succ j=>
       simp only [List.getElem?_cons_zero,Option.some.injEq] at hi;simp only [List.getElem?_cons_succ] at hj;subst hi;exact (n3 p ha p (List.mem_flatMap.2 ⟨b,List.mem_of_getElem? hj,hb⟩) rfl).elim
   | succ i=>
     cases j with
     | zero=>
       simp only [List.getElem?_cons_zero,Option.some.injEq] at hj;simp only [List.getElem?_cons_succ] at hi;subst hj;exact (n3 p hb p (List.mem_flatMap.2 ⟨a,List.mem_of_getElem? hi,ha⟩) rfl).elim
     | succ j=>
       simp only [List.getElem?_cons_succ] at hi hj;rw [ih i j a b p n2 hi hj ha hb]
theorem z82 {α β:Type} (f:α->List β):∀ (l:List α) (i:Nat) (a:α),(l.flatMap f).Nodup->l[i]?=some a->(f a).Nodup:=by
 intro l;induction l with
 | nil=>intro i a _ h;cases h
 | cons x l ih=>
   intro i a hn hi;rw [List.flatMap_cons,List.nodup_append] at hn;cases i with
   | zero=>simp only [List.getElem?_cons_zero,Option.some.injEq] at hi;subst hi;exact hn.1
   | succ i=>exact ih i a hn.2.1 (by simpa using hi)
theorem yT:∀ l:List WV,J2 l=l.flatMap A7:=by
 intro l;induction l with
 | nil=>rfl
 | cons v l ih=>simp only [J2,List.flatMap_cons,ih]
theorem vT:∀ l:List WV,A5 l=l.flatMap l6:=by
 intro l;induction l with
 | nil=>rfl
 | cons v l ih=>simp only [A5,List.flatMap_cons,ih]
theorem xZ {v:WV} {p:Pl} {off:Nat} (h:S7 v=some (p,off)):p∈A7 v:=by
 cases v with
 | view=>simp only [S7,Option.some.injEq,Prod.mk.injEq] at h;obtain ⟨rfl,rfl⟩:=h;simp [A7]
 | _=>cases h
theorem xU {v:WV} {k:Nat} {p:Pl} {off:Nat} (h:A4 v k=some (p,off)):p∈l6 v:=by
 cases v with
 | agg cs=>
   simp only [A4] at h;cases hc:cs[k]? with
   | none=>rw [hc] at h;cases h
   | some c=>rw [hc] at h;simp only [l6,yT];exact List.mem_flatMap.2 ⟨c,List.mem_of_getElem? hc,xZ h⟩
 | view=>
   cases k with
   | zero=>simp only [A4] at h;exact xZ h
   | succ k=>simp [A4] at h
 | _=>cases k<;>simp [A4,S7] at h
theorem rH {v:WV} (hn:(l6 v).Nodup) {k k':Nat} {p:Pl} {off off':Nat} (h:A4 v k=some (p,off)) (h':A4 v k'=some (p,off')):k=k':=by
 cases v with
 | agg cs=>
   simp only [A4] at h h';simp only [l6,yT] at hn;cases hc:cs[k]? with
   | none=>rw [hc] at h;cases h
   | some c=>
     cases hc':cs[k']? with
     | none=>rw [hc'] at h';cases h'
     | some c'=>rw [hc] at h;rw [hc'] at h';exact dJ A7 cs k k' c c' p hn hc hc' (xZ h) (xZ h')
 | _=>
   cases k<;>cases k'<;>first | rfl | (simp [A4,S7] at h;done) | (simp [A4,S7] at h';done)
theorem zx1 {v:WV} (hn:(u4 v).Nodup) {i k i' k':Nat} {p:Pl} {off off':Nat} (h:viewAt v i k=some (p,off)) (h':viewAt v i' k'=some (p,off')):i=i'/\k=k':=by
 by_cases h1:∃ vs,v=.tup vs
 . obtain ⟨vs,rfl⟩:=h1;simp only [viewAt] at h h';simp only [u4,vT] at hn;cases hc:vs[i]? with
   | none=>rw [hc] at h;cases h
   | some c=>
     cases hc':vs[i']? with
     | none=>rw [hc'] at h';cases h'
     | some c'=>
       rw [hc] at h;rw [hc'] at h';have e:=dJ l6 vs i i' c c' p hn hc hc' (xU h) (xU h');subst e;rw [hc] at hc';injection hc' with hc';subst hc';exact ⟨rfl,rH (z82 l6 vs i c hn hc) h h'⟩
 . have n1:∀ vs,v≠.tup vs:=fun vs e=>h1 ⟨vs,e⟩;have e0:∀ i k,viewAt v i k=if i=0 then A4 v k else none:=by
    intro i k;cases v with
    | tup vs=>exact (n1 _ rfl).elim
    | _=>cases i<;>rfl
   have e1:u4 v=l6 v:=by
    cases v with
    | tup vs=>exact (n1 _ rfl).elim
    | _=>rfl
   rw [e0] at h h';split at h
   . split at h'
     . rename_i a b;rw [e1] at hn;exact ⟨by rw [a,b],rH hn h h'⟩
     . cases h'
   . cases h
theorem z68 {c:WV} {b:Bool} {e:Nat} {ek:Option Nat} {xs:List CV} (h:Y3 (B6 c)=some (b,e,ek,xs)) (ho:d5 c=false):∃ p off,c=.view p b off e ek xs:=by
 cases c with
 | view p b off e ek xs=>simp only [B6,Y3,Option.some.injEq,Prod.mk.injEq] at h;obtain ⟨rfl,rfl,rfl,rfl⟩:=h;exact ⟨p,off,rfl⟩
 | own=>cases ho
 | _=>cases h
theorem VRL.get {X:Cx} {q:Nat->Pl}:∀ {l:List WV} {k:Nat} {s:List HV} {j:Nat} {c:WV},VRL X q k l s->l[j]?=some c->∃ a,s[j]?=some a/\VR1 X (q (k+j)) c a:=by
 intro l;induction l with
 | nil=>intro k s j c _ h;cases h
 | cons v l ih=>intro k s j c h hj;cases s with
   | nil=>exact h.elim
   | cons a s=>
     cases j with
     | zero=>simp only [List.getElem?_cons_zero,Option.some.injEq] at hj;subst hj;exact ⟨a,rfl,h.1⟩
     | succ j=>
       obtain ⟨a',h1,h2⟩:=ih h.2 (by simpa using hj);exact ⟨a',by simpa using h1,by rw [show k+(j+1)=k+1+j by omega];exact h2⟩
theorem VRT.get {X:Cx} {q:Nat->Nat->Pl}:∀ {l:List WV} {k:Nat} {s:List HV} {j:Nat} {c:WV},VRT X q k l s->l[j]?=some c->∃ a,s[j]?=some a/\VRC X (q (k+j)) c a:=by
 intro l;induction l with
 | nil=>intro k s j c _ h;cases h
 | cons v l ih=>intro k s j c h hj;cases s with
   | nil=>exact h.elim
   | cons a s=>
     cases j with
     | zero=>simp only [List.getElem?_cons_zero,Option.some.injEq] at hj;subst hj;exact ⟨a,rfl,h.1⟩
     | succ j=>
       obtain ⟨a',h1,h2⟩:=ih h.2 (by simpa using hj);exact ⟨a',by simpa using h1,by rw [show k+(j+1)=k+1+j by omega];exact h2⟩
theorem pR {α:Type} {f:α->Bool} {l:List α} (h:l.any f=false) {j:Nat} {c:α} (hj:l[j]?=some c):f c=false:=by
 have:=List.any_eq_false.1 h c (List.mem_of_getElem? hj);simpa using this
theorem cD {X:Cx} {q:Nat->Pl} {v:WV} {h:HV} (r:VRC X q v h) (ho:c8 v=false) {k:Nat} {b:Bool} {e:Nat} {ek:Option Nat} {xs:List CV} (hk:M9 (j6 v) k=some (b,e,ek,xs)) :
 ∃ p off,A4 v k=some (p,off)/\vA X p b off e ek xs:=by
 cases v with
 | agg cs=>
   obtain ⟨hs,r1,r2⟩:=r;simp only [j6,M9,List.getElem?_map] at hk;cases hc:cs[k]? with
   | none=>rw [hc] at hk;cases hk
   | some c=>
     rw [hc] at hk;simp only [Option.map_some] at hk;obtain ⟨p,off,rfl⟩:=z68 hk (pR ho hc);obtain ⟨a,g1,g2⟩:=r2.get hc;exact ⟨p,off,by simp only [A4,hc,S7],g2.2⟩
 | view p b' off e' ek' xs'=>
   cases k with
   | zero=>
     simp only [j6,B6,M9,Y3,Option.some.injEq,Prod.mk.injEq] at hk;obtain ⟨rfl,rfl,rfl,rfl⟩:=hk;exact ⟨p,off,rfl,r.2⟩
   | succ k=>cases hk
 | own=>cases ho
 | _=>cases k<;>cases hk
theorem yW {X:Cx} {q:Nat->Nat->Pl} {v:WV} {h:HV} (r:VR X q v h) (ho:y7 v=false) {i k:Nat} {b:Bool} {e:Nat} {ek:Option Nat} {xs:List CV} (hk:B0 (s4 v) i k=some (b,e,ek,xs)) :
 ∃ p off,viewAt v i k=some (p,off)/\vA X p b off e ek xs:=by
 by_cases h1:∃ vs,v=.tup vs
 . obtain ⟨vs,rfl⟩:=h1;obtain ⟨hs,r1,r2⟩:=r;simp only [s4,B0,List.getElem?_map] at hk;cases hc:vs[i]? with
   | none=>rw [hc] at hk;cases hk
   | some c=>
     rw [hc] at hk;simp only [Option.map_some] at hk;obtain ⟨a,g1,g2⟩:=r2.get hc;obtain ⟨p,off,h1,h2⟩:=cD g2 (pR ho hc) hk;exact ⟨p,off,by simp only [viewAt,hc];exact h1,h2⟩
 . by_cases h2:∃ ek w,v=.lbox ek w
   . obtain ⟨ek,w,rfl⟩:=h2;cases i<;>cases k<;>cases hk
   . have n1:∀ vs,v≠.tup vs:=fun vs e=>h1 ⟨vs,e⟩;have n2:∀ ek w,v≠.lbox ek w:=fun ek w e=>h2 ⟨ek,w,e⟩;have e1:s4 v=j6 v:=by
      cases v with
      | tup vs=>exact (n1 _ rfl).elim
      | _=>rfl
     have e2:y7 v=c8 v:=by
      cases v with
      | tup vs=>exact (n1 _ rfl).elim
      | lbox ek w=>exact (n2 _ _ rfl).elim
      | _=>rfl
     have e3:∀ i k,viewAt v i k=if i=0 then A4 v k else none:=by
      intro i k;cases v with
      | tup vs=>exact (n1 _ rfl).elim
      | _=>cases i<;>rfl
     have e4:∀ i k,B0 (j6 v) i k=if i=0 then M9 (j6 v) k else none:=by
      intro i k;cases v with
      | tup vs=>exact (n1 _ rfl).elim
      | _=>cases i<;>rfl
     rw [e1,e4] at hk;split at hk
     . rename_i hi;rw [e2] at ho;obtain ⟨p,off,g1,g2⟩:=cD (r.toC n1 n2) ho hk;exact ⟨p,off,by rw [e3,if_pos hi];exact g1,g2⟩
     . cases hk
theorem zm3 {v:WV} {i k:Nat} {p:Pl} {off:Nat} (h:viewAt v i k=some (p,off)):p∈u4 v:=by
 by_cases h1:∃ vs,v=.tup vs
 . obtain ⟨vs,rfl⟩:=h1;simp only [viewAt] at h;cases hc:vs[i]? with
   | none=>rw [hc] at h;cases h
   | some c=>rw [hc] at h;simp only [u4,vT];exact List.mem_flatMap.2 ⟨c,List.mem_of_getElem? hc,xU h⟩
 . have n1:∀ vs,v≠.tup vs:=fun vs e=>h1 ⟨vs,e⟩;have e1:u4 v=l6 v:=by
    cases v with
    | tup vs=>exact (n1 _ rfl).elim
    | _=>rfl
   have e3:∀ i k,viewAt v i k=if i=0 then A4 v k else none:=by
    intro i k;cases v with
    | tup vs=>exact (n1 _ rfl).elim
    | _=>cases i<;>rfl
   rw [e3] at h;split at h
   . rw [e1];exact xU h
   . cases h
theorem zj4 {K:Pl->Bool} {fz:Bool} {pl:Pl} {v:WV} (h:I2 v=true) (ho:d5 v=false):x8 K fz pl v=v:=by
 cases v with
 | own=>cases ho
 | view=>cases h
 | eptr=>cases h
 | _=>rfl
theorem q27 {K:Pl->Bool} {fz:Bool} {q:Nat->Pl}:∀ {l:List WV} {k:Nat},l.all I2=true->l.any d5=false->C6 K fz q k l=l:=by
 intro l;induction l with
 | nil=>intro k _ _;rfl
 | cons v l ih=>
   intro k h ho;simp only [List.all_cons,Bool.and_eq_true] at h;simp only [List.any_cons,Bool.or_eq_false_iff] at ho;simp only [C6,zj4 h.1 ho.1,ih h.2 ho.2]
theorem pD {K:Pl->Bool} {fz:Bool} {q:Nat->Pl} {v:WV} (h:E8 v=true) (ho:c8 v=false):b6 K fz q v=v:=by
 cases v with
 | agg cs=>simp only [b6,q27 h ho]
 | own=>cases ho
 | view=>cases h
 | eptr=>cases h
 | _=>rfl
theorem zd7 {K:Pl->Bool} {fz:Bool} {q:Nat->Nat->Pl}:∀ {l:List WV} {k:Nat},l.all E8=true->l.any c8=false->C3 K fz q k l=l:=by
 intro l;induction l with
 | nil=>intro k _ _;rfl
 | cons v l ih=>
   intro k h ho;simp only [List.all_cons,Bool.and_eq_true] at h;simp only [List.any_cons,Bool.or_eq_false_iff] at ho;simp only [C3,pD h.1 ho.1,ih h.2 ho.2]
theorem eW {K:Pl->Bool} {fz:Bool} {q:Nat->Nat->Pl} {v:WV} (h:noView v=true) (ho:y7 v=false):hit K fz q v=v:=by
 cases v with
 | tup vs=>simp only [hit,zd7 h ho]
 | lbox ek w=>simp only [hit,pD h ho]
 | agg cs=>exact pD (v:=.agg cs) h ho
 | own=>cases ho
 | view=>cases h
 | eptr=>cases h
 | _=>rfl
theorem VR1.taken {X Y:Cx} {K:Pl->Bool} (E:Ext K false X Y) {pl q':Pl} {v:WV} {h:HV} (r:VR1 X pl v h) (ho:d5 v=false)
 (hO:∀ p b off e ek xs,v=.view p b off e ek xs->Y.O q'=some (b,e,ek,xs)/\Y.th q'=((X.th p).1,(X.th p).2.1,(X.th p).2.2+off)):VR1 Y q' (B6 v) h:=by
 cases v with
 | own=>cases ho
 | view p b off e ek xs=>
   obtain ⟨h1,h2⟩:=hO p b off e ek xs rfl;exact ⟨by rw [h2];exact r.1,h1⟩
 | eptr p i off ek x=>obtain ⟨rfl,_⟩:=r;exact ⟨rfl,by intro v hv;cases hv⟩
 | _=>exact (VR1.hit E r).any rfl
theorem VRL.taken {X Y:Cx} {K:Pl->Bool} (E:Ext K false X Y) {q q':Nat->Pl}:∀ {l:List WV} {k k':Nat} {s:List HV},VRL X q k l s->l.any d5=false ->
 (∀ j p b off e ek xs,l[j]?=some (.view p b off e ek xs)->Y.O (q' (k'+j))=some (b,e,ek,xs)/\Y.th (q' (k'+j))=((X.th p).1,(X.th p).2.1,(X.th p).2.2+off))->VRL Y q' k' (l.map B6) s:=by
 intro l;induction l with
 | nil=>intro k k' s h _ _;cases s with
   | nil=>trivial
   | cons=>exact h.elim
 | cons v l ih=>intro k k' s h ho hO;cases s with
   | nil=>exact h.elim
   | cons a s=>
     simp only [List.any_cons,Bool.or_eq_false_iff] at ho;refine ⟨h.1.taken E ho.1 (fun p b off e ek xs hv=>hO 0 p b off e ek xs (by simp [hv])),ih h.2 ho.2 ?_⟩;intro j p b off e ek xs hj;have:=hO (j+1) p b off e ek xs (by simpa using hj);rw [show k'+(j+1)=k'+1+j by omega] at this;exact this
theorem VRC.taken {X Y:Cx} {K:Pl->Bool} (E:Ext K false X Y) {q q':Nat->Pl} {v:WV} {h:HV} (r:VRC X q v h) (ho:c8 v=false)
 (hO:∀ k p b off e ek xs,A4 v k=some (p,off)->M9 (j6 v) k=some (b,e,ek,xs)->Y.O (q' k)=some (b,e,ek,xs)/\Y.th (q' k)=((X.th p).1,(X.th p).2.1,(X.th p).2.2+off)):VRC Y q' (j6 v) h:=by
 cases v with
 | agg cs=>
   obtain ⟨hs,r1,r2⟩:=r;refine ⟨hs,r1,r2.taken E ho ?_⟩;intro j p b off e ek xs hj;have:=hO j p b off e ek xs (by simp only [A4,hj,S7]) (by simp only [j6,M9,List.getElem?_map,hj,Option.map_some,B6,Y3]);rw [Nat.zero_add];exact this
 | own=>cases ho
 | undef=>exact r
 | tup=>exact r.elim
 | lbox=>exact r.elim
 | view p b off e ek xs=>exact VR1.taken (pl:=q 0) (q':=q' 0) E (v:=.view p b off e ek xs) r rfl (fun p' b' off' e' ek' xs' hv=>by injection hv with h1 h2 h3 h4 h5 h6;subst h1;subst h2;subst h3;subst h4;subst h5;subst h6;exact hO 0 _ _ _ _ _ _ rfl rfl)
 | eptr p i off ek x=>exact VR1.taken (pl:=q 0) (q':=q' 0) E (v:=.eptr p i off ek x) r rfl (fun _ _ _ _ _ _ hv=>by cases hv)
 | c v=>exact r
 | nils=>exact r
 | skipv=>exact r
 | gone=>exact r
 | imm fz ek xs=>exact VR1.taken (pl:=q 0) (q':=q' 0) E (v:=.imm fz ek xs) r rfl (fun _ _ _ _ _ _ hv=>by cases hv)
 | ptr id off=>exact VR1.taken (pl:=q 0) (q':=q' 0) E (v:=.ptr id off) r rfl (fun _ _ _ _ _ _ hv=>by cases hv)
 | iptr fz ek x off=>exact VR1.taken (pl:=q 0) (q':=q' 0) E (v:=.iptr fz ek x off) r rfl (fun _ _ _ _ _ _ hv=>by cases hv)
 | fn f a b=>exact VR1.taken (pl:=q 0) (q':=q' 0) E (v:=.fn f a b) r rfl (fun _ _ _ _ _ _ hv=>by cases hv)
theorem VRT.taken {X Y:Cx} {K:Pl->Bool} (E:Ext K false X Y) {q q':Nat->Nat->Pl}:∀ {l:List WV} {k k':Nat} {s:List HV},VRT X q k l s->l.any c8=false ->
 (∀ j k p b off e ek xs,(∃ c,l[j]?=some c/\A4 c k=some (p,off)/\M9 (j6 c) k=some (b,e,ek,xs))->Y.O (q' (k'+j) k)=some (b,e,ek,xs)/\Y.th (q' (k'+j) k)=((X.th p).1,(X.th p).2.1,(X.th p).2.2+off))->VRT Y q' k' (l.map j6) s:=by
 intro l;induction l with
 | nil=>intro k k' s h _ _;cases s with
   | nil=>trivial
   | cons=>exact h.elim
 | cons v l ih=>intro k k' s h ho hO;cases s with
   | nil=>exact h.elim
   | cons a s=>
     simp only [List.any_cons,Bool.or_eq_false_iff] at ho;refine ⟨h.1.taken E ho.1 (fun k p b off e ek xs h1 h2=>hO 0 k p b off e ek xs ⟨v,rfl,h1,h2⟩),ih h.2 ho.2 ?_⟩;intro j k p b off e ek xs hj;obtain ⟨c,c1,c2⟩:=hj;have:=hO (j+1) k p b off e ek xs ⟨c,by simpa using c1,c2⟩;rw [show k'+(j+1)=k'+1+j by omega] at this;exact this
theorem eB (v:WV):I2 (B6 v)=true:=by cases v<;>rfl
theorem rY (v:WV):E8 (j6 v)=true:=by
 cases v with
 | agg cs=>simp only [j6,E8,List.all_map,List.all_eq_true];intro x _;exact eB x
 | _=>rfl
theorem kL (v:WV) (h:∀ ek w,v≠.lbox ek w):noView (s4 v)=true:=by
 cases v with
 | tup vs=>simp only [s4,noView,List.all_map,List.all_eq_true];intro x _;exact rY x
 | lbox ek w=>exact (h _ _ rfl).elim
 | agg cs=>exact rY (.agg cs)
 | _=>rfl
theorem SR.take {X:Cx} {w:WFr} {W:q8} {fr:Fr} (s:SR X w W fr) {v:WV} {h:HV} {q:Nat->Nat->Pl} (r:VR X q v h) (ho:y7 v=false) (hb:∀ ek w,v≠.lbox ek w) (hn:(u4 v).Nodup) :
 ∃ Y,Hand Y (b8 (inK (u4 v)) false w) (c6 false (u4 v) W) fr (s4 v) h/\WStp X Y/\Y.H=X.H/\VR Y Pl.tmp (s4 v) h/\noView (s4 v)=true/\Ext (inK (u4 v)) false X Y:=by
 let t:Nat->Nat->Nat×Nat×Nat:=fun i k=>match viewAt v i k with
  | some (p,off)=>((X.th p).1,(X.th p).2.1,(X.th p).2.2+off)
  | none=>(0,0,0)
 have ht:∀ {i k p off},viewAt v i k=some (p,off)->t i k=((X.th p).1,(X.th p).2.1,(X.th p).2.2+off):=by
  intro i k p off h;simp only [t,h]
 have hmem:∀ p,p∈u4 v->inK (u4 v) p=true:=by
  intro p hp;simp only [inK,List.any_eq_true,decide_eq_true_eq];exact ⟨p,hp,rfl⟩
 obtain ⟨g1,g2,g3⟩:=Cx.grab_ok (H':=X.H) (K:=inK (u4 v)) (v':=s4 v) (t:=t) s.ok (by
  intro i k b e ek xs hk;obtain ⟨p,off,h1,b',ys,h2,h3,h4,h5⟩:=yW r ho hk;rw [ht h1];refine ⟨?_,s.ok.nf p (by rw [h2];simp)⟩;obtain ⟨zs,z1,z2,z3,z4⟩:=s.ok.own p b' e ek ys h2;refine ⟨zs,z1,by simp only;omega,?_,?_⟩
  . simp only;rw [<-h4,<-z3,List.drop_take,List.take_take,List.drop_drop];congr 1;simp only [List.length_take,List.length_drop];omega
  . intro hb;obtain ⟨q1,q2⟩:=h5 hb;simp only [z4 q1,q2])
  (by
    intro i k o p hk hp _ hK he;obtain ⟨b,e,ek,xs⟩:=o;obtain ⟨p',off,h1,b',ys,h2,_⟩:=yW r ho hk;rw [ht h1] at he;have:=s.ok.dis p p' hp (by rw [h2];simp) he;subst this;rw [hmem p (zm3 h1)] at hK;cases hK)
  (by
    intro i k i' k' o o' hk hk' he;obtain ⟨b,e,ek,xs⟩:=o;obtain ⟨b2,e2,ek2,xs2⟩:=o';obtain ⟨p,off,h1,_,ys,h2,_⟩:=yW r ho hk;obtain ⟨p',off',h1',_,ys',h2',_⟩:=yW r ho hk';rw [ht h1,ht h1'] at he;have:=s.ok.dis p p' (by rw [h2];simp) (by rw [h2'];simp) he;subst this;exact zx1 hn h1 h1')
  (fun _ _ _ _=>rfl) (fun _ _ h _=>h)
 have E:Ext (inK (u4 v)) false X (X.grab (inK (u4 v)) (s4 v) t X.H).hide:=by
  refine ⟨g2.n,g2.rho,?_,g2.F,g2.rows,fun h=>by cases h⟩;intro p hp hop;have hnt:y9 p=false:=by
   cases p with
   | tmp i k=>exact (hop (s.ht i k)).elim
   | _=>rfl
  have:=g2.pl p (by simp [hp,hnt]) hop;refine ⟨this.1,?_⟩;simp only [Cx.hide,hnt,Bool.false_eq_true,if_false];exact this.2
 have hv:VR (X.grab (inK (u4 v)) (s4 v) t X.H) Pl.tmp (s4 v) h:=by
  by_cases h1:∃ vs,v=.tup vs
  . obtain ⟨vs,rfl⟩:=h1;obtain ⟨hs,r1,r2⟩:=r;refine ⟨hs,r1,r2.taken g2 ho ?_⟩;intro j k p b off e ek xs hj;obtain ⟨c,c1,c2,c3⟩:=hj;rw [Nat.zero_add];refine ⟨?_,ht (by simp only [viewAt,c1];exact c2)⟩;show B0 (s4 (.tup vs)) j k=_;simp only [s4,B0,List.getElem?_map,c1,Option.map_some,c3]
  . have n1:∀ vs,v≠.tup vs:=fun vs e=>h1 ⟨vs,e⟩;have e1:s4 v=j6 v:=by
     cases v with
     | tup vs=>exact (n1 _ rfl).elim
     | _=>rfl
    have e2:y7 v=c8 v:=by
     cases v with
     | tup vs=>exact (n1 _ rfl).elim
     | lbox ek w=>exact (hb _ _ rfl).elim
     | _=>rfl
    have e3:∀ k,viewAt v 0 k=A4 v k:=by
     intro k;cases v with
     | tup vs=>exact (n1 _ rfl).elim
     | _=>rfl
    have e4:∀ k,B0 (s4 v) 0 k=M9 (j6 v) k:=by
     intro k;cases v with
     | tup vs=>exact (n1 _ rfl).elim
     | _=>rfl
    have key:=(r.toC n1 hb).taken (q':=Pl.tmp 0) g2 (by rw [<-e2];exact ho) (by
     intro k p b off e ek xs h1 h2;refine ⟨?_,ht (by rw [e3];exact h1)⟩;show B0 (s4 v) 0 k=_;rw [e4];exact h2)
    rw [e1] at key ⊢;exact N9 key
 refine ⟨_,⟨g1,s.fr.hit E,s.hp.hit E rfl (fun i _=>rfl),fun _=>⟨hv,kL v hb⟩,?_⟩,g3,rfl,hv,kL v hb,⟨g2.n,g2.rho,fun p hp hop=>g2.pl p (by
  have hnt:y9 p=false:=by
   cases p with
   | tmp i k=>exact (hop (s.ht i k)).elim
   | _=>rfl
  simp [hp,hnt]) hop,g2.F,g2.rows,fun h=>by cases h⟩⟩
 intro hno;have hnv:=kL v hb;have Z:Ext y9 false (X.grab (inK (u4 v)) (s4 v) t X.H) (X.grab (inK (u4 v)) (s4 v) t X.H).hide:=
  ⟨Nat.le_refl _,fun _ _=>rfl,fun p hp _=>⟨rfl,by simp [Cx.hide,hp]⟩,fun _ h=>h,fun _ _ h _=>h,fun h=>by cases h⟩
 have:=hv.hit Z;rw [eW hnv hno] at this;exact this
end Go.Proofs.Lz
