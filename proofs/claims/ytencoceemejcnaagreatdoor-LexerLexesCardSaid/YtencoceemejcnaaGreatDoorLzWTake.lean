/- Taking views in hand; putting what is in hand into a slot. -/
import Derived.Test.YtencoceemejcnaaGreatDoorLzWPlace
namespace Go.Proofs.Lz
def Cx.hide (X:Cx):Cx:={ X with O:=fun p=>if B5 p=true then none else X.O p }
theorem XOk.hide {X:Cx} (h:XOk X):XOk X.hide:=
 ⟨fun p b e ek xs hp=>by
  have:X.O p=some (b,e,ek,xs):=by
   simp only [Cx.hide] at hp;split at hp
   . cases hp
   . exact hp
  exact h.own p b e ek xs this,fun p p' h1 h2 he=>h.dis p p' (fun h=>h1 (by simp [Cx.hide,h])) (fun h=>h2 (by simp [Cx.hide,h])) he,
  fun p h1=>h.nf p (fun h=>h1 (by simp [Cx.hide,h])),h.rinj,h.fl,fun i k hi=>h.hz i k hi⟩
structure SR (X:Cx) (w:WFr) (W:q9) (fr:Fr):Prop where
 ok:XOk X
 fr:FrR X w fr
 hp:HpR X W
 ht:∀ i k,X.O (.tmp i k)=none
structure Hand (X:Cx) (w:WFr) (W:q9) (fr:Fr) (v:WV) (h:HV):Prop where
 ok:XOk X
 fr:FrR X.hide w fr
 hp:HpR X.hide W
 vo:A5 v=true->VR X Pl.tmp v h/\noView v=true
 vf:A5 v=false->VR X.hide Pl.tmp v h
theorem z88 (K L:Pl->Bool) (pl:Pl) (v:WV):l8 L false pl (l8 K false pl v)=l8 (fun p=>K p||L p) false pl v:=by
 cases v with
 | own b e ek xs=>
   by_cases hk:K pl=true<;>simp [l8,hk]
 | view p b off e ek xs=>
   by_cases hk:K p=true<;>simp [l8,hk]
 | eptr p i off ek x=>
   by_cases hk:K p=true<;>simp [l8,hk]
 | _=>rfl
theorem qu1 (K L:Pl->Bool) (q:Nat->Pl):∀ (l:List WV) (k:Nat),K1 L false q k (K1 K false q k l)=K1 (fun p=>K p||L p) false q k l:=by
 intro l;induction l with
 | nil=>intro k;rfl
 | cons v l ih=>intro k;simp only [K1,z88,ih]
theorem lH {K:Pl->Bool} {fz:Bool} {q:Nat->Pl} {v:WV} (h:∀ cs,v≠.agg cs):A8 K fz q v=l8 K fz (q 0) v:=by
 cases v with
 | agg cs=>exact (h cs rfl).elim
 | _=>rfl
theorem qm9 {K:Pl->Bool} {fz:Bool} {pl:Pl} {v:WV} (h:∀ cs,v≠.agg cs):∀ cs,l8 K fz pl v≠.agg cs:=by
 intro cs;cases v with
 | agg cs=>exact (h cs rfl).elim
 | own b e ek xs=>simp only [l8];split<;>(try split)<;>exact fun h=>by cases h
 | view p b off e ek xs=>simp only [l8];split<;>exact fun h=>by cases h
 | eptr p i off ek x=>simp only [l8];split<;>exact fun h=>by cases h
 | _=>exact fun h=>by cases h
theorem lL (K L:Pl->Bool) (q:Nat->Pl) (v:WV):A8 L false q (A8 K false q v)=A8 (fun p=>K p||L p) false q v:=by
 by_cases h:∃ cs,v=.agg cs
 . obtain ⟨cs,rfl⟩:=h;simp only [A8,qu1]
 . have h':∀ cs,v≠.agg cs:=fun cs e=>h ⟨cs,e⟩;rw [lH h',lH h',lH (qm9 h'),z88]
theorem zr7 (K L:Pl->Bool) (q:Nat->Nat->Pl):∀ (l:List WV) (k:Nat),K6 L false q k (K6 K false q k l)=K6 (fun p=>K p||L p) false q k l:=by
 intro l;induction l with
 | nil=>intro k;rfl
 | cons v l ih=>intro k;simp only [K6,lL,ih]
theorem zg0 {K:Pl->Bool} {fz:Bool} {q:Nat->Pl} {v:WV} (h1:∀ vs,v≠.tup vs) (h2:∀ ek w,v≠.lbox ek w):(∀ vs,A8 K fz q v≠.tup vs)/\∀ ek w,A8 K fz q v≠.lbox ek w:=by
 cases v with
 | tup vs=>exact (h1 _ rfl).elim
 | lbox ek w=>exact (h2 _ _ rfl).elim
 | agg cs=>exact ⟨fun _ h=>(by cases h),fun _ _ h=>(by cases h)⟩
 | own b e ek xs=>simp only [A8,l8];split<;>(try split)<;>exact ⟨fun _ h=>(by cases h),fun _ _ h=>(by cases h)⟩
 | view p b off e ek xs=>simp only [A8,l8];split<;>exact ⟨fun _ h=>(by cases h),fun _ _ h=>(by cases h)⟩
 | eptr p i off ek x=>simp only [A8,l8];split<;>exact ⟨fun _ h=>(by cases h),fun _ _ h=>(by cases h)⟩
 | _=>exact ⟨fun _ h=>(by cases h),fun _ _ h=>(by cases h)⟩
theorem j73 (K L:Pl->Bool) (q:Nat->Nat->Pl) (v:WV):hit L false q (hit K false q v)=hit (fun p=>K p||L p) false q v:=by
 by_cases h1:∃ vs,v=.tup vs
 . obtain ⟨vs,rfl⟩:=h1;simp only [hit,zr7]
 . by_cases h2:∃ ek w,v=.lbox ek w
   . obtain ⟨ek,w,rfl⟩:=h2;simp only [hit,lL]
   . have n1:∀ vs,v≠.tup vs:=fun vs e=>h1 ⟨vs,e⟩;have n2:∀ ek w,v≠.lbox ek w:=fun ek w e=>h2 ⟨ek,w,e⟩;rw [nF n1 n2,nF n1 n2,nF (zg0 n1 n2).1 (zg0 n1 n2).2,lL]
theorem qc6 (K L:Pl->Bool) (w:WFr):D1 L false (D1 K false w)=D1 (fun p=>K p||L p) false w:=by
 simp only [D1,j73]
theorem eI (pl:Pl) (fz:Bool) (v:WV):l8 (fun _=>false) fz pl v=v:=by cases v<;>simp [l8]
theorem kC (q:Nat->Pl) (fz:Bool):∀ (l:List WV) (k:Nat),K1 (fun _=>false) fz q k l=l:=by
 intro l;induction l with
 | nil=>intro k;rfl
 | cons v l ih=>intro k;simp only [K1,eI,ih]
theorem rE (q:Nat->Pl) (fz:Bool) (v:WV):A8 (fun _=>false) fz q v=v:=by
 cases v with
 | agg cs=>simp only [A8,kC]
 | _=>simp only [A8,eI]
theorem qt2 (q:Nat->Nat->Pl) (fz:Bool):∀ (l:List WV) (k:Nat),K6 (fun _=>false) fz q k l=l:=by
 intro l;induction l with
 | nil=>intro k;rfl
 | cons v l ih=>intro k;simp only [K6,rE,ih]
theorem zq0 (q:Nat->Nat->Pl) (fz:Bool) (v:WV):hit (fun _=>false) fz q v=v:=by
 cases v with
 | tup vs=>simp only [hit,qt2]
 | lbox ek w=>simp only [hit,rE]
 | _=>simp only [hit,rE]
theorem dS (fz:Bool) (w:WFr):D1 (fun _=>false) fz w=w:=by
 simp only [D1,zq0]
theorem cO:inK []=fun _=>false:=rfl
theorem yP (K:List Pl) (fz:Bool) (w:WFr) (W:q9):O9 K fz w W=(D1 (inK K) fz w,D8 fz K W):=by
 cases K with
 | nil=>simp only [O9,cO,dS,D8]
 | cons=>rfl
def P3 (K:List Pl) (fz:Bool) (i:Nat):Nat->List WV->List WV
 | _,[]=>[]
 | k,v::r=>(if inK K (.hp i k)=true then l8 (fun _=>true) fz (.hp i k) v else v)::P3 K fz i (k+1) r
theorem q39 (fz:Bool) (i:Nat):∀ (l:List WV) (k:Nat),P3 [] fz i k l=l:=by
 intro l;induction l with
 | nil=>intro k;rfl
 | cons v l ih=>intro k;simp only [P3,cO,Bool.false_eq_true,if_false,ih]
theorem qk4 (fz:Bool) (pl:Pl) (v:WV):l8 (fun _=>true) fz pl (l8 (fun _=>true) fz pl v)=l8 (fun _=>true) fz pl v:=by
 cases v<;>cases fz<;>simp [l8]
theorem mA (x:Pl) (K:List Pl) (p:Pl):inK (x::K) p=(decide (x=p)||inK K p):=by
 simp only [inK,List.any_cons]
theorem dZ (K:List Pl) (fz:Bool) (x:Pl) (i:Nat) (hx:∀ k,x≠.hp i k):∀ (l:List WV) (k:Nat),P3 (x::K) fz i k l=P3 K fz i k l:=by
 intro l;induction l with
 | nil=>intro k;rfl
 | cons v l ih=>intro k;simp only [P3,mA,hx k,decide_false,Bool.false_or,ih]
theorem jg6 (K:List Pl) (fz:Bool) (i j:Nat):∀ (l:List WV) (k:Nat),P3 (.hp i (k+j)::K) fz i k l=P3 K fz i k (match l[j]? with
 | some v=>l.set j (l8 (fun _=>true) fz (.hp i (k+j)) v)
 | none=>l):=by
 induction j with
 | zero=>
   intro l k;cases l with
   | nil=>rfl
   | cons v l=>
     have e:∀ (l:List WV) (m:Nat),k<m->P3 (.hp i (k+0)::K) fz i m l=P3 K fz i m l:=by
      intro l;induction l with
      | nil=>intro m _;rfl
      | cons v l ih=>
        intro m hm;have:¬ (Pl.hp i (k+0)=Pl.hp i m):=by intro h;injection h;omega
        simp only [P3,mA,this,decide_false,Bool.false_or,ih (m+1) (by omega)]
     simp only [List.getElem?_cons_zero,List.set_cons_zero,P3,mA,Nat.add_zero,decide_true,Bool.true_or,if_true];rw [show Pl.hp i k=Pl.hp i (k+0) from rfl,e l (k+1) (by omega)];congr 1;split<;>simp [qk4]
 | succ j ih=>
   intro l k;cases l with
   | nil=>rfl
   | cons v l=>
     have:=ih l (k+1);have ej:k+1+j=k+(j+1):=by omega
     rw [ej] at this;simp only [List.getElem?_cons_succ,P3,mA];have ne:¬ (Pl.hp i (k+(j+1))=Pl.hp i k):=by intro h;injection h;omega
     simp only [ne,decide_false,Bool.false_or,this];cases hl:l[j]? with
     | none=>rfl
     | some x=>rfl
theorem oD (fz:Bool) (K:List Pl):∀ (W:q9) (i:Nat),(D8 fz K W)[i]?=(W[i]?).map fun | .var ek cs=>.var ek (P3 K fz i 0 cs):=by
 induction K with
 | nil=>
   intro W i;simp only [D8];cases h:W[i]? with
   | none=>rfl
   | some o=>obtain ⟨ek,cs⟩:=o;simp only [Option.map_some,q39]
 | cons x K ih=>
   intro W i;cases x with
   | hp id k=>
     simp only [D8];rw [ih];cases h:W[id]? with
     | none=>
       by_cases hi:i=id
       . subst hi;simp [h]
       . congr 1;funext o;obtain ⟨ek,cs⟩:=o;rw [dZ K fz (.hp id k) i (by intro m hm;injection hm with e1 e2;exact hi e1.symm)]
     | some o=>
       obtain ⟨ek,cs⟩:=o;by_cases hi:i=id
       . subst hi;have hlt:=(gEs h).1;simp only [List.getElem?_set_self hlt,Option.map_some,h];have:=jg6 K fz i k cs 0;rw [Nat.zero_add] at this;rw [this];cases hc:cs[k]?<;>rfl
       . simp only;rw [List.getElem?_set_ne (Ne.symm hi)];congr 1;funext o;obtain ⟨ek,cs⟩:=o;rw [dZ K fz (.hp id k) i (by intro m hm;injection hm with e1 e2;exact hi e1.symm)]
   | sl s a b=>
     simp only [D8];rw [ih];congr 1;funext o;obtain ⟨ek,cs⟩:=o;rw [dZ K fz _ i (by intro m hm;cases hm)]
   | tmp a b=>
     simp only [D8];rw [ih];congr 1;funext o;obtain ⟨ek,cs⟩:=o;rw [dZ K fz _ i (by intro m hm;cases hm)]
theorem iT (fz:Bool) (K:List Pl):∀ (W:q9),(D8 fz K W).length=W.length:=by
 induction K with
 | nil=>intro W;rfl
 | cons x K ih=>
   intro W;cases x with
   | hp id k=>
     simp only [D8,ih];split<;>simp
   | sl s a b=>simp only [D8,ih]
   | tmp a b=>simp only [D8,ih]
theorem ji0 {fz:Bool} {pl:Pl} {v:WV} (h:P2 v=true):P2 (l8 (fun _=>true) fz pl v)=true:=by
 cases v<;>first | exact h | (cases fz<;>rfl) | cases h
theorem VRL.cells {K:List Pl} {fz:Bool} {X Y:Cx} (E:Ext (inK K) fz X Y) {i:Nat}:∀ {l:List WV} {k:Nat} {s:List HV},VRL X (Pl.hp i) k l s->l.all P2=true ->
 VRL Y (Pl.hp i) k (P3 K fz i k l) s/\(P3 K fz i k l).all P2=true:=by
 intro l;induction l with
 | nil=>intro k s h _;cases s with
   | nil=>exact ⟨trivial,rfl⟩
   | cons=>exact h.elim
 | cons v l ih=>intro k s h hc;cases s with
   | nil=>exact h.elim
   | cons a s=>
     simp only [List.all_cons,Bool.and_eq_true] at hc;obtain ⟨i1,i2⟩:=ih h.2 hc.2;have hv:=h.1.hit E;simp only [P3,VRL,List.all_cons,Bool.and_eq_true];cases hk:inK K (.hp i k) with
     | true=>
       simp only [if_true];refine ⟨⟨?_,i1⟩,ji0 hc.1,i2⟩;revert hv
       cases v with
       | own b e ek xs=>simp only [l8,hk,if_true];exact fun x=>x
       | view=>cases hc.1
       | eptr=>cases hc.1
       | _=>exact fun x=>x
     | false=>
       simp only [Bool.false_eq_true,if_false];refine ⟨⟨?_,i1⟩,hc.1,i2⟩;revert hv
       cases v with
       | own b e ek xs=>simp only [l8,hk,Bool.false_eq_true,if_false];exact fun x=>x
       | view=>cases hc.1
       | eptr=>cases hc.1
       | _=>exact fun x=>x
theorem HpR.hit {K:List Pl} {fz:Bool} {X Y:Cx} (E:Ext (inK K) fz X Y) (hn:Y.n=X.n) (hv:∀ i,i<X.n->Y.H[X.rho i]?=X.H[X.rho i]?) {W:q9} (h:HpR X W):HpR Y (D8 fz K W):=by
 refine ⟨by rw [hn,h.n,iT],?_⟩;intro i ek cs hi;rw [oD] at hi;cases hw:W[i]? with
 | none=>rw [hw] at hi;cases hi
 | some o=>
   obtain ⟨ek',cs'⟩:=o;rw [hw] at hi;simp only [Option.map_some,Option.some.injEq,WO.var.injEq] at hi;obtain ⟨rfl,rfl⟩:=hi;obtain ⟨⟨hs,h1,h2⟩,h3⟩:=h.cells i ek' cs' hw;have hlt:i<X.n:=by rw [h.n];exact (gEs hw).1
   obtain ⟨c1,c2⟩:=h2.cells E h3;exact ⟨⟨hs,by rw [E.rho i hlt,hv i hlt];exact h1,c1⟩,c2⟩
theorem HpR.hit' {K:List Pl} {fz:Bool} {X Y:Cx} (E:Ext (inK K) fz X Y) (hn:Y.n=X.n) (hv:∀ i,i<X.n->∀ ek cs,X.H[X.rho i]?=some (.var ek cs)->Y.H[X.rho i]?=some (.var ek cs)) {W:q9} (h:HpR X W):HpR Y (D8 fz K W):=by
 refine ⟨by rw [hn,h.n,iT],?_⟩;intro i ek cs hi;rw [oD] at hi;cases hw:W[i]? with
 | none=>rw [hw] at hi;cases hi
 | some o=>
   obtain ⟨ek',cs'⟩:=o;rw [hw] at hi;simp only [Option.map_some,Option.some.injEq,WO.var.injEq] at hi;obtain ⟨rfl,rfl⟩:=hi;obtain ⟨⟨hs,h1,h2⟩,h3⟩:=h.cells i ek' cs' hw;have hlt:i<X.n:=by rw [h.n];exact (gEs hw).1
   obtain ⟨c1,c2⟩:=h2.cells E h3;exact ⟨⟨hs,by rw [E.rho i hlt];exact hv i hlt _ _ h1,c1⟩,c2⟩
theorem VRL.still {K:Pl->Bool} {fz:Bool} {X Y:Cx} (E:Ext K fz X Y) {i:Nat} (hk:∀ k,K (.hp i k)=false):∀ {l:List WV} {k:Nat} {s:List HV},VRL X (Pl.hp i) k l s->l.all P2=true ->
 VRL Y (Pl.hp i) k l s:=by
 intro l;induction l with
 | nil=>intro k s h _;cases s with
   | nil=>trivial
   | cons=>exact h.elim
 | cons v l ih=>intro k s h hc;cases s with
   | nil=>exact h.elim
   | cons a s=>
     simp only [List.all_cons,Bool.and_eq_true] at hc;refine ⟨?_,ih h.2 hc.2⟩;have hv:=h.1.hit E;revert hv
     cases v with
     | own b e ek xs=>simp only [l8,hk,Bool.false_eq_true,if_false];exact fun x=>x
     | view=>cases hc.1
     | eptr=>cases hc.1
     | _=>exact fun x=>x
theorem HpR.still {K:Pl->Bool} {fz:Bool} {X Y:Cx} (E:Ext K fz X Y) (hk:∀ i k,K (.hp i k)=false) (hn:Y.n=X.n) (hv:∀ i,i<X.n->Y.H[X.rho i]?=X.H[X.rho i]?) {W:q9} (h:HpR X W):HpR Y W:=by
 refine ⟨by rw [hn,h.n],?_⟩;intro i ek cs hi;obtain ⟨⟨hs,h1,h2⟩,h3⟩:=h.cells i ek cs hi;have hlt:i<X.n:=by rw [h.n];exact (gEs hi).1
 exact ⟨⟨hs,by rw [E.rho i hlt,hv i hlt];exact h1,h2.still E (hk i) h3⟩,h3⟩
def S0 (d:Nat):Pl->Option (Nat×Nat)
 | .sl s i k=>if s=d then some (i,k) else none
 | _=>none
theorem sE (d:Nat):(fun p=>(S0 d p).isSome)=I4 d:=by
 funext p;cases p with
 | sl s i k=>simp only [S0,I4];by_cases h:s=d<;>simp [h]
 | _=>rfl
theorem uZ {X:Cx} {dec:Pl->Option (Nat×Nat)} (E:Ext (fun p=>(dec p).isSome||B5 p) false X (X.land dec)):Ext (fun p=>(dec p).isSome) false X.hide (X.land dec):=
 ⟨E.n,E.rho,fun p hp ho=>by
  have ht:B5 p=false:=by
   cases h:B5 p with
   | false=>rfl
   | true=>simp only [Cx.hide,h,if_true] at ho;exact (ho rfl).elim
  have:=E.pl p (by simp only [hp,ht,Bool.or_self]) (by simpa [Cx.hide,ht] using ho);exact ⟨this.1,by rw [this.2];simp [Cx.hide,ht]⟩,E.F,E.rows,fun h=>by cases h⟩
theorem xZ {X:Cx} {dec:Pl->Option (Nat×Nat)} (dt:∀ i k,dec (.tmp i k)=none):∀ i k,(X.land dec).O (.tmp i k)=none:=by
 intro i k;simp only [Cx.land,dt,B5,if_true]
theorem Hand.putD {X:Cx} {w:WFr} {W:q9} {fr:Fr} {v:WV} {h:HV} (s:Hand X w W fr v h) (d:Nat) :
 ∃ Y,SR Y (w.putD d v) W (fr.put (some d) h)/\WStp X Y/\Y.H=X.H:=by
 cases ho:A5 v with
 | false=>
   have hx:XOk X.hide:=s.ok.hide;refine ⟨X.hide,⟨hx,?_,s.hp,fun i k=>rfl⟩,⟨Nat.le_refl _,fun _ _=>rfl,rfl,fun _ _ h _=>h⟩,rfl⟩;simp only [WFr.putD,ho,Bool.false_eq_true,if_false];exact s.fr.put1 ((s.vf ho).any ho)
 | true=>
   obtain ⟨l1,l2,l3⟩:=Cx.land_ok s.ok (dec:=S0 d) (by
    intro p p' x h1 h2;cases p with
    | sl a b c=>
      cases p' with
      | sl a' b' c'=>
        simp only [S0] at h1 h2;split at h1
        . split at h2
          . rename_i e1 e2;subst e1;subst e2;rw [<-h2] at h1;injection h1 with h1;injection h1 with h1 h3;subst h1;subst h3;rfl
          . cases h2
        . cases h1
      | _=>cases h2
    | _=>cases h1) (fun i k x h=>by cases h)
   have E:=uZ l2;refine ⟨X.land (S0 d),⟨l1,?_,?_,xZ (fun i k=>rfl)⟩,l3,rfl⟩
   . simp only [WFr.putD,ho,if_true];rw [sE] at E;exact (s.fr.hit E).put1 ((s.vo ho).1.land l2 (fun i k=>by simp [S0]) (s.vo ho).2)
   . exact s.hp.still E (fun i k=>rfl) rfl (fun i _=>rfl)
theorem eM {α β:Type} (f:α->List β):∀ (l:List α) (i j:Nat) (a b:α) (p:β),(l.flatMap f).Nodup->l[i]?=some a->l[j]?=some b->p∈f a->p∈f b->i=j:=by
 intro l;induction l with
 | nil=>intro i j a b p _ h;cases h
 | cons x l ih=>
   intro i j a b p hn hi hj ha hb;rw [List.flatMap_cons,List.nodup_append] at hn;obtain ⟨n1,n2,n3⟩:=hn;cases i with
   | zero=>
     cases j with
     | zero=>rfl
     | succ j=>
       simp only [List.getElem?_cons_zero,Option.some.injEq] at hi;simp only [List.getElem?_cons_succ] at hj;subst hi;exact (n3 p ha p (List.mem_flatMap.2 ⟨b,List.mem_of_getElem? hj,hb⟩) rfl).elim
   | succ i=>
     cases j with
     | zero=>
       simp only [List.getElem?_cons_zero,Option.some.injEq] at hj;simp only [List.getElem?_cons_succ] at hi;subst hj;exact (n3 p hb p (List.mem_flatMap.2 ⟨a,List.mem_of_getElem? hi,ha⟩) rfl).elim
     | succ j=>
       simp only [List.getElem?_cons_succ] at hi hj;rw [ih i j a b p n2 hi hj ha hb]
theorem qz2 {α β:Type} (f:α->List β):∀ (l:List α) (i:Nat) (a:α),(l.flatMap f).Nodup->l[i]?=some a->(f a).Nodup:=by
 intro l;induction l with
 | nil=>intro i a _ h;cases h
 | cons x l ih=>
   intro i a hn hi;rw [List.flatMap_cons,List.nodup_append] at hn;cases i with
   | zero=>simp only [List.getElem?_cons_zero,Option.some.injEq] at hi;subst hi;exact hn.1
   | succ i=>exact ih i a hn.2.1 (by simpa using hi)
theorem dR:∀ l:List WV,S7 l=l.flatMap I6:=by
 intro l;induction l with
 | nil=>rfl
 | cons v l ih=>simp only [S7,List.flatMap_cons,ih]
theorem nU:∀ l:List WV,M4 l=l.flatMap E4:=by
 intro l;induction l with
 | nil=>rfl
 | cons v l ih=>simp only [M4,List.flatMap_cons,ih]
theorem bM {v:WV} {p:Pl} {off:Nat} (h:jL v=some (p,off)):p∈I6 v:=by
 cases v with
 | view=>simp only [jL,Option.some.injEq,Prod.mk.injEq] at h;obtain ⟨rfl,rfl⟩:=h;simp [I6]
 | _=>cases h
theorem dD {v:WV} {k:Nat} {p:Pl} {off:Nat} (h:K8 v k=some (p,off)):p∈E4 v:=by
 cases v with
 | agg cs=>
   simp only [K8] at h;cases hc:cs[k]? with
   | none=>rw [hc] at h;cases h
   | some c=>rw [hc] at h;simp only [E4,dR];exact List.mem_flatMap.2 ⟨c,List.mem_of_getElem? hc,bM h⟩
 | view=>
   cases k with
   | zero=>simp only [K8] at h;exact bM h
   | succ k=>simp [K8] at h
 | _=>cases k<;>simp [K8,jL] at h
theorem fA {v:WV} (hn:(E4 v).Nodup) {k k':Nat} {p:Pl} {off off':Nat} (h:K8 v k=some (p,off)) (h':K8 v k'=some (p,off')):k=k':=by
 cases v with
 | agg cs=>
   simp only [K8] at h h';simp only [E4,dR] at hn;cases hc:cs[k]? with
   | none=>rw [hc] at h;cases h
   | some c=>
     cases hc':cs[k']? with
     | none=>rw [hc'] at h';cases h'
     | some c'=>rw [hc] at h;rw [hc'] at h';exact eM I6 cs k k' c c' p hn hc hc' (bM h) (bM h')
 | _=>
   cases k<;>cases k'<;>first | rfl | (simp [K8,jL] at h;done) | (simp [K8,jL] at h';done)
theorem j76 {v:WV} (hn:(B6 v).Nodup) {i k i' k':Nat} {p:Pl} {off off':Nat} (h:viewAt v i k=some (p,off)) (h':viewAt v i' k'=some (p,off')):i=i'/\k=k':=by
 by_cases h1:∃ vs,v=.tup vs
 . obtain ⟨vs,rfl⟩:=h1;simp only [viewAt] at h h';simp only [B6,nU] at hn;cases hc:vs[i]? with
   | none=>rw [hc] at h;cases h
   | some c=>
     cases hc':vs[i']? with
     | none=>rw [hc'] at h';cases h'
     | some c'=>
       rw [hc] at h;rw [hc'] at h';have e:=eM E4 vs i i' c c' p hn hc hc' (dD h) (dD h');subst e;rw [hc] at hc';injection hc' with hc';subst hc';exact ⟨rfl,fA (qz2 E4 vs i c hn hc) h h'⟩
 . have n1:∀ vs,v≠.tup vs:=fun vs e=>h1 ⟨vs,e⟩;have e0:∀ i k,viewAt v i k=if i=0 then K8 v k else none:=by
    intro i k;cases v with
    | tup vs=>exact (n1 _ rfl).elim
    | _=>cases i<;>rfl
   have e1:B6 v=E4 v:=by
    cases v with
    | tup vs=>exact (n1 _ rfl).elim
    | _=>rfl
   rw [e0] at h h';split at h
   . split at h'
     . rename_i a b;rw [e1] at hn;exact ⟨by rw [a,b],fA hn h h'⟩
     . cases h'
   . cases h
theorem jb7 {c:WV} {b:Bool} {e:Nat} {ek:Option Nat} {xs:List CV} (h:xU (K3 c)=some (b,e,ek,xs)) (ho:D3 c=false):∃ p off,c=.view p b off e ek xs:=by
 cases c with
 | view p b off e ek xs=>simp only [K3,xU,Option.some.injEq,Prod.mk.injEq] at h;obtain ⟨rfl,rfl,rfl,rfl⟩:=h;exact ⟨p,off,rfl⟩
 | own=>cases ho
 | _=>cases h
theorem VRL.get {X:Cx} {q:Nat->Pl}:∀ {l:List WV} {k:Nat} {s:List HV} {j:Nat} {c:WV},VRL X q k l s->l[j]?=some c->∃ a,s[j]?=some a/\VR1 X (q (k+j)) c a:=by
 intro l;induction l with
 | nil=>intro k s j c _ h;cases h
 | cons v l ih=>intro k s j c h hj;cases s with
   | nil=>exact h.elim
   | cons a s=>
     cases j with
     | zero=>simp only [List.getElem?_cons_zero,Option.some.injEq] at hj;subst hj;exact ⟨a,rfl,h.1⟩
     | succ j=>
       obtain ⟨a',h1,h2⟩:=ih h.2 (by simpa using hj);exact ⟨a',by simpa using h1,by rw [show k+(j+1)=k+1+j by omega];exact h2⟩
theorem VRT.get {X:Cx} {q:Nat->Nat->Pl}:∀ {l:List WV} {k:Nat} {s:List HV} {j:Nat} {c:WV},VRT X q k l s->l[j]?=some c->∃ a,s[j]?=some a/\VRC X (q (k+j)) c a:=by
 intro l;induction l with
 | nil=>intro k s j c _ h;cases h
 | cons v l ih=>intro k s j c h hj;cases s with
   | nil=>exact h.elim
   | cons a s=>
     cases j with
     | zero=>simp only [List.getElem?_cons_zero,Option.some.injEq] at hj;subst hj;exact ⟨a,rfl,h.1⟩
     | succ j=>
       obtain ⟨a',h1,h2⟩:=ih h.2 (by simpa using hj);exact ⟨a',by simpa using h1,by rw [show k+(j+1)=k+1+j by omega];exact h2⟩
theorem aM {α:Type} {f:α->Bool} {l:List α} (h:l.any f=false) {j:Nat} {c:α} (hj:l[j]?=some c):f c=false:=by
 have:=List.any_eq_false.1 h c (List.mem_of_getElem? hj);simpa using this
theorem zl8 {X:Cx} {q:Nat->Pl} {v:WV} {h:HV} (r:VRC X q v h) (ho:F8 v=false) {k:Nat} {b:Bool} {e:Nat} {ek:Option Nat} {xs:List CV} (hk:Y9 (s8 v) k=some (b,e,ek,xs)) :
 ∃ p off,K8 v k=some (p,off)/\dH X p b off e ek xs:=by
 cases v with
 | agg cs=>
   obtain ⟨hs,r1,r2⟩:=r;simp only [s8,Y9,List.getElem?_map] at hk;cases hc:cs[k]? with
   | none=>rw [hc] at hk;cases hk
   | some c=>
     rw [hc] at hk;simp only [Option.map_some] at hk;obtain ⟨p,off,rfl⟩:=jb7 hk (aM ho hc);obtain ⟨a,g1,g2⟩:=r2.get hc;exact ⟨p,off,by simp only [K8,hc,jL],g2.2⟩
 | view p b' off e' ek' xs'=>
   cases k with
   | zero=>
     simp only [s8,K3,Y9,xU,Option.some.injEq,Prod.mk.injEq] at hk;obtain ⟨rfl,rfl,rfl,rfl⟩:=hk;exact ⟨p,off,rfl,r.2⟩
   | succ k=>cases hk
 | own=>cases ho
 | _=>cases k<;>cases hk
theorem bZ {X:Cx} {q:Nat->Nat->Pl} {v:WV} {h:HV} (r:VR X q v h) (ho:A5 v=false) {i k:Nat} {b:Bool} {e:Nat} {ek:Option Nat} {xs:List CV} (hk:M6 (E5 v) i k=some (b,e,ek,xs)) :
 ∃ p off,viewAt v i k=some (p,off)/\dH X p b off e ek xs:=by
 by_cases h1:∃ vs,v=.tup vs
 . obtain ⟨vs,rfl⟩:=h1;obtain ⟨hs,r1,r2⟩:=r;simp only [E5,M6,List.getElem?_map] at hk;cases hc:vs[i]? with
   | none=>rw [hc] at hk;cases hk
   | some c=>
     rw [hc] at hk;simp only [Option.map_some] at hk;obtain ⟨a,g1,g2⟩:=r2.get hc;obtain ⟨p,off,h1,h2⟩:=zl8 g2 (aM ho hc) hk;exact ⟨p,off,by simp only [viewAt,hc];exact h1,h2⟩
 . by_cases h2:∃ ek w,v=.lbox ek w
   . obtain ⟨ek,w,rfl⟩:=h2;cases i<;>cases k<;>cases hk
   . have n1:∀ vs,v≠.tup vs:=fun vs e=>h1 ⟨vs,e⟩;have n2:∀ ek w,v≠.lbox ek w:=fun ek w e=>h2 ⟨ek,w,e⟩;have e1:E5 v=s8 v:=by
      cases v with
      | tup vs=>exact (n1 _ rfl).elim
      | _=>rfl
     have e2:A5 v=F8 v:=by
      cases v with
      | tup vs=>exact (n1 _ rfl).elim
      | lbox ek w=>exact (n2 _ _ rfl).elim
      | _=>rfl
     have e3:∀ i k,viewAt v i k=if i=0 then K8 v k else none:=by
      intro i k;cases v with
      | tup vs=>exact (n1 _ rfl).elim
      | _=>cases i<;>rfl
     have e4:∀ i k,M6 (s8 v) i k=if i=0 then Y9 (s8 v) k else none:=by
      intro i k;cases v with
      | tup vs=>exact (n1 _ rfl).elim
      | _=>cases i<;>rfl
     rw [e1,e4] at hk;split at hk
     . rename_i hi;rw [e2] at ho;obtain ⟨p,off,g1,g2⟩:=zl8 (r.toC n1 n2) ho hk;exact ⟨p,off,by rw [e3,if_pos hi];exact g1,g2⟩
     . cases hk
theorem j01 {v:WV} {i k:Nat} {p:Pl} {off:Nat} (h:viewAt v i k=some (p,off)):p∈B6 v:=by
 by_cases h1:∃ vs,v=.tup vs
 . obtain ⟨vs,rfl⟩:=h1;simp only [viewAt] at h;cases hc:vs[i]? with
   | none=>rw [hc] at h;cases h
   | some c=>rw [hc] at h;simp only [B6,nU];exact List.mem_flatMap.2 ⟨c,List.mem_of_getElem? hc,dD h⟩
 . have n1:∀ vs,v≠.tup vs:=fun vs e=>h1 ⟨vs,e⟩;have e1:B6 v=E4 v:=by
    cases v with
    | tup vs=>exact (n1 _ rfl).elim
    | _=>rfl
   have e3:∀ i k,viewAt v i k=if i=0 then K8 v k else none:=by
    intro i k;cases v with
    | tup vs=>exact (n1 _ rfl).elim
    | _=>cases i<;>rfl
   rw [e3] at h;split at h
   . rw [e1];exact dD h
   . cases h
theorem q09 {K:Pl->Bool} {fz:Bool} {pl:Pl} {v:WV} (h:W3 v=true) (ho:D3 v=false):l8 K fz pl v=v:=by
 cases v with
 | own=>cases ho
 | view=>cases h
 | eptr=>cases h
 | _=>rfl
theorem qc7 {K:Pl->Bool} {fz:Bool} {q:Nat->Pl}:∀ {l:List WV} {k:Nat},l.all W3=true->l.any D3=false->K1 K fz q k l=l:=by
 intro l;induction l with
 | nil=>intro k _ _;rfl
 | cons v l ih=>
   intro k h ho;simp only [List.all_cons,Bool.and_eq_true] at h;simp only [List.any_cons,Bool.or_eq_false_iff] at ho;simp only [K1,q09 h.1 ho.1,ih h.2 ho.2]
theorem aK {K:Pl->Bool} {fz:Bool} {q:Nat->Pl} {v:WV} (h:O7 v=true) (ho:F8 v=false):A8 K fz q v=v:=by
 cases v with
 | agg cs=>simp only [A8,qc7 h ho]
 | own=>cases ho
 | view=>cases h
 | eptr=>cases h
 | _=>rfl
theorem qd5 {K:Pl->Bool} {fz:Bool} {q:Nat->Nat->Pl}:∀ {l:List WV} {k:Nat},l.all O7=true->l.any F8=false->K6 K fz q k l=l:=by
 intro l;induction l with
 | nil=>intro k _ _;rfl
 | cons v l ih=>
   intro k h ho;simp only [List.all_cons,Bool.and_eq_true] at h;simp only [List.any_cons,Bool.or_eq_false_iff] at ho;simp only [K6,aK h.1 ho.1,ih h.2 ho.2]
theorem qp8 {K:Pl->Bool} {fz:Bool} {q:Nat->Nat->Pl} {v:WV} (h:noView v=true) (ho:A5 v=false):hit K fz q v=v:=by
 cases v with
 | tup vs=>simp only [hit,qd5 h ho]
 | lbox ek w=>simp only [hit,aK h ho]
 | agg cs=>exact aK (v:=.agg cs) h ho
 | own=>cases ho
 | view=>cases h
 | eptr=>cases h
 | _=>rfl
theorem VR1.taken {X Y:Cx} {K:Pl->Bool} (E:Ext K false X Y) {pl q':Pl} {v:WV} {h:HV} (r:VR1 X pl v h) (ho:D3 v=false)
 (hO:∀ p b off e ek xs,v=.view p b off e ek xs->Y.O q'=some (b,e,ek,xs)/\Y.th q'=((X.th p).1,(X.th p).2.1,(X.th p).2.2+off)):VR1 Y q' (K3 v) h:=by
 cases v with
 | own=>cases ho
 | view p b off e ek xs=>
   obtain ⟨h1,h2⟩:=hO p b off e ek xs rfl;exact ⟨by rw [h2];exact r.1,h1⟩
 | eptr p i off ek x=>obtain ⟨rfl,_⟩:=r;exact ⟨rfl,by intro v hv;cases hv⟩
 | _=>exact (VR1.hit E r).any rfl
theorem VRL.taken {X Y:Cx} {K:Pl->Bool} (E:Ext K false X Y) {q q':Nat->Pl}:∀ {l:List WV} {k k':Nat} {s:List HV},VRL X q k l s->l.any D3=false ->
 (∀ j p b off e ek xs,l[j]?=some (.view p b off e ek xs)->Y.O (q' (k'+j))=some (b,e,ek,xs)/\Y.th (q' (k'+j))=((X.th p).1,(X.th p).2.1,(X.th p).2.2+off))->VRL Y q' k' (l.map K3) s:=by
 intro l;induction l with
 | nil=>intro k k' s h _ _;cases s with
   | nil=>trivial
   | cons=>exact h.elim
 | cons v l ih=>intro k k' s h ho hO;cases s with
   | nil=>exact h.elim
   | cons a s=>
     simp only [List.any_cons,Bool.or_eq_false_iff] at ho;refine ⟨h.1.taken E ho.1 (fun p b off e ek xs hv=>hO 0 p b off e ek xs (by simp [hv])),ih h.2 ho.2 ?_⟩;intro j p b off e ek xs hj;have:=hO (j+1) p b off e ek xs (by simpa using hj);rw [show k'+(j+1)=k'+1+j by omega] at this;exact this
theorem VRC.taken {X Y:Cx} {K:Pl->Bool} (E:Ext K false X Y) {q q':Nat->Pl} {v:WV} {h:HV} (r:VRC X q v h) (ho:F8 v=false)
 (hO:∀ k p b off e ek xs,K8 v k=some (p,off)->Y9 (s8 v) k=some (b,e,ek,xs)->Y.O (q' k)=some (b,e,ek,xs)/\Y.th (q' k)=((X.th p).1,(X.th p).2.1,(X.th p).2.2+off)):VRC Y q' (s8 v) h:=by
 cases v with
 | agg cs=>
   obtain ⟨hs,r1,r2⟩:=r;refine ⟨hs,r1,r2.taken E ho ?_⟩;intro j p b off e ek xs hj;have:=hO j p b off e ek xs (by simp only [K8,hj,jL]) (by simp only [s8,Y9,List.getElem?_map,hj,Option.map_some,K3,xU]);rw [Nat.zero_add];exact this
 | own=>cases ho
 | undef=>exact r
 | tup=>exact r.elim
 | lbox=>exact r.elim
 | view p b off e ek xs=>exact VR1.taken (pl:=q 0) (q':=q' 0) E (v:=.view p b off e ek xs) r rfl (fun p' b' off' e' ek' xs' hv=>by injection hv with h1 h2 h3 h4 h5 h6;subst h1;subst h2;subst h3;subst h4;subst h5;subst h6;exact hO 0 _ _ _ _ _ _ rfl rfl)
 | eptr p i off ek x=>exact VR1.taken (pl:=q 0) (q':=q' 0) E (v:=.eptr p i off ek x) r rfl (fun _ _ _ _ _ _ hv=>by cases hv)
 | c v=>exact r
 | nils=>exact r
 | skipv=>exact r
 | gone=>exact r
 | imm fz ek xs=>exact VR1.taken (pl:=q 0) (q':=q' 0) E (v:=.imm fz ek xs) r rfl (fun _ _ _ _ _ _ hv=>by cases hv)
 | ptr id off=>exact VR1.taken (pl:=q 0) (q':=q' 0) E (v:=.ptr id off) r rfl (fun _ _ _ _ _ _ hv=>by cases hv)
 | iptr fz ek x off=>exact VR1.taken (pl:=q 0) (q':=q' 0) E (v:=.iptr fz ek x off) r rfl (fun _ _ _ _ _ _ hv=>by cases hv)
 | fn f a b=>exact VR1.taken (pl:=q 0) (q':=q' 0) E (v:=.fn f a b) r rfl (fun _ _ _ _ _ _ hv=>by cases hv)
theorem VRT.taken {X Y:Cx} {K:Pl->Bool} (E:Ext K false X Y) {q q':Nat->Nat->Pl}:∀ {l:List WV} {k k':Nat} {s:List HV},VRT X q k l s->l.any F8=false ->
 (∀ j k p b off e ek xs,(∃ c,l[j]?=some c/\K8 c k=some (p,off)/\Y9 (s8 c) k=some (b,e,ek,xs))->Y.O (q' (k'+j) k)=some (b,e,ek,xs)/\Y.th (q' (k'+j) k)=((X.th p).1,(X.th p).2.1,(X.th p).2.2+off))->VRT Y q' k' (l.map s8) s:=by
 intro l;induction l with
 | nil=>intro k k' s h _ _;cases s with
   | nil=>trivial
   | cons=>exact h.elim
 | cons v l ih=>intro k k' s h ho hO;cases s with
   | nil=>exact h.elim
   | cons a s=>
     simp only [List.any_cons,Bool.or_eq_false_iff] at ho;refine ⟨h.1.taken E ho.1 (fun k p b off e ek xs h1 h2=>hO 0 k p b off e ek xs ⟨v,rfl,h1,h2⟩),ih h.2 ho.2 ?_⟩;intro j k p b off e ek xs hj;obtain ⟨c,c1,c2⟩:=hj;have:=hO (j+1) k p b off e ek xs ⟨c,by simpa using c1,c2⟩;rw [show k'+(j+1)=k'+1+j by omega] at this;exact this
theorem qf5 (v:WV):W3 (K3 v)=true:=by cases v<;>rfl
theorem iQ (v:WV):O7 (s8 v)=true:=by
 cases v with
 | agg cs=>simp only [s8,O7,List.all_map,List.all_eq_true];intro x _;exact qf5 x
 | _=>rfl
theorem cF (v:WV) (h:∀ ek w,v≠.lbox ek w):noView (E5 v)=true:=by
 cases v with
 | tup vs=>simp only [E5,noView,List.all_map,List.all_eq_true];intro x _;exact iQ x
 | lbox ek w=>exact (h _ _ rfl).elim
 | agg cs=>exact iQ (.agg cs)
 | _=>rfl
theorem SR.take {X:Cx} {w:WFr} {W:q9} {fr:Fr} (s:SR X w W fr) {v:WV} {h:HV} {q:Nat->Nat->Pl} (r:VR X q v h) (ho:A5 v=false) (hb:∀ ek w,v≠.lbox ek w) (hn:(B6 v).Nodup) :
 ∃ Y,Hand Y (D1 (inK (B6 v)) false w) (D8 false (B6 v) W) fr (E5 v) h/\WStp X Y/\Y.H=X.H/\VR Y Pl.tmp (E5 v) h/\noView (E5 v)=true/\Ext (inK (B6 v)) false X Y:=by
 let t:Nat->Nat->Nat×Nat×Nat:=fun i k=>match viewAt v i k with
  | some (p,off)=>((X.th p).1,(X.th p).2.1,(X.th p).2.2+off)
  | none=>(0,0,0)
 have ht:∀ {i k p off},viewAt v i k=some (p,off)->t i k=((X.th p).1,(X.th p).2.1,(X.th p).2.2+off):=by
  intro i k p off h;simp only [t,h]
 have hmem:∀ p,p∈B6 v->inK (B6 v) p=true:=by
  intro p hp;simp only [inK,List.any_eq_true,decide_eq_true_eq];exact ⟨p,hp,rfl⟩
 obtain ⟨g1,g2,g3⟩:=Cx.grab_ok (H':=X.H) (K:=inK (B6 v)) (v':=E5 v) (t:=t) s.ok (by
  intro i k b e ek xs hk;obtain ⟨p,off,h1,b',ys,h2,h3,h4,h5⟩:=bZ r ho hk;rw [ht h1];refine ⟨?_,s.ok.nf p (by rw [h2];simp)⟩;obtain ⟨zs,z1,z2,z3,z4⟩:=s.ok.own p b' e ek ys h2;refine ⟨zs,z1,by simp only;omega,?_,?_⟩
  . simp only;rw [<-h4,<-z3,List.drop_take,List.take_take,List.drop_drop];congr 1;simp only [List.length_take,List.length_drop];omega
  . intro hb;obtain ⟨q1,q2⟩:=h5 hb;simp only [z4 q1,q2])
  (by
    intro i k o p hk hp _ hK he;obtain ⟨b,e,ek,xs⟩:=o;obtain ⟨p',off,h1,b',ys,h2,_⟩:=bZ r ho hk;rw [ht h1] at he;have:=s.ok.dis p p' hp (by rw [h2];simp) he;subst this;rw [hmem p (j01 h1)] at hK;cases hK)
  (by
    intro i k i' k' o o' hk hk' he;obtain ⟨b,e,ek,xs⟩:=o;obtain ⟨b2,e2,ek2,xs2⟩:=o';obtain ⟨p,off,h1,_,ys,h2,_⟩:=bZ r ho hk;obtain ⟨p',off',h1',_,ys',h2',_⟩:=bZ r ho hk';rw [ht h1,ht h1'] at he;have:=s.ok.dis p p' (by rw [h2];simp) (by rw [h2'];simp) he;subst this;exact j76 hn h1 h1')
  (fun _ _ _ _=>rfl) (fun _ _ h _=>h)
 have E:Ext (inK (B6 v)) false X (X.grab (inK (B6 v)) (E5 v) t X.H).hide:=by
  refine ⟨g2.n,g2.rho,?_,g2.F,g2.rows,fun h=>by cases h⟩;intro p hp hop;have hnt:B5 p=false:=by
   cases p with
   | tmp i k=>exact (hop (s.ht i k)).elim
   | _=>rfl
  have:=g2.pl p (by simp [hp,hnt]) hop;refine ⟨this.1,?_⟩;simp only [Cx.hide,hnt,Bool.false_eq_true,if_false];exact this.2
 have hv:VR (X.grab (inK (B6 v)) (E5 v) t X.H) Pl.tmp (E5 v) h:=by
  by_cases h1:∃ vs,v=.tup vs
  . obtain ⟨vs,rfl⟩:=h1;obtain ⟨hs,r1,r2⟩:=r;refine ⟨hs,r1,r2.taken g2 ho ?_⟩;intro j k p b off e ek xs hj;obtain ⟨c,c1,c2,c3⟩:=hj;rw [Nat.zero_add];refine ⟨?_,ht (by simp only [viewAt,c1];exact c2)⟩;show M6 (E5 (.tup vs)) j k=_;simp only [E5,M6,List.getElem?_map,c1,Option.map_some,c3]
  . have n1:∀ vs,v≠.tup vs:=fun vs e=>h1 ⟨vs,e⟩;have e1:E5 v=s8 v:=by
     cases v with
     | tup vs=>exact (n1 _ rfl).elim
     | _=>rfl
    have e2:A5 v=F8 v:=by
     cases v with
     | tup vs=>exact (n1 _ rfl).elim
     | lbox ek w=>exact (hb _ _ rfl).elim
     | _=>rfl
    have e3:∀ k,viewAt v 0 k=K8 v k:=by
     intro k;cases v with
     | tup vs=>exact (n1 _ rfl).elim
     | _=>rfl
    have e4:∀ k,M6 (E5 v) 0 k=Y9 (s8 v) k:=by
     intro k;cases v with
     | tup vs=>exact (n1 _ rfl).elim
     | _=>rfl
    have key:=(r.toC n1 hb).taken (q':=Pl.tmp 0) g2 (by rw [<-e2];exact ho) (by
     intro k p b off e ek xs h1 h2;refine ⟨?_,ht (by rw [e3];exact h1)⟩;show M6 (E5 v) 0 k=_;rw [e4];exact h2)
    rw [e1] at key ⊢;exact zE key
 refine ⟨_,⟨g1,s.fr.hit E,s.hp.hit E rfl (fun i _=>rfl),fun _=>⟨hv,cF v hb⟩,?_⟩,g3,rfl,hv,cF v hb,⟨g2.n,g2.rho,fun p hp hop=>g2.pl p (by
  have hnt:B5 p=false:=by
   cases p with
   | tmp i k=>exact (hop (s.ht i k)).elim
   | _=>rfl
  simp [hp,hnt]) hop,g2.F,g2.rows,fun h=>by cases h⟩⟩
 intro hno;have hnv:=cF v hb;have Z:Ext B5 false (X.grab (inK (B6 v)) (E5 v) t X.H) (X.grab (inK (B6 v)) (E5 v) t X.H).hide:=
  ⟨Nat.le_refl _,fun _ _=>rfl,fun p hp _=>⟨rfl,by simp [Cx.hide,hp]⟩,fun _ h=>h,fun _ _ h _=>h,fun h=>by cases h⟩
 have:=hv.hit Z;rw [qp8 hnv hno] at this;exact this
end Go.Proofs.Lz
