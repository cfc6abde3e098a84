/- How the state with slices a5 values stands to the evaluator's state. -/
import Derived.Test.YtlimfobeoodkjaaGreatDoorLzWOm
namespace Go.Proofs.Lz
structure Cx where
 th:Pl->Nat×Nat×Nat
 rho:Nat->Nat
 O:Pl->Option (Bool×Nat×Option Nat×List CV)
 F:Nat->Prop
 H:q7
 n:Nat
def V5 (r:HO):Prop:=∃ e ek ver xs,r=.row true e ek ver xs
def vA (X:Cx) (p:Pl) (b:Bool) (off e:Nat) (ek:Option Nat) (xs:List CV):Prop:=
 ∃ b' ys,X.O p=some (b',e,ek,ys)/\off+xs.length<=ys.length/\(ys.drop off).take xs.length=xs/\(b=true->b'=true/\off=0)
def z04 (X:Cx) (p:Pl) (i:Nat) (ek:Option Nat) (x:CV):Prop:=∃ b e ys,X.O p=some (b,e,ek,ys)/\ys[i]?=some x
def ImmOk (X:Cx) (fz:Bool) (id ver off:Nat) (ek:Option Nat) (xs:List CV):Prop:=
 ∃ fb e ys,X.H[id]?=some (.row fb e ek ver ys)/\off+xs.length<=ys.length/\(ys.drop off).take xs.length=xs/\(fz=true->fb=true)/\(fz=false->X.F id)
def IElOk (X:Cx) (fz:Bool) (id ver i:Nat) (ek:Option Nat) (x:CV):Prop:=
 ∃ fb e ys,X.H[id]?=some (.row fb e ek ver ys)/\ys[i]?=some x/\(fz=true->fb=true)/\(fz=false->X.F id)
def kZ (H:q7) (t:Nat×Nat×Nat) (b:Bool) (e:Nat) (ek:Option Nat) (xs:List CV):Prop:=
 ∃ ys,H[t.1]?=some (.row false e ek t.2.1 ys)/\t.2.2+xs.length<=ys.length/\(ys.drop t.2.2).take xs.length=xs/\(b=true->t.2.2=0)
def PlainR (X:Cx):List WV->List HV->Prop
 | [],[]=>True
 | .c v::r,h::s=>h=.c v/\PlainR X r s
 | .nils::r,h::s=>h=.nils/\PlainR X r s
 | .ptr id off::r,h::s=>(h=.ptr (X.rho id) off/\id<X.n)/\PlainR X r s
 | _,_=>False
def o9:HV->Bool
 | .lbox _ _=>true
 | _=>false
def VR1 (X:Cx) (pl:Pl):WV->HV->Prop
 | .c v,h=>h=.c v
 | .nils,h=>h=.nils
 | .own b e ek xs,h=>h=.sl (X.th pl).1 (X.th pl).2.1 (X.th pl).2.2 xs.length/\X.O pl=some (b,e,ek,xs)
 | .view p b off e ek xs,h=>h=.sl (X.th p).1 (X.th p).2.1 ((X.th p).2.2+off) xs.length/\vA X p b off e ek xs
 | .imm fz ek xs,h=>∃ id ver off,h=.sl id ver off xs.length/\ImmOk X fz id ver off ek xs
 | .ptr id off,h=>h=.ptr (X.rho id) off/\id<X.n
 | .eptr p i off ek x,h=>h=.eptr (X.th p).1 (X.th p).2.1 ((X.th p).2.2+i) off/\z04 X p i ek x
 | .iptr fz ek x off,h=>∃ id ver i,h=.eptr id ver i off/\IElOk X fz id ver i ek x
 | .fn f first cap,h=>∃ a b,h=.fn f a b/\PlainR X first a/\PlainR X cap b
 | .skipv,h=>h=.skipv
 | .gone,h=>o9 h=false/\∀ v,h≠.c v
 | _,_=>False
def VRL (X:Cx) (q:Nat->Pl):Nat->List WV->List HV->Prop
 | _,[],[]=>True
 | k,v::r,h::s=>VR1 X (q k) v h/\VRL X q (k+1) r s
 | _,_,_=>False
def VRC (X:Cx) (q:Nat->Pl):WV->HV->Prop
 | .agg cs,h=>∃ hs,h=.agg hs/\VRL X q 0 cs hs
 | .undef,h=>o9 h=false
 | v,h=>VR1 X (q 0) v h
def VRT (X:Cx) (q:Nat->Nat->Pl):Nat->List WV->List HV->Prop
 | _,[],[]=>True
 | i,v::r,h::s=>VRC X (q i) v h/\VRT X q (i+1) r s
 | _,_,_=>False
def VR (X:Cx) (q:Nat->Nat->Pl):WV->HV->Prop
 | .tup vs,h=>∃ hs,h=.tup hs/\VRT X q 0 vs hs
 | .lbox ek v,h=>∃ h',h=.lbox ek h'/\VRC X (q 0) v h'
 | v,h=>VRC X (q 0) v h
def E4:WV->Bool
 | .c _=>true
 | .nils=>true
 | .own _ _ _ _=>true
 | .imm fz _ _=>fz
 | .ptr _ _=>true
 | .fn _ _ _=>true
 | .gone=>true
 | _=>false
structure XOk (X:Cx):Prop where
 own:∀ p b e ek xs,X.O p=some (b,e,ek,xs)->kZ X.H (X.th p) b e ek xs
 dis:∀ p p',X.O p≠none->X.O p'≠none->(X.th p).1=(X.th p').1->p=p'
 nf:∀ p,X.O p≠none->¬ X.F (X.th p).1
 rinj:∀ i j,i<X.n->j<X.n->X.rho i=X.rho j->i=j
 fl:∀ i,X.F i->∃ fz e ek ver xs,X.H[i]?=some (.row fz e ek ver xs)
 hz:∀ i k,X.n<=i->X.O (.hp i k)=none
structure FrR (X:Cx) (w:WFr) (fr:Fr):Prop where
 al:fr.al=w.al
 env:∀ s,VR X (Pl.sl s) (w.env s) (fr.env s)
structure HpR (X:Cx) (W:q8):Prop where
 n:X.n=W.length
 cells:∀ i ek cs,W[i]?=some (.var ek cs)->(∃ hs,X.H[X.rho i]?=some (.var ek hs)/\VRL X (Pl.hp i) 0 cs hs)/\cs.all E4=true
structure Ext (K:Pl->Bool) (fz:Bool) (X Y:Cx):Prop where
 n:X.n<=Y.n
 rho:∀ i,i<X.n->Y.rho i=X.rho i
 pl:∀ p,K p=false->X.O p≠none->Y.th p=X.th p/\Y.O p=X.O p
 F:∀ i,X.F i->Y.F i
 rows:∀ id r,X.H[id]?=some r->(V5 r\/X.F id)->Y.H[id]?=some r
 frz:fz=true->∀ p b e ek xs,K p=true->X.O p=some (b,e,ek,xs)->ImmOk Y true (X.th p).1 (X.th p).2.1 (X.th p).2.2 ek xs
theorem PlainR.ext {X Y:Cx} (hn:X.n<=Y.n) (hr:∀ i,i<X.n->Y.rho i=X.rho i):∀ {l:List WV} {s:List HV},PlainR X l s->PlainR Y l s:=by
 intro l;induction l with
 | nil=>intro s h;cases s with
   | nil=>trivial
   | cons=>exact h.elim
 | cons v l ih=>
   intro s h;cases s with
   | nil=>cases v<;>exact h.elim
   | cons a s=>
     cases v with
     | c v=>exact ⟨h.1,ih h.2⟩
     | nils=>exact ⟨h.1,ih h.2⟩
     | ptr id off=>
       obtain ⟨⟨h1,h2⟩,h3⟩:=h;exact ⟨⟨by rw [hr id h2];exact h1,Nat.lt_of_lt_of_le h2 hn⟩,ih h3⟩
     | _=>exact h.elim
theorem ImmOk.ext {K:Pl->Bool} {fz:Bool} {X Y:Cx} (E:Ext K fz X Y) {b:Bool} {id ver off:Nat} {ek:Option Nat} {xs:List CV} (h:ImmOk X b id ver off ek xs):ImmOk Y b id ver off ek xs:=by
 obtain ⟨fb,e,ys,h1,h2,h3,h4,h5⟩:=h;refine ⟨fb,e,ys,E.rows _ _ h1 ?_,h2,h3,h4,fun hb=>E.F _ (h5 hb)⟩;cases b with
 | true=>rw [h4 rfl];exact .inl ⟨_,_,_,_,rfl⟩
 | false=>exact .inr (h5 rfl)
theorem IElOk.ext {K:Pl->Bool} {fz:Bool} {X Y:Cx} (E:Ext K fz X Y) {b:Bool} {id ver i:Nat} {ek:Option Nat} {x:CV} (h:IElOk X b id ver i ek x):IElOk Y b id ver i ek x:=by
 obtain ⟨fb,e,ys,h1,h2,h4,h5⟩:=h;refine ⟨fb,e,ys,E.rows _ _ h1 ?_,h2,h4,fun hb=>E.F _ (h5 hb)⟩;cases b with
 | true=>rw [h4 rfl];exact .inl ⟨_,_,_,_,rfl⟩
 | false=>exact .inr (h5 rfl)
theorem VR1.hit {K:Pl->Bool} {fz:Bool} {X Y:Cx} (E:Ext K fz X Y) {pl:Pl} {v:WV} {h:HV} (r:VR1 X pl v h):VR1 Y pl (x8 K fz pl v) h:=by
 cases v with
 | c v=>exact r
 | nils=>exact r
 | own b e ek xs=>
   obtain ⟨r1,r2⟩:=r;simp only [x8];cases hk:K pl with
   | false=>
     obtain ⟨e1,e2⟩:=E.pl pl hk (by rw [r2];simp);simp only [Bool.false_eq_true,if_false];exact ⟨by rw [e1];exact r1,by rw [e2];exact r2⟩
   | true=>
     simp only [if_true];cases fz with
     | true=>exact ⟨_,_,_,r1,E.frz rfl _ _ _ _ _ hk r2⟩
     | false=>subst r1;exact ⟨rfl,by intro v hv;cases hv⟩
 | view p b off e ek xs=>
   obtain ⟨r1,r2⟩:=r;simp only [x8];cases hk:K p with
   | false=>
     obtain ⟨b',ys,q1,q2⟩:=r2;obtain ⟨e1,e2⟩:=E.pl p hk (by rw [q1];simp);simp only [Bool.false_eq_true,if_false];exact ⟨by rw [e1];exact r1,b',ys,by rw [e2];exact q1,q2⟩
   | true=>simp only [if_true];subst r1;exact ⟨rfl,by intro v hv;cases hv⟩
 | imm b ek xs=>obtain ⟨id,ver,off,r1,r2⟩:=r;exact ⟨id,ver,off,r1,r2.ext E⟩
 | ptr id off=>exact ⟨by rw [E.rho _ r.2];exact r.1,Nat.lt_of_lt_of_le r.2 E.n⟩
 | eptr p i off ek x=>
   obtain ⟨r1,r2⟩:=r;simp only [x8];cases hk:K p with
   | false=>
     obtain ⟨b',e',ys,q1,q2⟩:=r2;obtain ⟨e1,e2⟩:=E.pl p hk (by rw [q1];simp);simp only [Bool.false_eq_true,if_false];exact ⟨by rw [e1];exact r1,b',e',ys,by rw [e2];exact q1,q2⟩
   | true=>simp only [if_true];subst r1;exact ⟨rfl,by intro v hv;cases hv⟩
 | iptr b ek x off=>obtain ⟨id,ver,i,r1,r2⟩:=r;exact ⟨id,ver,i,r1,r2.ext E⟩
 | fn f first cap=>obtain ⟨a,b,r1,r2,r3⟩:=r;exact ⟨a,b,r1,r2.ext E.n E.rho,r3.ext E.n E.rho⟩
 | skipv=>exact r
 | gone=>exact r
 | _=>exact r.elim
theorem VRL.hit {K:Pl->Bool} {fz:Bool} {X Y:Cx} (E:Ext K fz X Y) {q:Nat->Pl}:∀ {l:List WV} {k:Nat} {s:List HV},VRL X q k l s->VRL Y q k (C6 K fz q k l) s:=by
 intro l;induction l with
 | nil=>intro k s h;cases s with
   | nil=>trivial
   | cons=>exact h.elim
 | cons v l ih=>intro k s h;cases s with
   | nil=>exact h.elim
   | cons a s=>exact ⟨h.1.hit E,ih h.2⟩
theorem VRC.hit {K:Pl->Bool} {fz:Bool} {X Y:Cx} (E:Ext K fz X Y) {q:Nat->Pl} {v:WV} {h:HV} (r:VRC X q v h):VRC Y q (b6 K fz q v) h:=by
 cases v with
 | agg cs=>obtain ⟨hs,r1,r2⟩:=r;exact ⟨hs,r1,r2.hit E⟩
 | undef=>exact r
 | own b e ek xs=>
   have:=VR1.hit (pl:=q 0) (v:=.own b e ek xs) E r;simp only [b6];simp only [x8] at this ⊢;revert this
   split<;>(try split)<;>exact fun t=>t
 | view p b off e ek xs=>
   have:=VR1.hit (pl:=q 0) (v:=.view p b off e ek xs) E r;simp only [b6];simp only [x8] at this ⊢;revert this
   split<;>exact fun t=>t
 | eptr p i off ek x=>
   have:=VR1.hit (pl:=q 0) (v:=.eptr p i off ek x) E r;simp only [b6];simp only [x8] at this ⊢;revert this
   split<;>exact fun t=>t
 | c v=>exact VR1.hit (pl:=q 0) (v:=.c v) E r
 | nils=>exact VR1.hit (pl:=q 0) (v:=.nils) E r
 | imm b ek xs=>exact VR1.hit (pl:=q 0) (v:=.imm b ek xs) E r
 | ptr id off=>exact VR1.hit (pl:=q 0) (v:=.ptr id off) E r
 | iptr b ek x off=>exact VR1.hit (pl:=q 0) (v:=.iptr b ek x off) E r
 | fn f a b=>exact VR1.hit (pl:=q 0) (v:=.fn f a b) E r
 | skipv=>exact r
 | gone=>exact r
 | _=>exact r.elim
theorem VRT.hit {K:Pl->Bool} {fz:Bool} {X Y:Cx} (E:Ext K fz X Y) {q:Nat->Nat->Pl}:∀ {l:List WV} {i:Nat} {s:List HV},VRT X q i l s->VRT Y q i (C3 K fz q i l) s:=by
 intro l;induction l with
 | nil=>intro k s h;cases s with
   | nil=>trivial
   | cons=>exact h.elim
 | cons v l ih=>intro k s h;cases s with
   | nil=>exact h.elim
   | cons a s=>exact ⟨h.1.hit E,ih h.2⟩
theorem N9 {X:Cx} {q:Nat->Nat->Pl} {v:WV} {h:HV} (r:VRC X (q 0) v h):VR X q v h:=by
 cases v<;>first | exact r | exact r.elim
theorem VR.toC {X:Cx} {q:Nat->Nat->Pl} {v:WV} {h:HV} (r:VR X q v h) (h1:∀ vs,v≠.tup vs) (h2:∀ ek w,v≠.lbox ek w):VRC X (q 0) v h:=by
 cases v with
 | tup vs=>exact (h1 _ rfl).elim
 | lbox ek w=>exact (h2 _ _ rfl).elim
 | _=>exact r
theorem xM {K:Pl->Bool} {fz:Bool} {q:Nat->Nat->Pl} {v:WV} (h1:∀ vs,v≠.tup vs) (h2:∀ ek w,v≠.lbox ek w):hit K fz q v=b6 K fz (q 0) v:=by
 cases v with
 | tup vs=>exact (h1 _ rfl).elim
 | lbox ek w=>exact (h2 _ _ rfl).elim
 | _=>rfl
theorem VR.hit {K:Pl->Bool} {fz:Bool} {X Y:Cx} (E:Ext K fz X Y) {q:Nat->Nat->Pl} {v:WV} {h:HV} (r:VR X q v h):VR Y q (hit K fz q v) h:=by
 by_cases h1:∃ vs,v=.tup vs
 . obtain ⟨vs,rfl⟩:=h1;obtain ⟨hs,r1,r2⟩:=r;exact ⟨hs,r1,r2.hit E⟩
 . by_cases h2:∃ ek w,v=.lbox ek w
   . obtain ⟨ek,w,rfl⟩:=h2;obtain ⟨h',r1,r2⟩:=r;exact ⟨h',r1,r2.hit E⟩
   . have n1:∀ vs,v≠.tup vs:=fun vs e=>h1 ⟨vs,e⟩;have n2:∀ ek w,v≠.lbox ek w:=fun ek w e=>h2 ⟨ek,w,e⟩;rw [xM n1 n2];exact N9 ((r.toC n1 n2).hit E)
theorem FrR.hit {K:Pl->Bool} {fz:Bool} {X Y:Cx} (E:Ext K fz X Y) {w:WFr} {fr:Fr} (h:FrR X w fr):FrR Y (b8 K fz w) fr:=
 ⟨h.al,fun s=>(h.env s).hit E⟩
theorem VR1.any {X:Cx} {pl pl':Pl} {v:WV} {h:HV} (r:VR1 X pl v h) (ho:d5 v=false):VR1 X pl' v h:=by
 cases v with
 | own=>cases ho
 | _=>exact r
theorem VRL.any {X:Cx} {q q':Nat->Pl}:∀ {l:List WV} {k k':Nat} {s:List HV},VRL X q k l s->l.any d5=false->VRL X q' k' l s:=by
 intro l;induction l with
 | nil=>intro k k' s h _;cases s with
   | nil=>trivial
   | cons=>exact h.elim
 | cons v l ih=>intro k k' s h ho;cases s with
   | nil=>exact h.elim
   | cons a s=>
     simp only [List.any_cons,Bool.or_eq_false_iff] at ho;exact ⟨h.1.any ho.1,ih h.2 ho.2⟩
theorem VRC.any {X:Cx} {q q':Nat->Pl} {v:WV} {h:HV} (r:VRC X q v h) (ho:c8 v=false):VRC X q' v h:=by
 cases v with
 | agg cs=>obtain ⟨hs,r1,r2⟩:=r;exact ⟨hs,r1,r2.any ho⟩
 | own=>cases ho
 | _=>exact r
theorem VRT.any {X:Cx} {q q':Nat->Nat->Pl}:∀ {l:List WV} {k k':Nat} {s:List HV},VRT X q k l s->l.any c8=false->VRT X q' k' l s:=by
 intro l;induction l with
 | nil=>intro k k' s h _;cases s with
   | nil=>trivial
   | cons=>exact h.elim
 | cons v l ih=>intro k k' s h ho;cases s with
   | nil=>exact h.elim
   | cons a s=>
     simp only [List.any_cons,Bool.or_eq_false_iff] at ho;exact ⟨h.1.any ho.1,ih h.2 ho.2⟩
theorem VR.any {X:Cx} {q q':Nat->Nat->Pl} {v:WV} {h:HV} (r:VR X q v h) (ho:y7 v=false):VR X q' v h:=by
 cases v with
 | tup vs=>obtain ⟨hs,r1,r2⟩:=r;exact ⟨hs,r1,r2.any ho⟩
 | lbox ek w=>obtain ⟨h',r1,r2⟩:=r;exact ⟨h',r1,r2.any ho⟩
 | agg cs=>obtain ⟨hs,r1,r2⟩:=r;exact ⟨hs,r1,r2.any ho⟩
 | own=>cases ho
 | _=>exact r
theorem VR1.peek {X:Cx} {pl pl':Pl} {v:WV} {h:HV} (r:VR1 X pl v h):VR1 X pl' (A0 pl v) h:=by
 cases v with
 | own b e ek xs=>
   obtain ⟨r1,r2⟩:=r;exact ⟨by simpa using r1,b,xs,r2,by simp,by simp,fun h=>⟨h,rfl⟩⟩
 | _=>exact r
theorem VRL.peek {X:Cx} {q q':Nat->Pl}:∀ {l:List WV} {k k':Nat} {s:List HV},VRL X q k l s->VRL X q' k' (V0 q k l) s:=by
 intro l;induction l with
 | nil=>intro k k' s h;cases s with
   | nil=>trivial
   | cons=>exact h.elim
 | cons v l ih=>intro k k' s h;cases s with
   | nil=>exact h.elim
   | cons a s=>exact ⟨h.1.peek,ih h.2⟩
theorem VRC.peek {X:Cx} {q q':Nat->Pl} {v:WV} {h:HV} (r:VRC X q v h):VRC X q' (i7 q v) h:=by
 cases v with
 | agg cs=>obtain ⟨hs,r1,r2⟩:=r;exact ⟨hs,r1,r2.peek⟩
 | own b e ek xs=>exact VR1.peek (v:=.own b e ek xs) (pl':=q' 0) r
 | _=>exact r
theorem VRT.peek {X:Cx} {q q':Nat->Nat->Pl}:∀ {l:List WV} {k k':Nat} {s:List HV},VRT X q k l s->VRT X q' k' (zB q k l) s:=by
 intro l;induction l with
 | nil=>intro k k' s h;cases s with
   | nil=>trivial
   | cons=>exact h.elim
 | cons v l ih=>intro k k' s h;cases s with
   | nil=>exact h.elim
   | cons a s=>exact ⟨h.1.peek,ih h.2⟩
theorem VR.rd {X:Cx} {q q':Nat->Nat->Pl} {v:WV} {h:HV} (r:VR X q v h):VR X q' (peek q (O9 v)) (r7 h):=by
 have nb:∀ h:HV,o9 h=false->r7 h=h:=by intro h hh;cases h<;>first | rfl | cases hh
 cases v with
 | tup vs=>obtain ⟨hs,rfl,r2⟩:=r;exact ⟨hs,rfl,r2.peek⟩
 | lbox ek w=>obtain ⟨h',rfl,r2⟩:=r;exact (rfl:o9 .undef=false)
 | agg cs=>obtain ⟨hs,rfl,r2⟩:=r;exact ⟨hs,rfl,r2.peek⟩
 | own b e ek xs=>
   have:=VR1.peek (v:=.own b e ek xs) (pl':=q' 0 0) r;obtain ⟨rfl,_⟩:=r;exact this
 | undef=>have r':o9 h=false:=r;rw [nb h r'];exact r'
 | c v=>have r':h=.c v:=r;subst r';exact rfl
 | nils=>have r':h=.nils:=r;subst r';exact rfl
 | skipv=>have r':h=.skipv:=r;subst r';exact rfl
 | gone=>have r':o9 h=false:=r.1;rw [nb h r'];exact r
 | view p b off e ek xs=>have r':=r;obtain ⟨rfl,_⟩:=r;exact r'
 | imm fz ek xs=>have r':=r;obtain ⟨id,ver,off,rfl,_⟩:=r;exact r'
 | ptr id off=>have r':=r;obtain ⟨rfl,_⟩:=r;exact r'
 | eptr p i off ek x=>have r':=r;obtain ⟨rfl,_⟩:=r;exact r'
 | iptr fz ek x off=>have r':=r;obtain ⟨id,ver,i,rfl,_⟩:=r;exact r'
 | fn f a b=>have r':=r;obtain ⟨a',b',rfl,_⟩:=r;exact r'
theorem zc2 (pl:Pl) (v:WV):d5 (A0 pl v)=false:=by cases v<;>rfl
theorem vS (q:Nat->Pl):∀ (l:List WV) (k:Nat),(V0 q k l).any d5=false:=by
 intro l;induction l with
 | nil=>intro k;rfl
 | cons v l ih=>intro k;simp only [V0,List.any_cons,zc2,ih,Bool.or_self]
theorem xI (q:Nat->Pl) (v:WV):c8 (i7 q v)=false:=by
 cases v with
 | agg cs=>exact vS q cs 0
 | _=>rfl
theorem zb4 (q:Nat->Nat->Pl):∀ (l:List WV) (k:Nat),(zB q k l).any c8=false:=by
 intro l;induction l with
 | nil=>intro k;rfl
 | cons v l ih=>intro k;simp only [zB,List.any_cons,xI,ih,Bool.or_self]
theorem aS (q:Nat->Nat->Pl) (v:WV):y7 (peek q (O9 v))=false:=by
 cases v with
 | tup vs=>exact zb4 q vs 0
 | agg cs=>exact vS (q 0) cs 0
 | _=>rfl
theorem ze4 (h:HV):d5 (Q7 h)=false:=by cases h<;>rfl
theorem lX:∀ l:List HV,(l.map Q7).any d5=false:=by
 intro l;induction l with
 | nil=>rfl
 | cons v l ih=>simp only [List.map_cons,List.any_cons,ze4,ih,Bool.or_self]
theorem M4 (w:WFr) (x:Opd):y7 (w.rd x)=false:=by
 cases x with
 | t i=>exact aS _ _
 | k h=>
   cases h with
   | agg cs=>
     simp only [WFr.rd,wT];split
     . exact lX cs
     . rfl
   | _=>rfl
theorem FrR.put1 {X:Cx} {w:WFr} {fr:Fr} (h:FrR X w fr) {d:Nat} {v:WV} {a:HV} (hv:VR X (Pl.sl d) v a):FrR X (w.put1 d v) (fr.put (some d) a):=by
 refine ⟨?_,?_⟩
 . simp only [Fr.put,WFr.put1,h.al]
 . intro s;simp only [Fr.put,WFr.put1,upd];by_cases hs:s=d
   . subst hs;rw [if_pos rfl,if_pos rfl];exact hv
   . rw [if_neg hs,if_neg hs];exact h.env s
theorem FrR.put {X:Cx} {w:WFr} {fr:Fr} (h:FrR X w fr) {dst:Option Nat} {v:WV} {a:HV} {q:Nat->Nat->Pl} (hv:VR X q v a) (ho:y7 v=false):FrR X (w.put dst v) (fr.put dst a):=by
 cases dst with
 | none=>exact h
 | some d=>
   simp only [WFr.put,WFr.putD,ho,Bool.false_eq_true,if_false];exact h.put1 (hv.any ho)
end Go.Proofs.Lz
