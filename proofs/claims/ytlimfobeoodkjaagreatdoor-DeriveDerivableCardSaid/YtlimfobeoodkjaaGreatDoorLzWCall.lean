/- Calls: what the state with slices a5 values gives, the evaluator gives. -/
import Derived.Test.YtlimfobeoodkjaaGreatDoorLzWOps7
namespace Go.Proofs.Lz
def a7 (l:List WV):WFr:={ env:=o0 (D9 0 l),al:=x6 }
def o8 (l:List HV):Fr:={ env:=t8 (binds 0 l),al:=x6 }
def wR:WV->Bool
 | .tup vs=>vs.all A3
 | v=>A3 v
def xO (r:WV):Prop:=wR r=true/\(y7 r=true->noView r=true)/\(∀ ek w,r≠.lbox ek w)/\∀ p∈u4 r,L8 p=true
def I4 (cw:u5) (c:j8):Prop:=
 ∀ f args W r W',cw f args W=some (r,W')->∀ X args1,args1.length=args.length->SR X (a7 args) W (o8 args1) ->
  ∃ r1 Y,c f args1 X.H=some (r1,Y.H)/\SR Y (a7 [r]) W' (o8 [r1])/\WStp X Y/\xO r
theorem xG {X:Cx} (hx:XOk X) {pl:Pl} {v:WV} {h:HV} (r:VR1 X pl v h) {u:CV} (hc:e9 v=some u):t6 X.H h=some u:=by
 cases v with
 | c w=>have r':h=.c w:=r;subst r';exact hc
 | nils=>have r':h=.nils:=r;subst r';exact hc
 | view p b off e ek xs=>obtain ⟨rfl,r2⟩:=r;exact (rV hx r2 []).trans hc
 | imm fz ek xs=>obtain ⟨id,ver,off,rfl,r2⟩:=r;exact (rE r2 []).trans hc
 | _=>cases hc
theorem tW {X:Cx} (hx:XOk X) {q:Nat->Pl}:∀ {l:List WV} {k:Nat} {s:List HV} {us:List CV},VRL X q k l s->V7 l=some us->m8 X.H s=some us:=by
 intro l;induction l with
 | nil=>intro k s us r h;cases s with
   | nil=>exact h
   | cons=>exact r.elim
 | cons v l ih=>intro k s us r h;cases s with
   | nil=>exact r.elim
   | cons a s=>
     simp only [V7] at h;split at h
     . rename_i x y h1 h2;simp only [m8,xG hx r.1 h1,ih r.2 h2];exact h
     . cases h
theorem uE {X:Cx} (hx:XOk X) {q:Nat->Pl} {v:WV} {h:HV} (r:VRC X q v h) {u:CV} (hc:wO v=some u):u7 X.H h=some u:=by
 cases v with
 | agg cs=>
   obtain ⟨hs,rfl,r2⟩:=r;simp only [wO] at hc;split at hc
   . rename_i l hl;simp only [u7,tW hx r2 hl];exact hc
   . cases hc
 | c w=>have r':h=.c w:=r;subst r';exact hc
 | nils=>have r':h=.nils:=r;subst r';exact hc
 | view p b off e ek xs=>have:=xG (pl:=q 0) hx (v:=.view p b off e ek xs) r hc;obtain ⟨rfl,r2⟩:=r;exact this
 | imm fz ek xs=>have:=xG (pl:=q 0) hx (v:=.imm fz ek xs) r hc;obtain ⟨id,ver,off,rfl,r2⟩:=r;exact this
 | _=>cases hc
theorem wJ {X:Cx} (hx:XOk X) {W:q8} (hp:HpR X W) {q:Nat->Pl} {v:WV} {h:HV} (r:VRC X q v h) {u:CV} (hc:Z8 W v=some u):H9 X.H h=some u:=by
 cases v with
 | ptr id off=>
   obtain ⟨rfl,r2⟩:=r;simp only [Z8] at hc;split at hc
   . rename_i ek cs hid;obtain ⟨⟨hs,c1,c2⟩,c3⟩:=hp.cells id ek cs hid;split at hc
     . rename_i l hl;have:=tW hx (c2.peek (q':=q) (k':=0)) hl;simp only [H9,c1,this];exact hc
     . cases hc
   . cases hc
 | agg cs=>
   have:=uE hx (v:=.agg cs) r hc;obtain ⟨hs,rfl,r2⟩:=r;exact this
 | c w=>have r':h=.c w:=r;subst r';exact hc
 | nils=>have r':h=.nils:=r;subst r';exact hc
 | view p b off e ek xs=>have:=uE (q:=q) hx (v:=.view p b off e ek xs) r hc;obtain ⟨rfl,r2⟩:=r;exact this
 | imm fz ek xs=>have:=uE (q:=q) hx (v:=.imm fz ek xs) r hc;obtain ⟨id,ver,off,rfl,r2⟩:=r;exact this
 | _=>cases hc
theorem sN {X:Cx} (hx:XOk X) {W:q8} (hp:HpR X W):∀ {l:List WV} {s:List HV} {us:List CV},PlainR X l s->zV W l=some us->C4 X.H s=some us:=by
 intro l;induction l with
 | nil=>intro s us r h;cases s with
   | nil=>exact h
   | cons=>exact r.elim
 | cons v l ih=>
   intro s us r h;cases s with
   | nil=>cases v<;>exact r.elim
   | cons a s=>
     have key:VRC X (Pl.tmp 0) v a/\PlainR X l s:=by
      cases v with
      | c w=>exact r
      | nils=>exact r
      | ptr id off=>exact r
      | _=>exact r.elim
     simp only [zV] at h;split at h
     . rename_i x y h1 h2;simp only [C4,wJ hx hp key.1 h1,ih key.2 h2];exact h
     . cases h
theorem zp1 {X:Cx} (hx:XOk X) {W:q8} (hp:HpR X W) {q:Nat->Nat->Pl} {v:WV} {h:HV} (r:VR X q v h) {u:CV} (hc:Z3 W v=some u):thaw X.H h=some u:=by
 cases v with
 | fn f first cap=>
   obtain ⟨a,b,rfl,r1,r2⟩:=r;simp only [Z3] at hc;split at hc
   . rename_i x y h1 h2;simp only [thaw,sN hx hp r1 h1,sN hx hp r2 h2];exact hc
   . cases hc
 | tup vs=>cases hc
 | lbox ek w=>cases hc
 | ptr id off=>have:=wJ (q:=q 0) hx hp (v:=.ptr id off) r hc;obtain ⟨rfl,r2⟩:=r;exact this
 | agg cs=>have:=wJ hx hp (v:=.agg cs) r hc;obtain ⟨hs,rfl,r2⟩:=r;exact this
 | c w=>have r':h=.c w:=r;subst r';exact hc
 | nils=>have r':h=.nils:=r;subst r';exact hc
 | view p b off e ek xs=>have:=wJ (q:=q 0) hx hp (v:=.view p b off e ek xs) r hc;obtain ⟨rfl,r2⟩:=r;exact this
 | imm fz ek xs=>have:=wJ (q:=q 0) hx hp (v:=.imm fz ek xs) r hc;obtain ⟨id,ver,off,rfl,r2⟩:=r;exact this
 | _=>cases hc
def VRs (X:Cx):List WV->List HV->Prop
 | [],[]=>True
 | v::r,h::s=>VR X Pl.tmp v h/\VRs X r s
 | _,_=>False
theorem zw2 {X:Cx} (hx:XOk X) {W:q8} (hp:HpR X W):∀ {l:List WV} {s:List HV} {a5:List WV},VRs X l s->i8 W l=some a5 ->
 ∃ us:List CV,a5=us.map .c/\a8 X.H s=some (us.map .c):=by
 intro l;induction l with
 | nil=>intro s a5 r h;cases s with
   | nil=>injection h with h;subst h;exact ⟨[],rfl,rfl⟩
   | cons=>exact r.elim
 | cons v l ih=>intro s a5 r h;cases s with
   | nil=>exact r.elim
   | cons a s=>
     simp only [i8] at h;split at h
     . rename_i x y h1 h2;injection h with h;subst h;obtain ⟨us,e1,e2⟩:=ih r.2 h2;exact ⟨x::us,by rw [e1];rfl,by simp only [a8,zp1 hx hp r.1 h1,e2];rfl⟩
     . cases h
theorem xH {X:Cx} (hx:XOk X) {pl:Pl} {v:WV} {h:HV} (r:VR1 X pl v h) {u:CV} (hc:shut1 v=some u):t6 X.H h=some u:=by
 cases v with
 | own b e ek xs=>
   obtain ⟨rfl,r2⟩:=r;obtain ⟨zs,z1,z2,z3,z4⟩:=hx.own _ _ _ _ _ r2;simp only [t6,z1];rw [if_pos ⟨trivial,z2⟩,z3];exact hc
 | _=>exact xG hx r hc
theorem zd9 {X:Cx} (hx:XOk X) {q:Nat->Pl}:∀ {l:List WV} {k:Nat} {s:List HV} {us:List CV},VRL X q k l s->zF l=some us->m8 X.H s=some us:=by
 intro l;induction l with
 | nil=>intro k s us r h;cases s with
   | nil=>exact h
   | cons=>exact r.elim
 | cons v l ih=>intro k s us r h;cases s with
   | nil=>exact r.elim
   | cons a s=>
     simp only [zF] at h;split at h
     . rename_i x y h1 h2;simp only [m8,xH hx r.1 h1,ih r.2 h2];exact h
     . cases h
theorem cT {X:Cx} (hx:XOk X) {q:Nat->Pl} {v:WV} {h:HV} (r:VRC X q v h) {u:CV} (hc:O3 v=some u):u7 X.H h=some u:=by
 cases v with
 | agg cs=>
   obtain ⟨hs,rfl,r2⟩:=r;simp only [O3] at hc;split at hc
   . rename_i l hl;simp only [u7,zd9 hx r2 hl];exact hc
   . cases hc
 | own b e ek xs=>have:=xH (pl:=q 0) hx (v:=.own b e ek xs) r hc;obtain ⟨rfl,r2⟩:=r;exact this
 | c w=>have r':h=.c w:=r;subst r';exact hc
 | nils=>have r':h=.nils:=r;subst r';exact hc
 | view p b off e ek xs=>have:=xH (pl:=q 0) hx (v:=.view p b off e ek xs) r hc;obtain ⟨rfl,r2⟩:=r;exact this
 | imm fz ek xs=>have:=xH (pl:=q 0) hx (v:=.imm fz ek xs) r hc;obtain ⟨id,ver,off,rfl,r2⟩:=r;exact this
 | _=>cases hc
theorem zg0 {X:Cx} (hx:XOk X) {q:Nat->Nat->Pl}:∀ {l:List WV} {k:Nat} {s:List HV} {us:List WV},VRT X q k l s->O8 l=some us->∃ cs:List CV,us=cs.map .c/\R2 X.H s=some (cs.map .c):=by
 intro l;induction l with
 | nil=>intro k s us r h;cases s with
   | nil=>injection h with h;subst h;exact ⟨[],rfl,rfl⟩
   | cons=>exact r.elim
 | cons v l ih=>intro k s us r h;cases s with
   | nil=>exact r.elim
   | cons a s=>
     simp only [O8] at h;split at h
     . rename_i x y h1 h2;injection h with h;subst h;obtain ⟨us,e1,e2⟩:=ih r.2 h2;exact ⟨x::us,by rw [e1];rfl,by simp only [R2,cT hx r.1 h1,e2];rfl⟩
     . cases h
theorem oS {X:Cx} (hx:XOk X) {q:Nat->Nat->Pl} {v:WV} {h:HV} (r:VR X q v h) {u:WV} (hc:shut v=some u) :
 (∃ w:CV,u=.c w/\O6 X.H h=some (.c w))\/∃ ws:List CV,u=.tup (ws.map .c)/\O6 X.H h=some (.tup (ws.map .c)):=by
 by_cases ht:∃ vs,v=.tup vs
 . obtain ⟨vs,rfl⟩:=ht;obtain ⟨hs,rfl,r2⟩:=r;simp only [shut] at hc;split at hc
   . rename_i l hl;injection hc with hc;subst hc;obtain ⟨cs,e1,e2⟩:=zg0 hx r2 hl;exact .inr ⟨cs,by rw [e1],by simp only [O6,e2,Option.map_some]⟩
   . cases hc
 . have hb:∀ ek w,v≠.lbox ek w:=by
    intro ek w e;subst e;cases hc
   have h1:∀ vs,v≠.tup vs:=fun vs e=>ht ⟨vs,e⟩;have hc':(match O3 v with | some u=>some (WV.c u) | none=>none)=some u:=by
    revert hc
    cases v with
    | tup vs=>exact (h1 _ rfl).elim
    | _=>exact fun x=>x
   split at hc'
   . rename_i w hw;injection hc' with hc';subst hc';have rc:=r.toC h1 hb;have t:=cT hx rc hw;refine .inl ⟨w,rfl,?_⟩;have nt:∀ hs,h≠.tup hs:=by
      intro hs e;subst e;cases v with
      | tup=>exact (h1 _ rfl).elim
      | lbox=>exact (hb _ _ rfl).elim
      | agg cs=>obtain ⟨_,e,_⟩:=rc;cases e
      | undef=>cases hw
      | gone=>cases hw
      | c=>cases rc
      | nils=>cases rc
      | skipv=>cases hw
      | own=>cases rc.1
      | view=>cases rc.1
      | imm=>obtain ⟨_,_,_,e,_⟩:=rc;cases e
      | ptr=>cases hw
      | eptr=>cases hw
      | iptr=>cases hw
      | fn=>cases hw
     cases h with
     | tup hs=>exact (nt _ rfl).elim
     | _=>simp only [O6,t,Option.map_some]
   . cases hc'
theorem zg7 (w:CV):noRefW (.c w)=noRef (.c w):=by cases w<;>rfl
theorem zs9:∀ ws:List CV,noRefW.noRefWL (ws.map .c)=noRef.noRefL (ws.map .c):=by
 intro ws;induction ws with
 | nil=>rfl
 | cons w ws ih=>cases w<;>simp only [List.map_cons,noRefW.noRefWL,noRef.noRefL,ih]
theorem zg9 {W:q8} {X:Cx} {q:Nat->Nat->Pl} {v:WV} {h:HV} (r:VR X q v h) {u:CV} (ht:Z3 W v=some u):L0 v=isC h/\W6 v=M6 h:=by
 cases v with
 | c w=>have r':h=.c w:=r;subst r';exact ⟨rfl,rfl⟩
 | nils=>have r':h=.nils:=r;subst r';exact ⟨rfl,rfl⟩
 | view p b off e ek xs=>obtain ⟨rfl,r2⟩:=r;exact ⟨rfl,rfl⟩
 | imm fz ek xs=>obtain ⟨id,ver,off,rfl,r2⟩:=r;exact ⟨rfl,rfl⟩
 | agg cs=>obtain ⟨hs,rfl,r2⟩:=r;exact ⟨rfl,rfl⟩
 | ptr id off=>obtain ⟨rfl,r2⟩:=r;exact ⟨rfl,rfl⟩
 | fn f a b=>obtain ⟨a',b',rfl,r2⟩:=r;exact ⟨rfl,rfl⟩
 | _=>cases ht
theorem zg4 {W:q8} {X:Cx}:∀ {l:List WV} {s:List HV} {a5:List WV},VRs X l s->i8 W l=some a5->l.all L0=s.all isC/\l.all W6=s.all M6:=by
 intro l;induction l with
 | nil=>intro s a5 r _;cases s with
   | nil=>exact ⟨rfl,rfl⟩
   | cons=>exact r.elim
 | cons v l ih=>intro s a5 r h;cases s with
   | nil=>exact r.elim
   | cons a s=>
     simp only [i8] at h;split at h
     . rename_i x y h1 h2;obtain ⟨e1,e2⟩:=ih r.2 h2;obtain ⟨f1,f2⟩:=zg9 r.1 h1;simp only [List.all_cons,e1,e2,f1,f2,and_self]
     . cases h
theorem kW {X:Cx} {pl:Pl} {v:WV} {h:HV} (r:VR1 X pl v h) (hl:jR v=false) {u:CV} (ht:e9 v=some u):FzOk X (B9 [h]) (A7 v):=by
 cases v with
 | c w=>have r':h=.c w:=r;subst r';exact FzOk.nil X
 | nils=>have r':h=.nils:=r;subst r';exact FzOk.nil X
 | view p b off e ek xs=>
   obtain ⟨rfl,r2⟩:=r;have hO:X.O p≠none:=by obtain ⟨b',ys,q,_⟩:=r2;rw [q];simp
   exact ⟨fun j hj=>.inl ⟨p,by simp [A7],hO,by simpa [B9] using hj⟩,fun x hx=>by simp only [A7,List.mem_singleton] at hx;subst hx;exact ⟨hO,by simp [B9]⟩⟩
 | imm fz ek xs=>
   cases fz with
   | true=>
     obtain ⟨id,ver,off,rfl,r2⟩:=r;obtain ⟨fb,e,ys,q1,_,_,q4,_⟩:=r2;exact ⟨fun j hj=>.inr ⟨_,by simp only [B9,List.mem_singleton] at hj;subst hj;exact q1,by rw [q4 rfl];exact ⟨_,_,_,_,rfl⟩⟩,fun x hx=>by cases hx⟩
   | false=>cases hl
 | _=>cases ht
theorem z12 {X:Cx} {q:Nat->Pl}:∀ {l:List WV} {k:Nat} {s:List HV} {us:List CV},VRL X q k l s->l.any jR=false->V7 l=some us->FzOk X (B9 s) (J2 l):=by
 intro l;induction l with
 | nil=>intro k s us r _ _;cases s with
   | nil=>exact FzOk.nil X
   | cons=>exact r.elim
 | cons v l ih=>intro k s us r hl h;cases s with
   | nil=>exact r.elim
   | cons a s=>
     simp only [V7] at h;simp only [List.any_cons,Bool.or_eq_false_iff] at hl;split at h
     . rename_i x y h1 h2;rw [lP];exact (kW r.1 hl.1 h1).append (ih r.2 hl.2 h2)
     . cases h
theorem fB {W:q8} {X:Cx} {q:Nat->Nat->Pl} {v:WV} {h:HV} (r:VR X q v h) (hl:jW v=false) (hn:W6 v=true) {u:CV} (ht:Z3 W v=some u) (H:q7):FzOk X (G6 h) (l6 v)/\I3 h H=u9 (G6 h) H:=by
 cases v with
 | agg cs=>
   obtain ⟨hs,rfl,r2⟩:=r;simp only [Z3,Z8,wO] at ht;split at ht
   . rename_i l hl';exact ⟨z12 r2 hl hl',by simp only [I3,mQ,G6]⟩
   . cases ht
 | c w=>have r':h=.c w:=r;subst r';exact ⟨FzOk.nil X,rfl⟩
 | nils=>have r':h=.nils:=r;subst r';exact ⟨FzOk.nil X,rfl⟩
 | view p b off e ek xs=>
   have:=kW (pl:=.tmp 0 0) (v:=.view p b off e ek xs) r hl ht;obtain ⟨rfl,r2⟩:=r;exact ⟨this,by simp only [I3,l7,G6,u9]⟩
 | imm fz ek xs=>
   have:=kW (pl:=.tmp 0 0) (v:=.imm fz ek xs) r hl ht;obtain ⟨id,ver,off,rfl,r2⟩:=r;exact ⟨this,by simp only [I3,l7,G6,u9]⟩
 | ptr=>cases hn
 | fn=>cases hn
 | _=>cases ht
theorem zk6 {W:q8} {X:Cx}:∀ {l:List WV} {s:List HV} {a5:List WV},VRs X l s->i8 W l=some a5->l.all W6=true->l.any jW=false->∃ ids,FzOk X ids (f9 l)/\∀ H,E3 s H=u9 ids H:=by
 intro l;induction l with
 | nil=>intro s a5 r _ _ _;cases s with
   | nil=>exact ⟨[],FzOk.nil X,fun _=>rfl⟩
   | cons=>exact r.elim
 | cons v l ih=>intro s a5 r h hn hl;cases s with
   | nil=>exact r.elim
   | cons a s=>
     simp only [i8] at h;simp only [List.all_cons,Bool.and_eq_true] at hn;simp only [List.any_cons,Bool.or_eq_false_iff] at hl;split at h
     . rename_i x y h1 h2;obtain ⟨ids,f1,f2⟩:=ih r.2 h2 hn.2 hl.2;refine ⟨G6 a++ids,(fB r.1 hl.1 hn.1 h1 []).1.append f1,?_⟩;intro H;simp only [E3];rw [(fB r.1 hl.1 hn.1 h1 H).2,f2,yQ]
     . cases h
theorem zy5:∀ (us:List CV) (i s:Nat),(∃ u,o0 (D9 i (us.map .c)) s=.c u/\t8 (binds i (us.map .c)) s=.c u)\/(o0 (D9 i (us.map .c)) s=.undef/\t8 (binds i (us.map .c)) s=.undef):=by
 intro us;induction us with
 | nil=>intro i s;exact .inr ⟨rfl,rfl⟩
 | cons u us ih=>
   intro i s;simp only [List.map_cons,D9,binds,o0,t8];by_cases h:s=i
   . rw [if_pos h,if_pos h];exact .inl ⟨u,rfl,rfl⟩
   . rw [if_neg h,if_neg h];exact ih _ _
theorem lK (us:List CV):SR { th:=fun _=>(0,0,0),rho:=fun i=>i,O:=fun _=>none,F:=fun _=>False,H:=[],n:=0 } (a7 (us.map .c)) [] (o8 (us.map .c)):=by
 refine ⟨⟨fun _ _ _ _ _ h=>(by cases h),fun _ _ h=>(h rfl).elim,fun _ h=>(h rfl).elim,fun i _ h=>absurd h (Nat.not_lt_zero _),fun _ h=>h.elim,fun _ _ _=>rfl⟩,⟨rfl,?_⟩,⟨rfl,fun i _ _ h=>(by cases h)⟩,fun _ _=>rfl⟩;intro s;simp only [a7,o8];rcases zy5 us 0 s with ⟨u,h1,h2⟩ | ⟨h1,h2⟩
 . rw [h1,h2];exact (rfl:HV.c u=.c u)
 . rw [h1,h2];exact (rfl:o9 .undef=false)
def zt5 (E:Env) (c:j8) (o:IOp) (dst:Option Nat) (X:Cx) (fr:Fr) (w':WFr) (W':q8):Prop:=
 ∃ Y fr',f8 E c o dst fr X.H=some (fr',Y.H)/\SR Y w' W' fr'/\WStp X Y
def bI (E:Env) (c:j8) (f:Nat) (args:List HV) (dst:Option Nat) (X:Cx) (fr:Fr) (w':WFr) (W':q8):Prop:=
 ∃ Y v,l0 E c f args X.H=some (v,Y.H)/\SR Y w' W' (fr.put dst v)/\WStp X Y
theorem bO (r:WV):(a7 [r]).env 0=r:=rfl
theorem uG (r:HV):(o8 [r]).env 0=r:=rfl
theorem z30 {X:Cx}:∀ {l:List WV} {s:List HV},VRs X l s->s.length=l.length:=by
 intro l;induction l with
 | nil=>intro s h;cases s with
   | nil=>rfl
   | cons=>exact h.elim
 | cons v l ih=>intro s h;cases s with
   | nil=>exact h.elim
   | cons a s=>simp only [List.length_cons,ih h.2]
theorem iV (tk:List Nat):∀ (l:List WV) (j:Nat),(L6 tk j l).length=l.length:=by
 intro l;induction l with
 | nil=>intro j;rfl
 | cons v l ih=>intro j;simp only [L6,List.length_cons,ih]
theorem lR {E:Env} {cw:u5} {c:j8} (hc:I4 cw c) {f:Nat} (hm:E.md f=.P) {args:List WV} {hargs:List HV} {X:Cx} {w:WFr} {W:q8} {fr:Fr} (s:SR X w W fr) (ra:VRs X args hargs)
 {a5:List WV} (ha:i8 W args=some a5) {r:WV} {W2:q8} (hr:cw f a5 []=some (r,W2)) {r':WV} (hs:shut r=some r') :
 ∃ v,(∀ Y,VR Y Pl.tmp r' v)/\y7 r'=false/\noRefW r'=noRef v/\args.all L0=hargs.all isC/\args.all W6=hargs.all M6 /\
  ∀ H',(if hargs.all isC||noRef v then some (v,X.H) else if hargs.all M6 then some (v,E3 hargs X.H) else none)=some (v,H')->l0 E c f hargs X.H=some (v,H'):=by
 obtain ⟨us,e1,e2⟩:=zw2 s.ok s.hp ra ha;subst e1;obtain ⟨r1,Y0,h1,h2,h3,_⟩:=hc f _ _ r W2 hr _ _ (by simp) (lK us);have rr:=h2.fr.env 0;rw [bO,uG] at rr;have key:∃ v,O6 Y0.H r1=some v/\(∀ Y,VR Y Pl.tmp r' v)/\y7 r'=false/\noRefW r'=noRef v:=by
  rcases oS h2.ok rr hs with ⟨u,q1,q2⟩ | ⟨us,q1,q2⟩
  . exact ⟨_,q2,fun Y=>by rw [q1];exact (rfl:HV.c u=.c u),by rw [q1];rfl,by rw [q1];exact zg7 u⟩
  . refine ⟨_,q2,?_,?_,?_⟩
    . intro Y;rw [q1];refine ⟨_,rfl,?_⟩;have:∀ (us:List CV) (k:Nat),VRT Y Pl.tmp k (us.map .c) (us.map .c):=by
       intro us;induction us with
       | nil=>intro k;trivial
       | cons u us ih=>intro k;exact ⟨rfl,ih _⟩
      exact this us 0
    . rw [q1];have:∀ us:List CV,(us.map WV.c).any c8=false:=by
       intro us;induction us with
       | nil=>rfl
       | cons u us ih=>simp only [List.map_cons,List.any_cons,ih];rfl
      exact this us
    . rw [q1];exact zs9 us
 obtain ⟨v,k1,k2,k3,k4⟩:=key;obtain ⟨a1,a2⟩:=zg4 ra ha;refine ⟨v,k2,k3,k4,a1,a2,?_⟩;have base:∀ H',(if hargs.all isC||noRef v then some (v,X.H) else if hargs.all M6 then some (v,E3 hargs X.H) else none)=some (v,H')->l0 E c f hargs X.H=some (v,H'):=by
  intro H' hh;unfold l0;rw [hm];simp only;rw [e2];simp only;rw [h1];simp only;rw [k1];exact hh
 exact base
theorem z02 {E:Env} {cw:u5} {c:j8} (hc:I4 cw c) {f:Nat} (hm:E.md f=.P) {args:List WV} {hargs:List HV} {dst:Option Nat} {X:Cx} {w w':WFr} {W W':q8} {fr:Fr} (s:SR X w W fr) (ra:VRs X args hargs)
 {a5:List WV} (ha:i8 W args=some a5) {r:WV} {W2:q8} (hr:cw f a5 []=some (r,W2)) {r':WV} (hs:shut r=some r')
 (h:(if (args.all L0||noRefW r')=true then some (w.put dst r',W) else if (args.all W6&&!args.any jW)=true then match K1 (f9 args) true w W with | (fr1,H1)=>some (fr1.put dst r',H1) else none)=some (w',W')) :
 bI E c f hargs dst X fr w' W':=by
 obtain ⟨v,k2,k3,k4,a1,a2,base⟩:=lR hc hm s ra ha hr hs;split at h
 . rename_i hcnd;injection h with h;injection h with i1 i2;subst i1;subst i2;refine ⟨X,v,base _ ?_,s.put (k2 X) k3,WStp.refl X⟩;rw [<-a1,<-k4,if_pos hcnd]
 . rename_i hcnd;split at h
   . rename_i hcnd2;rw [zC] at h;injection h with h;injection h with i1 i2;subst i1;subst i2;simp only [Bool.and_eq_true,Bool.not_eq_true'] at hcnd2;obtain ⟨ids,f1,f2⟩:=zk6 ra ha hcnd2.1 hcnd2.2;obtain ⟨Y,hY,st,hH,_⟩:=s.freeze f1;refine ⟨Y,v,base _ ?_,hY.put (k2 Y) k3,st⟩;rw [<-a1,<-k4,if_neg hcnd,<-a2,if_pos hcnd2.1,f2,hH]
   . cases h
def N7 (tk:List Nat):Nat->List WV->List WV
 | _,[]=>[]
 | j,v::r=>(if tk.contains j=true then v else .undef)::N7 tk (j+1) r
theorem ze3 (tk:List Nat):∀ (l:List WV) (j:Nat),C2 tk j l=A5 (N7 tk j l):=by
 intro l;induction l with
 | nil=>intro j;rfl
 | cons v l ih=>
   intro j;simp only [C2,N7,A5,ih];congr 1;split<;>rfl
def Cx.callee (Y:Cx):Cx:=
 { Y with
   O:=fun p=>match p with
    | .sl j i k=>if i=0 then Y.O (.tmp j k) else none
    | .hp id k=>Y.O (.hp id k)
    | .tmp _ _=>none
   th:=fun p=>match p with
    | .sl j _ k=>Y.th (.tmp j k)
    | p=>Y.th p
   F:=fun id=>Y.F id\/∃ s i k,Y.O (.sl s i k)≠none/\id=(Y.th (.sl s i k)).1 }
theorem zi8 {Y:Cx} (h:XOk Y):XOk Y.callee:=by
 have src:∀ p,Y.callee.O p≠none->∃ p',Y.O p'=Y.callee.O p/\Y.th p'=Y.callee.th p/\((∃ j k,p=.sl j 0 k/\p'=.tmp j k)\/(∃ id k,p=.hp id k/\p'=.hp id k)):=by
  intro p hp;cases p with
  | sl j i k=>
    by_cases hi:i=0
    . subst hi;exact ⟨.tmp j k,rfl,rfl,.inl ⟨j,k,rfl,rfl⟩⟩
    . simp only [Cx.callee,if_neg hi] at hp;exact (hp rfl).elim
  | hp id k=>exact ⟨.hp id k,rfl,rfl,.inr ⟨id,k,rfl,rfl⟩⟩
  | tmp i k=>exact (hp rfl).elim
 refine ⟨?_,?_,?_,h.rinj,?_,fun i k hi=>h.hz i k hi⟩
 . intro p b e ek xs hp;obtain ⟨p',e1,e2,_⟩:=src p (by rw [hp];simp);rw [<-e2];exact h.own p' b e ek xs (by rw [e1];exact hp)
 . intro p p' hp hp' he;obtain ⟨q,e1,e2,e3⟩:=src p hp;obtain ⟨q',e1',e2',e3'⟩:=src p' hp';have:=h.dis q q' (by rw [e1];exact hp) (by rw [e1'];exact hp') (by rw [e2,e2'];exact he);rcases e3 with ⟨j,k,a,b⟩ | ⟨j,k,a,b⟩<;>rcases e3' with ⟨j',k',a',b'⟩ | ⟨j',k',a',b'⟩<;>rw [b,b'] at this<;>cases this<;>rw [a,a']
 . intro p hp;obtain ⟨q,e1,e2,e3⟩:=src p hp;have hq:Y.O q≠none:=by rw [e1];exact hp
   rw [<-e2];rintro (hf | ⟨s,i,k,h1,h2⟩)
   . exact h.nf q hq hf
   . have:=h.dis q (.sl s i k) hq h1 h2;rcases e3 with ⟨j,k',a,b⟩ | ⟨j,k',a,b⟩<;>rw [b] at this<;>cases this
 . rintro i (hf | ⟨s,j,k,h1,h2⟩)
   . exact h.fl i hf
   . obtain ⟨o,ho⟩:=Option.ne_none_iff_exists'.1 h1;obtain ⟨b,e,ek,xs⟩:=o;obtain ⟨ys,r1,_⟩:=h.own _ _ _ _ _ ho;exact ⟨_,_,_,_,_,h2▸r1⟩
theorem VR1.give {Y:Cx} {j k:Nat} {v:WV} {h:HV} (r:VR1 Y (.tmp j k) (B6 v) h) (ho:d5 v=false):VR1 Y.callee (.sl j 0 k) (jP v) h:=by
 cases v with
 | view p b off e ek xs=>exact ⟨r.1,by simp only [Cx.callee,if_true];exact r.2⟩
 | own=>cases ho
 | imm fz ek xs=>
   obtain ⟨id,ver,off,r1,fb,e,ys,q1,q2,q3,q4,q5⟩:=r;exact ⟨id,ver,off,r1,fb,e,ys,q1,q2,q3,q4,fun h=>.inl (q5 h)⟩
 | iptr fz ek x off=>
   obtain ⟨id,ver,i,r1,fb,e,ys,q1,q2,q4,q5⟩:=r;exact ⟨id,ver,i,r1,fb,e,ys,q1,q2,q4,fun h=>.inl (q5 h)⟩
 | fn f a b=>obtain ⟨a',b',r1,r2,r3⟩:=r;exact ⟨a',b',r1,r2.ext (X:=Y) (Y:=Y.callee) (Nat.le_refl _) (fun _ _=>rfl),r3.ext (X:=Y) (Y:=Y.callee) (Nat.le_refl _) (fun _ _=>rfl)⟩
 | _=>exact r
theorem VRL.give {Y:Cx} {j:Nat}:∀ {l:List WV} {k:Nat} {s:List HV},VRL Y (Pl.tmp j) k (l.map B6) s->l.any d5=false->VRL Y.callee (Pl.sl j 0) k (l.map jP) s:=by
 intro l;induction l with
 | nil=>intro k s r _;cases s with
   | nil=>trivial
   | cons=>exact r.elim
 | cons v l ih=>intro k s r ho;cases s with
   | nil=>exact r.elim
   | cons a s=>
     simp only [List.any_cons,Bool.or_eq_false_iff] at ho;exact ⟨r.1.give ho.1,ih r.2 ho.2⟩
theorem VRC.give {Y:Cx} {j:Nat} {v:WV} {h:HV} (r:VRC Y (Pl.tmp j) (j6 v) h) (ho:c8 v=false) (hl:o9 h=false):VRC Y.callee (Pl.sl j 0) (xY v) h:=by
 cases v with
 | agg cs=>obtain ⟨hs,r1,r2⟩:=r;exact ⟨hs,r1,r2.give ho⟩
 | own=>cases ho
 | undef=>exact r
 | tup=>exact hl
 | lbox=>exact hl
 | view p b off e ek xs=>exact VR1.give (v:=.view p b off e ek xs) r rfl
 | imm fz ek xs=>exact VR1.give (j:=j) (k:=0) (v:=.imm fz ek xs) r rfl
 | iptr fz ek x off=>exact VR1.give (j:=j) (k:=0) (v:=.iptr fz ek x off) r rfl
 | fn f a b=>exact VR1.give (j:=j) (k:=0) (v:=.fn f a b) r rfl
 | _=>exact r
theorem VR1.lend {X Y:Cx} {K:Pl->Bool} (E:Ext K false X Y) (hY:∀ p,y9 p=true->X.O p=none) {pl pl':Pl} {v:WV} {h:HV} (r:VR1 X pl v h) (hk:∀ p,p∈W7 v->K p=false) (hx:XOk Y):VR1 Y.callee pl' (zT v) h:=by
 cases v with
 | own b e ek xs=>obtain ⟨rfl,_⟩:=r;exact ⟨rfl,by intro v hv;cases hv⟩
 | view p b off e ek xs=>
   obtain ⟨rfl,b',ys,q1,q2,q3,q4⟩:=r;obtain ⟨e1,e2⟩:=E.pl p (hk p (by simp [W7])) (by rw [q1];simp);have q1':Y.O p=some (b',e,ek,ys):=by rw [e2];exact q1
   cases p with
   | sl s i k=>
     obtain ⟨zs,z1,z2,z3,z4⟩:=hx.own _ _ _ _ _ q1';rw [e1] at z1 z2 z3;refine ⟨_,_,_,rfl,false,e,zs,z1,by omega,?_,fun h=>(by cases h),fun _=>.inr ⟨s,i,k,by rw [q1'];simp,by rw [e1]⟩⟩;rw [yP zs ys _ off xs.length z3 q2,q3]
   | hp id k=>exact ⟨by simp only [Cx.callee,e1],b',ys,q1',q2,q3,q4⟩
   | tmp i k=>rw [hY _ rfl] at q1;cases q1
 | imm fz ek xs=>
   obtain ⟨id,ver,off,r1,r2⟩:=r;obtain ⟨fb,e,ys,q1,q2,q3,q4,q5⟩:=r2.ext E;exact ⟨id,ver,off,r1,fb,e,ys,q1,q2,q3,q4,fun h=>.inl (q5 h)⟩
 | ptr id off=>exact ⟨by show _=HV.ptr (Y.rho id) off;rw [E.rho _ r.2];exact r.1,Nat.lt_of_lt_of_le r.2 E.n⟩
 | eptr p i off ek x=>
   obtain ⟨rfl,b',e,ys,q1,q2⟩:=r;obtain ⟨e1,e2⟩:=E.pl p (hk p (by simp [W7])) (by rw [q1];simp);have q1':Y.O p=some (b',e,ek,ys):=by rw [e2];exact q1
   cases p with
   | sl s a k=>
     obtain ⟨zs,z1,z2,z3,z4⟩:=hx.own _ _ _ _ _ q1';rw [e1] at z1 z2 z3;exact ⟨_,_,_,rfl,false,e,zs,z1,Y6 z3 q2,fun h=>(by cases h),fun _=>.inr ⟨s,a,k,by rw [q1'];simp,by rw [e1]⟩⟩
   | hp id k=>exact ⟨by simp only [Cx.callee,e1],b',e,ys,q1',q2⟩
   | tmp i k=>rw [hY _ rfl] at q1;cases q1
 | iptr fz ek x off=>
   obtain ⟨id,ver,i,r1,r2⟩:=r;obtain ⟨fb,e,ys,q1,q2,q4,q5⟩:=r2.ext E;exact ⟨id,ver,i,r1,fb,e,ys,q1,q2,q4,fun h=>.inl (q5 h)⟩
 | fn f a b=>
   obtain ⟨a',b',r1,r2,r3⟩:=r;exact ⟨a',b',r1,r2.ext (Y:=Y.callee) E.n E.rho,r3.ext (Y:=Y.callee) E.n E.rho⟩
 | _=>exact r
theorem VRL.lend {X Y:Cx} {K:Pl->Bool} (E:Ext K false X Y) (hY:∀ p,y9 p=true->X.O p=none) (hx:XOk Y) {q q':Nat->Pl}:∀ {l:List WV} {k k':Nat} {s:List HV},VRL X q k l s->(∀ p,p∈l.flatMap W7->K p=false)->VRL Y.callee q' k' (l.map zT) s:=by
 intro l;induction l with
 | nil=>intro k k' s r _;cases s with
   | nil=>trivial
   | cons=>exact r.elim
 | cons v l ih=>intro k k' s r hk;cases s with
   | nil=>exact r.elim
   | cons a s=>exact ⟨r.1.lend E hY (fun p hp=>hk p (by simp [hp])) hx,ih r.2 (fun p hp=>hk p (by rw [List.flatMap_cons];exact List.mem_append_right _ hp))⟩
theorem VRC.lend {X Y:Cx} {K:Pl->Bool} (E:Ext K false X Y) (hY:∀ p,y9 p=true->X.O p=none) (hx:XOk Y) {q q':Nat->Pl} {v:WV} {h:HV} (r:VRC X q v h) (hk:∀ p,p∈yC v->K p=false):VRC Y.callee q' (vZ v) h:=by
 have key:∀ v,VR1 X (q 0) v h->(∀ p,p∈W7 v->K p=false)->VRC Y.callee q' (zT v) h:=fun v r hk=>cL (r.lend E hY hk hx);cases v with
 | agg cs=>obtain ⟨hs,r1,r2⟩:=r;exact ⟨hs,r1,r2.lend E hY hx hk⟩
 | undef=>exact r
 | tup=>exact r.elim
 | lbox=>exact r.elim
 | c u=>exact key (.c u) r hk
 | nils=>exact key .nils r hk
 | own b e ek xs=>exact key (.own b e ek xs) r hk
 | view p b off e ek xs=>exact key (.view p b off e ek xs) r hk
 | imm fz ek xs=>exact key (.imm fz ek xs) r hk
 | ptr id off=>exact key (.ptr id off) r hk
 | eptr p i off ek x=>exact key (.eptr p i off ek x) r hk
 | iptr fz ek x off=>exact key (.iptr fz ek x off) r hk
 | fn f a b=>exact key (.fn f a b) r hk
 | skipv=>exact key .skipv r hk
 | gone=>exact key .gone r hk
theorem zu2 {tk:List Nat}:∀ {l:List WV} {j i:Nat} {v:WV} {p:Pl},l[i]?=some v->tk.contains (j+i)=false->p∈yC v->p∈X2 tk j l:=by
 intro l;induction l with
 | nil=>intro j i v p h;cases h
 | cons x l ih=>
   intro j i v p h ht hp;cases i with
   | zero=>
     simp only [List.getElem?_cons_zero,Option.some.injEq] at h;subst h;simp only [X2];rw [Nat.add_zero] at ht;rw [if_neg (by rw [ht];simp)];exact List.mem_append_left _ hp
   | succ i=>
     simp only [X2];exact List.mem_append_right _ (ih (by simpa using h) (by rw [show j+1+i=j+(i+1) by omega];exact ht) hp)
theorem VRs.get {X:Cx}:∀ {l:List WV} {s:List HV} {j:Nat} {c:WV},VRs X l s->l[j]?=some c->∃ a,s[j]?=some a/\VR X Pl.tmp c a:=by
 intro l;induction l with
 | nil=>intro s j c _ h;cases h
 | cons v l ih=>intro s j c h hj;cases s with
   | nil=>exact h.elim
   | cons a s=>
     cases j with
     | zero=>simp only [List.getElem?_cons_zero,Option.some.injEq] at hj;subst hj;exact ⟨a,rfl,h.1⟩
     | succ j=>
       obtain ⟨a',h1,h2⟩:=ih h.2 (by simpa using hj);exact ⟨a',by simpa using h1,h2⟩
theorem VRs.len {X:Cx}:∀ {l:List WV} {s:List HV},VRs X l s->l.length=s.length:=by
 intro l;induction l with
 | nil=>intro s h;cases s with
   | nil=>rfl
   | cons=>exact h.elim
 | cons v l ih=>intro s h;cases s with
   | nil=>exact h.elim
   | cons a s=>simp only [List.length_cons,ih h.2]
def yD (v:WV):Prop:=(∀ vs,v≠.tup vs)/\∀ ek w,v≠.lbox ek w
theorem iD {X:Cx} (tk:List Nat):∀ {l:List WV} {s:List HV} {j k:Nat},VRs X l s->(∀ v∈l,yD v/\y7 v=false)->VRT X Pl.tmp k (N7 tk j l) s/\(N7 tk j l).any c8=false:=by
 intro l;induction l with
 | nil=>intro s j k r _;cases s with
   | nil=>exact ⟨trivial,rfl⟩
   | cons=>exact r.elim
 | cons v l ih=>
   intro s j k r hc;cases s with
   | nil=>exact r.elim
   | cons a s=>
     obtain ⟨i1,i2⟩:=ih (j:=j+1) (k:=k+1) r.2 (fun v hv=>hc v (List.mem_cons_of_mem _ hv));obtain ⟨⟨c1,c2⟩,c3⟩:=hc v (List.mem_cons_self ..);obtain ⟨rc,oc⟩:=vP r.1 c1 c2 c3;simp only [N7,VRT,List.any_cons,Bool.or_eq_false_iff];split
     . exact ⟨⟨rc.any oc,i1⟩,oc,i2⟩
     . refine ⟨⟨?_,i1⟩,rfl,i2⟩;have:=r.1.lbox_iff;rw [show vJ v=false by cases v<;>first | rfl | exact (c2 _ _ rfl).elim] at this;exact this.symm
theorem z17:∀ (l:List WV) (i s:Nat),o0 (D9 i l) s=(match (if i<=s then l[s - i]? else none) with | some v=>v | none=>.undef):=by
 intro l;induction l with
 | nil=>intro i s;simp [D9,o0]
 | cons v l ih=>
   intro i s;simp only [D9,o0];by_cases h:s=i
   . subst h;simp
   . rw [if_neg h,ih];by_cases h2:i+1<=s
     . rw [if_pos h2,if_pos (by omega),show s - i=(s - (i+1))+1 by omega,List.getElem?_cons_succ]
     . rw [if_neg h2,if_neg (by omega)]
theorem zp4:∀ (l:List HV) (i s:Nat),t8 (binds i l) s=(match (if i<=s then l[s - i]? else none) with | some v=>v | none=>.undef):=by
 intro l;induction l with
 | nil=>intro i s;simp [binds,t8]
 | cons v l ih=>
   intro i s;simp only [binds,t8];by_cases h:s=i
   . subst h;simp
   . rw [if_neg h,ih];by_cases h2:i+1<=s
     . rw [if_pos h2,if_pos (by omega),show s - i=(s - (i+1))+1 by omega,List.getElem?_cons_succ]
     . rw [if_neg h2,if_neg (by omega)]
theorem q06 (tk:List Nat):∀ (l:List WV) (j s:Nat),(L6 tk j l)[s]?=(l[s]?).map fun v=>if tk.contains (j+s)=true then xY v else vZ v:=by
 intro l;induction l with
 | nil=>intro j s;rfl
 | cons v l ih=>
   intro j s;cases s with
   | zero=>simp [L6]
   | succ s=>simp only [L6,List.getElem?_cons_succ,ih,show j+1+s=j+(s+1) by omega]
theorem zo3 (tk:List Nat):∀ (l:List WV) (j s:Nat),(N7 tk j l)[s]?=(l[s]?).map fun v=>if tk.contains (j+s)=true then v else .undef:=by
 intro l;induction l with
 | nil=>intro j s;rfl
 | cons v l ih=>
   intro j s;cases s with
   | zero=>simp [N7]
   | succ s=>simp only [N7,List.getElem?_cons_succ,ih,show j+1+s=j+(s+1) by omega]
def Cx.back (Y C:Cx):Cx:=
 { th:=fun p=>match p with
    | .sl s i k=>Y.th (.sl s i k)
    | .hp id k=>C.th (.hp id k)
    | .tmp i k=>C.th (.sl 0 i k)
   O:=fun p=>match p with
    | .sl s i k=>Y.O (.sl s i k)
    | .hp id k=>C.O (.hp id k)
    | .tmp i k=>C.O (.sl 0 i k)
   rho:=C.rho
   F:=Y.F
   H:=C.H
   n:=C.n }
theorem zn6 {Y C:Cx} (hY:XOk Y) (hC:XOk C) (st:WStp Y.callee C):XOk (Y.back C):=by
 have slF:∀ s i k,Y.O (.sl s i k)≠none->C.F (Y.th (.sl s i k)).1:=by
  intro s i k h;rw [st.F];exact .inr ⟨s,i,k,h,rfl⟩
 have nC:∀ id,¬ C.F id->¬ Y.F id:=by
  intro id h hf;apply h;rw [st.F];exact .inl hf
 refine ⟨?_,?_,?_,hC.rinj,?_,fun i k hi=>hC.hz i k hi⟩
 . intro p b e ek xs h;cases p with
   | sl s i k=>
     obtain ⟨ys,r1,r2⟩:=hY.own (.sl s i k) b e ek xs h;exact ⟨ys,st.rows _ _ r1 (.inr (.inr ⟨s,i,k,by rw [show Y.O (.sl s i k)=some (b,e,ek,xs) from h];simp,rfl⟩)),r2⟩
   | hp id k=>exact hC.own (.hp id k) b e ek xs h
   | tmp i k=>exact hC.own (.sl 0 i k) b e ek xs h
 . intro p p' h h' he;cases p with
   | sl s i k=>
     cases p' with
     | sl s' i' k'=>exact hY.dis _ _ h h' he
     | hp id k'=>exact (hC.nf (.hp id k') h' (he▸slF s i k h)).elim
     | tmp i' k'=>exact (hC.nf (.sl 0 i' k') h' (he▸slF s i k h)).elim
   | hp id k=>
     cases p' with
     | sl s' i' k'=>exact (hC.nf (.hp id k) h (he▸slF s' i' k' h')).elim
     | hp id' k'=>exact hC.dis _ _ h h' he
     | tmp i' k'=>have:=hC.dis (.hp id k) (.sl 0 i' k') h h' he;cases this
   | tmp i k=>
     cases p' with
     | sl s' i' k'=>exact (hC.nf (.sl 0 i k) h (he▸slF s' i' k' h')).elim
     | hp id' k'=>have:=hC.dis (.sl 0 i k) (.hp id' k') h h' he;cases this
     | tmp i' k'=>
       have:=hC.dis (.sl 0 i k) (.sl 0 i' k') h h' he;injection this with _ a b;rw [a,b]
 . intro p h;cases p with
   | sl s i k=>exact hY.nf _ h
   | hp id k=>exact nC _ (hC.nf _ h)
   | tmp i k=>exact nC _ (hC.nf (.sl 0 i k) h)
 . intro i hi;obtain ⟨a,b,c,d,e,hr⟩:=hY.fl i hi;exact ⟨a,b,c,d,e,st.rows _ _ hr (.inr (.inl hi))⟩
theorem VR1.back {Y C:Cx} {i k:Nat} {v:WV} {h:HV} (r:VR1 C (.sl 0 i k) v h) (ok:P0 v=true) (hv:∀ p b off e ek xs,v=.view p b off e ek xs->L8 p=true):VR1 (Y.back C) (.tmp i k) v h:=by
 cases v with
 | own b e ek xs=>exact r
 | view p b off e ek xs=>
   have:=hv p b off e ek xs rfl;cases p with
   | hp id k'=>exact r
   | sl=>cases this
   | tmp=>cases this
 | imm fz ek xs=>
   obtain ⟨id,ver,off,r1,fb,e,ys,q1,q2,q3,q4,q5⟩:=r;have:fz=true:=ok;subst this;exact ⟨id,ver,off,r1,fb,e,ys,q1,q2,q3,q4,fun h=>by cases h⟩
 | eptr=>cases ok
 | iptr=>cases ok
 | fn f a b=>obtain ⟨a',b',r1,r2,r3⟩:=r;exact ⟨a',b',r1,r2.ext (X:=C) (Y:=Y.back C) (Nat.le_refl _) (fun _ _=>rfl),r3.ext (X:=C) (Y:=Y.back C) (Nat.le_refl _) (fun _ _=>rfl)⟩
 | _=>exact r
theorem VRL.back {Y C:Cx} {i:Nat}:∀ {l:List WV} {k:Nat} {s:List HV},VRL C (Pl.sl 0 i) k l s->l.all P0=true->(∀ p∈J2 l,L8 p=true)->VRL (Y.back C) (Pl.tmp i) k l s:=by
 intro l;induction l with
 | nil=>intro k s r _ _;cases s with
   | nil=>trivial
   | cons=>exact r.elim
 | cons v l ih=>intro k s r ho hv;cases s with
   | nil=>exact r.elim
   | cons a s=>
     simp only [List.all_cons,Bool.and_eq_true] at ho;exact ⟨r.1.back ho.1 (fun p b off e ek xs e'=>hv p (by simp [J2,e',A7])),ih r.2 ho.2 (fun p hp=>hv p (by simp [J2,hp]))⟩
theorem VRC.back {Y C:Cx} {i:Nat} {v:WV} {h:HV} (r:VRC C (Pl.sl 0 i) v h) (ok:A3 v=true) (hv:∀ p∈l6 v,L8 p=true):VRC (Y.back C) (Pl.tmp i) v h:=by
 cases v with
 | agg cs=>obtain ⟨hs,r1,r2⟩:=r;exact ⟨hs,r1,r2.back ok hv⟩
 | undef=>exact r
 | tup=>exact r.elim
 | lbox=>exact r.elim
 | own b e ek xs=>exact r
 | view p b off e ek xs=>exact VR1.back (i:=i) (k:=0) (v:=.view p b off e ek xs) r ok (fun p' b' off' e' ek' xs' e=>by injection e with e;subst e;exact hv _ (by simp [l6,A7]))
 | imm fz ek xs=>exact VR1.back (i:=i) (k:=0) (v:=.imm fz ek xs) r ok (fun _ _ _ _ _ _ e=>by cases e)
 | fn f a b=>exact VR1.back (i:=i) (k:=0) (v:=.fn f a b) r ok (fun _ _ _ _ _ _ e=>by cases e)
 | eptr=>cases ok
 | iptr=>cases ok
 | _=>exact r
theorem VRT.back {Y C:Cx}:∀ {l:List WV} {k:Nat} {s:List HV},VRT C (Pl.sl 0) k l s->l.all A3=true->(∀ p∈A5 l,L8 p=true)->VRT (Y.back C) Pl.tmp k l s:=by
 intro l;induction l with
 | nil=>intro k s r _ _;cases s with
   | nil=>trivial
   | cons=>exact r.elim
 | cons v l ih=>intro k s r ho hv;cases s with
   | nil=>exact r.elim
   | cons a s=>
     simp only [List.all_cons,Bool.and_eq_true] at ho;exact ⟨r.1.back ho.1 (fun p hp=>hv p (by simp [A5,hp])),ih r.2 ho.2 (fun p hp=>hv p (by simp [A5,hp]))⟩
theorem pQ {K:Pl->Bool} {pl:Pl} {v:WV} (ok:P0 v=true) (ho:d5 v=false) (hk:∀ p∈A7 v,K p=false):x8 K false pl v=v:=by
 cases v with
 | own=>cases ho
 | view p b off e ek xs=>simp only [x8,hk p (by simp [A7]),Bool.false_eq_true,if_false]
 | eptr=>cases ok
 | _=>rfl
theorem q07 {K:Pl->Bool} {q:Nat->Pl}:∀ {l:List WV} {k:Nat},l.all P0=true->l.any d5=false->(∀ p∈J2 l,K p=false)->C6 K false q k l=l:=by
 intro l;induction l with
 | nil=>intro k _ _ _;rfl
 | cons v l ih=>
   intro k h ho hk;simp only [List.all_cons,Bool.and_eq_true] at h;simp only [List.any_cons,Bool.or_eq_false_iff] at ho;simp only [C6,pQ h.1 ho.1 (fun p hp=>hk p (by simp [J2,hp])),ih h.2 ho.2 (fun p hp=>hk p (by simp [J2,hp]))]
theorem lS {K:Pl->Bool} {q:Nat->Pl} {v:WV} (ok:A3 v=true) (ho:c8 v=false) (hk:∀ p∈l6 v,K p=false):b6 K false q v=v:=by
 cases v with
 | agg cs=>simp only [b6,q07 ok ho hk]
 | own=>cases ho
 | view p b off e ek xs=>exact pQ (pl:=.tmp 0 0) (v:=.view p b off e ek xs) ok ho hk
 | eptr=>cases ok
 | _=>rfl
theorem zn4 {K:Pl->Bool} {q:Nat->Nat->Pl}:∀ {l:List WV} {k:Nat},l.all A3=true->l.any c8=false->(∀ p∈A5 l,K p=false)->C3 K false q k l=l:=by
 intro l;induction l with
 | nil=>intro k _ _ _;rfl
 | cons v l ih=>
   intro k h ho hk;simp only [List.all_cons,Bool.and_eq_true] at h;simp only [List.any_cons,Bool.or_eq_false_iff] at ho;simp only [C3,lS h.1 ho.1 (fun p hp=>hk p (by simp [A5,hp])),ih h.2 ho.2 (fun p hp=>hk p (by simp [A5,hp]))]
theorem zg6 {K:Pl->Bool} {q:Nat->Nat->Pl} {v:WV} (ok:wR v=true) (ho:y7 v=false) (hb:∀ ek w,v≠.lbox ek w) (hk:∀ p∈u4 v,K p=false):hit K false q v=v:=by
 cases v with
 | tup vs=>simp only [hit,zn4 ok ho hk]
 | lbox ek w=>exact (hb _ _ rfl).elim
 | agg cs=>exact lS (v:=.agg cs) ok ho hk
 | own=>cases ho
 | view p b off e ek xs=>exact pQ (pl:=.tmp 0 0) (v:=.view p b off e ek xs) ok ho hk
 | eptr=>cases ok
 | _=>rfl
theorem z01 {E:Env} {cw:u5} {c:j8} (hc:I4 cw c) {f:Nat} (hm:E.md f=.S) {tk:List Nat} {args:List WV} {hargs:List HV} {dst:Option Nat} {X:Cx} {w w':WFr} {W W':q8} {fr:Fr} (s:SR X w W fr) (ra:VRs X args hargs)
 (ca:∀ v∈args,yD v/\y7 v=false) (h1:(C2 tk 0 args).Nodup) (h2:(C2 tk 0 args).all (fun p=>!(X2 tk 0 args).contains p)=true) {r:WV} {W2:q8}
 (hr:cw f (L6 tk 0 args) (c6 false (C2 tk 0 args) W)=some (r,W2)) (h:((b8 L8 false (b8 (inK (C2 tk 0 args)) false w)).put dst r,W2)=(w',W')) :
 bI E c f hargs dst X fr w' W':=by
 have es:u4 (.tup (N7 tk 0 args))=C2 tk 0 args:=(ze3 tk args 0).symm;obtain ⟨m1,m2⟩:=iD (j:=0) (k:=0) tk ra ca;obtain ⟨Y,hY,st,hH,hv,_,EY⟩:=s.take (v:=.tup (N7 tk 0 args)) (h:=.tup hargs) (q:=Pl.tmp) ⟨_,rfl,m1⟩ m2 (fun _ _ e=>by cases e) (by rw [es];exact h1);rw [es] at hY;obtain ⟨hs',hv1,hv2⟩:=hv;injection hv1 with hv1;subst hv1;rw [es] at EY;have xc:=zi8 hY.ok;have ntX:∀ p,y9 p=true->X.O p=none:=by
  intro p hp;cases p with
  | tmp i k=>exact s.ht i k
  | _=>cases hp
 have argsR:SR Y.callee (a7 (L6 tk 0 args)) (c6 false (C2 tk 0 args) W) (o8 hargs):=by
  refine ⟨xc,⟨rfl,?_⟩,?_,fun _ _=>rfl⟩
  . intro t;simp only [a7,o8,z17,zp4,Nat.zero_le,if_true,Nat.sub_zero,q06,Nat.zero_add];cases ht:args[t]? with
    | none=>
      have hl:=ra.len;have:hargs[t]?=none:=by rw [List.getElem?_eq_none_iff] at ht ⊢;omega
      rw [this];exact (rfl:o9 .undef=false)
    | some v=>
      obtain ⟨a,g1,g2⟩:=ra.get ht;obtain ⟨⟨c1,c2⟩,c3⟩:=ca v (List.mem_of_getElem? ht);rw [g1];simp only [Option.map_some];obtain ⟨rc,oc⟩:=vP g2 c1 c2 c3;have nb:o9 a=false:=by
       rw [<-g2.lbox_iff];cases v with
       | lbox=>exact (c2 _ _ rfl).elim
       | _=>rfl
      apply N9;by_cases hk:tk.contains t=true
      . rw [if_pos hk];obtain ⟨a',b1,b2⟩:=hv2.get (j:=t) (c:=j6 v) (by rw [List.getElem?_map,zo3,ht];simp only [Option.map_some,Nat.zero_add,hk,if_true]);rw [g1] at b1;injection b1 with b1;subst b1;rw [Nat.zero_add] at b2;exact b2.give oc nb
      . rw [if_neg hk];refine rc.lend EY ntX hY.ok ?_;intro p hp;have hl:=zu2 (tk:=tk) (j:=0) (i:=t) ht (by rw [Nat.zero_add];simpa using hk) hp;cases hkp:inK (C2 tk 0 args) p with
        | false=>rfl
        | true=>
          have:=List.all_eq_true.1 h2 p (mem_inK.1 hkp);simp [hl] at this
  . -- the memory is the same,told by the callee's places
    refine ⟨hY.hp.n,?_⟩;intro i ek cs hi;obtain ⟨⟨hs,q1,q2⟩,q3⟩:=hY.hp.cells i ek cs hi;refine ⟨⟨hs,q1,?_⟩,q3⟩;have:∀ {l:List WV} {k:Nat} {s:List HV},VRL Y.hide (Pl.hp i) k l s->l.all E4=true->VRL Y.callee (Pl.hp i) k l s:=by
     intro l;induction l with
     | nil=>intro k s r _;cases s with
       | nil=>trivial
       | cons=>exact r.elim
     | cons v l ih=>intro k s r hl;cases s with
       | nil=>exact r.elim
       | cons a s=>
         simp only [List.all_cons,Bool.and_eq_true] at hl;refine ⟨?_,ih r.2 hl.2⟩;have r1:=r.1;cases v with
         | view=>cases hl.1
         | eptr=>cases hl.1
         | iptr=>cases hl.1
         | imm fz ek xs=>
           obtain ⟨id,ver,off,r1,fb,e,ys,q1,q2,q3,q4,q5⟩:=r1;have:fz=true:=hl.1;subst this;exact ⟨id,ver,off,r1,fb,e,ys,q1,q2,q3,q4,fun h=>by cases h⟩
         | fn f a b=>obtain ⟨a',b',r1,r2,r3⟩:=r1;exact ⟨a',b',r1,r2.ext (X:=Y.hide) (Y:=Y.callee) (Nat.le_refl _) (fun _ _=>rfl),r3.ext (X:=Y.hide) (Y:=Y.callee) (Nat.le_refl _) (fun _ _=>rfl)⟩
         | _=>exact r1
    exact this q2 q3
 obtain ⟨r1,C,k1,k2,k3,k4,k5,k6,k7⟩:=hc f _ _ r W2 hr _ _ (by rw [iV,z30 ra]) argsR;have zok:=zn6 hY.ok k2.ok k3;have rr:=k2.fr.env 0;rw [bO,uG] at rr;have vz:VR (Y.back C) Pl.tmp r r1:=by
  by_cases ht:∃ vs,r=.tup vs
  . obtain ⟨vs,rfl⟩:=ht;obtain ⟨hs,e1,e2⟩:=rr;exact ⟨hs,e1,e2.back k4 k7⟩
  . have n1:∀ vs,r≠.tup vs:=fun vs e=>ht ⟨vs,e⟩;refine N9 ((rr.toC n1 k6).back ?_ ?_)
    . revert k4
      cases r with
      | tup vs=>exact (n1 _ rfl).elim
      | _=>exact fun x=>x
    . revert k7
      cases r with
      | tup vs=>exact (n1 _ rfl).elim
      | _=>exact fun x=>x
 have EZ:Ext (fun p=>inK (C2 tk 0 args) p||L8 p) false X (Y.back C).hide:=by
  refine ⟨?_,?_,?_,?_,?_,fun h=>by cases h⟩
  . exact Nat.le_trans st.n k3.n
  . intro i hi;exact (k3.rho i (Nat.lt_of_lt_of_le hi st.n)).trans (st.rho i hi)
  . intro p hp ho;simp only [Bool.or_eq_false_iff] at hp;obtain ⟨e1,e2⟩:=EY.pl p hp.1 ho;cases p with
    | sl a b k=>exact ⟨e1,e2⟩
    | hp=>cases hp.2
    | tmp a k=>exact (ho (s.ht a k)).elim
  . intro i hi;exact EY.F i hi
  . intro id o ho hf;refine k3.rows id o ?_ ?_
    . exact st.rows id o ho hf
    . exact hf.imp (fun x=>x) (fun x=>.inl (EY.F id x))
 have hand:Hand (Y.back C) (b8 L8 false (b8 (inK (C2 tk 0 args)) false w)) W2 fr r r1:=by
  refine ⟨zok,?_,?_,fun ho=>⟨vz,k5 ho⟩,?_⟩
  . rw [z13];exact s.fr.hit EZ
  . refine ⟨k2.hp.n,?_⟩;intro i ek cs hi;obtain ⟨⟨hs,q1,q2⟩,q3⟩:=k2.hp.cells i ek cs hi;refine ⟨⟨hs,q1,?_⟩,q3⟩;have:∀ {l:List WV} {k:Nat} {s:List HV},VRL C (Pl.hp i) k l s->l.all E4=true->VRL (Y.back C).hide (Pl.hp i) k l s:=by
     intro l;induction l with
     | nil=>intro k s r _;cases s with
       | nil=>trivial
       | cons=>exact r.elim
     | cons v l ih=>intro k s r hl;cases s with
       | nil=>exact r.elim
       | cons a s=>
         simp only [List.all_cons,Bool.and_eq_true] at hl;refine ⟨?_,ih r.2 hl.2⟩;have r1:=r.1;cases v with
         | view=>cases hl.1
         | eptr=>cases hl.1
         | iptr=>cases hl.1
         | imm fz ek xs=>
           obtain ⟨id,ver,off,r1,fb,e,ys,q1,q2,q3,q4,q5⟩:=r1;have:fz=true:=hl.1;subst this;exact ⟨id,ver,off,r1,fb,e,ys,q1,q2,q3,q4,fun h=>by cases h⟩
         | fn f a b=>obtain ⟨a',b',r1,r2,r3⟩:=r1;exact ⟨a',b',r1,r2.ext (X:=C) (Y:=(Y.back C).hide) (Nat.le_refl _) (fun _ _=>rfl),r3.ext (X:=C) (Y:=(Y.back C).hide) (Nat.le_refl _) (fun _ _=>rfl)⟩
         | _=>exact r1
    exact this q2 q3
  . intro ho;have Z:Ext y9 false (Y.back C) (Y.back C).hide:=
     ⟨Nat.le_refl _,fun _ _=>rfl,fun p hp _=>⟨rfl,by simp [Cx.hide,hp]⟩,fun _ h=>h,fun _ _ h _=>h,fun h=>by cases h⟩
    have:=vz.hit Z;rw [zg6 k4 ho k6 (fun p hp=>by
     have:=k7 p hp;cases p with
     | hp=>rfl
     | _=>cases this)] at this
    exact this
 injection h with i1 i2;subst i1;subst i2;obtain ⟨Z,hZ,st2,hH2⟩:=hand.put dst;refine ⟨Z,r1,?_,hZ,?_⟩
 . unfold l0;rw [hm];simp only;rw [hH2];have:c f hargs X.H=some (r1,C.H):=by rw [<-hH];exact k1
   exact this
 . exact (st.trans (show WStp Y (Y.back C) from ⟨k3.n,k3.rho,rfl,fun id o ho hf=>k3.rows id o ho (hf.imp (fun x=>x) (fun x=>.inl x))⟩)).trans st2
end Go.Proofs.Lz
