/- Stores: what the state with slices a5 values gives, the evaluator gives. -/
import Derived.Test.YtencoceemejcnaaGreatDoorLzWOps4
namespace Go.Proofs.Lz
theorem uV {X:Cx} {q:Nat->Pl} {ek:Option Nat} {v:WV} {h:HV} (r:VRC X q v h) (hf:fitsW ek v=true):G4 ek h=true/\v≠.undef/\v≠.gone:=by
 refine ⟨?_,⟨by intro e;subst e;(cases ek<;>cases hf),by intro e;subst e;(cases ek<;>cases hf)⟩⟩;cases v with
 | c u=>
   have r':h=.c u:=r;subst r';cases ek with
   | none=>cases u<;>first | rfl | cases hf
   | some n=>exact hf
 | agg cs=>
   obtain ⟨hs,rfl,r2⟩:=r;cases ek with
   | none=>cases hf
   | some n=>
     simp only [fitsW,Bool.and_eq_true] at hf;simp only [G4,<-r2.len];exact hf.1
 | nils=>have r':h=.nils:=r;subst r';cases ek<;>first | rfl | cases hf
 | own b e ek' xs=>obtain ⟨rfl,_⟩:=r;cases ek<;>first | rfl | cases hf
 | view p b off e ek' xs=>obtain ⟨rfl,_⟩:=r;cases ek<;>first | rfl | cases hf
 | imm fz ek' xs=>obtain ⟨id,ver,off,rfl,_⟩:=r;cases ek<;>first | rfl | cases hf
 | ptr id off=>obtain ⟨rfl,_⟩:=r;cases ek<;>first | rfl | cases hf
 | fn f a b=>obtain ⟨a',b',rfl,_⟩:=r;cases ek<;>first | rfl | cases hf
 | tup=>exact r.elim
 | lbox=>exact r.elim
 | _=>cases ek<;>cases hf
theorem bD {ek:Option Nat} {v:WV} (hf:fitsW ek v=true):(∀ vs,v≠.tup vs)/\∀ ek' w,v≠.lbox ek' w:=by
 constructor
 . intro vs e;subst e;cases ek<;>cases hf
 . intro ek' w e;subst e;cases ek<;>cases hf
theorem dU {v:WV} (h1:∀ vs,v≠.tup vs) (h2:∀ ek w,v≠.lbox ek w):E5 v=s8 v/\(∀ vs,s8 v≠.tup vs)/\(∀ ek w,s8 v≠.lbox ek w)/\noView (s8 v)=O7 (s8 v):=by
 cases v with
 | tup vs=>exact (h1 _ rfl).elim
 | lbox ek w=>exact (h2 _ _ rfl).elim
 | _=>exact ⟨rfl,fun _ h=>(by cases h),fun _ _ h=>(by cases h),rfl⟩
theorem bI {ek:Option Nat} {v:WV} (hf:fitsW ek v=true):fitsW ek (s8 v)=true:=by
 have key:∀ v,cellW v=true->cellW (K3 v)=true:=by
  intro v h;cases v with
  | eptr=>cases h
  | view=>rfl
  | _=>exact h
 cases ek with
 | none=>
   cases v with
   | agg=>cases hf
   | c u=>exact hf
   | nils=>rfl
   | own=>rfl
   | view=>rfl
   | imm=>exact hf
   | ptr=>rfl
   | fn=>rfl
   | _=>cases hf
 | some n=>
   cases v with
   | c u=>exact hf
   | agg cs=>
     simp only [fitsW,s8,Bool.and_eq_true,List.all_eq_true,List.length_map,List.mem_map] at hf ⊢;refine ⟨hf.1,?_⟩;rintro x ⟨y,hy,rfl⟩;exact key y (hf.2 y hy)
   | _=>cases hf
theorem zh8 {X:Cx} (hx:XOk X) (d:Nat):XOk (X.land (S0 d))/\Ext (fun p=>(S0 d p).isSome||B5 p) false X (X.land (S0 d))/\WStp X (X.land (S0 d)):=
 Cx.land_ok hx (dec:=S0 d) (by
  intro p p' x h1 h2;cases p with
  | sl a b c=>
    cases p' with
    | sl a' b' c'=>
      simp only [S0] at h1 h2;split at h1
      . split at h2
        . rename_i e1 e2;subst e1;subst e2;rw [<-h2] at h1;injection h1 with h1;injection h1 with h1 h3;subst h1;subst h3;rfl
        . cases h2
      . cases h1
    | _=>cases h2
  | _=>cases h1) (fun i k x h=>by cases h)
theorem j00 {ek:Option Nat} {x:Opd} {dst:Option Nat} {X:Cx} {w w':WFr} {W W':q9} {fr:Fr} (s:SR X w W fr) (h:y8 (.lbox ek x) dst w W=some (w',W')):WSim (.lbox ek x) dst X w W fr w' W':=by
 simp only [y8] at h;split at h
 . rename_i d;split at h
   . rename_i hf;split at h
     . rename_i v w1 W1 ht;injection h with h;injection h with h1 h2;subst h1;subst h2;obtain ⟨hn,hr⟩:=yT ht;injection hr with hr1 hr2;injection hr2 with hr2 hr3;subst hr1;subst hr2;subst hr3;obtain ⟨sh1,sh2⟩:=bD hf;have rx:=rdR s.fr Pl.tmp x (by intro e;rw [e] at hf;cases ek<;>cases hf);obtain ⟨Y,hY,st,hH,hv,hnv,_⟩:=s.take rx (Z0 w x) sh2 hn;obtain ⟨o1,o2,o3,o4⟩:=dU sh1 sh2;rw [o1] at hv hnv hY ⊢;rw [o4] at hnv;have rc:=hv.toC o2 o3;obtain ⟨l1,l2,l3⟩:=zh8 hY.ok d;have E:=uZ l2;refine ⟨Y.land (S0 d),{ env:=upd fr.env d (.lbox ek (fr.opd x)),al:=unlink d fr.al },?_,⟨l1,⟨by show unlink d fr.al=unlink d w.al;rw [s.fr.al],?_⟩,?_,xZ (fun i k=>rfl)⟩,st.trans l3⟩
       . have hff:=(uV rc (bI hf)).1;simp only [x4];rw [if_pos hff];show some (_,X.H)=some (_,Y.H);rw [hH]
       . intro t;rw [sE] at E;simp only [upd];by_cases ht:t=d
         . subst ht;rw [if_pos rfl,if_pos rfl];exact ⟨_,rfl,rc.land l2 (fun k=>by simp [S0]) hnv⟩
         . rw [if_neg ht,if_neg ht];exact (hY.fr.hit E).env t
       . exact hY.hp.still E (fun i k=>rfl) rfl (fun i _=>rfl)
     . cases h
   . cases h
 . cases h
def I2 (id off n:Nat):Pl->Option (Nat×Nat)
 | .hp j k=>if j=id/\off<=k/\k<off+n then some (0,k - off) else none
 | _=>none
theorem j41 (id off n:Nat):(fun p=>(I2 id off n p).isSome)=mU id off n:=by
 funext p;cases p with
 | hp j k=>
   simp only [I2,mU];by_cases h1:j=id<;>by_cases h2:off<=k<;>by_cases h3:k<off+n<;>simp [h1,h2,h3]
 | _=>rfl
theorem oR {X:Cx} (hx:XOk X) (id off n:Nat) (hid:id<X.n):XOk (X.land (I2 id off n))/\Ext (fun p=>(I2 id off n p).isSome||B5 p) false X (X.land (I2 id off n))/\WStp X (X.land (I2 id off n)):=
 Cx.land_ok hx (dec:=I2 id off n) (by
  intro p p' x h1 h2;cases p with
  | hp a b=>
    cases p' with
    | hp a' b'=>
      simp only [I2] at h1 h2;split at h1
      . split at h2
        . rename_i e1 e2;obtain ⟨e1,e3,e4⟩:=e1;obtain ⟨e2,e5,e6⟩:=e2;subst e1;subst e2;rw [<-h2] at h1;simp only [Option.some.injEq,Prod.mk.injEq,true_and] at h1;have:b=b':=by omega
          rw [this]
        . cases h2
      . cases h1
    | _=>cases h2
  | _=>cases h1) (fun i k x h=>by
  simp only [I2] at h;split at h
  . rename_i e;rw [e.1];exact hid
  . cases h)
theorem VRL.land' {X:Cx} {dec:Pl->Option (Nat×Nat)} (E:Ext (fun p=>(dec p).isSome||B5 p) false X (X.land dec)) {i:Nat} {q':Nat->Pl} :
 ∀ {l:List WV} {k k':Nat} {s:List HV},VRL X (Pl.tmp i) k l s->l.all W3=true->(∀ j,j<l.length->dec (q' (k'+j))=some (i,k+j))->VRL (X.land dec) q' k' l s:=by
 intro l;induction l with
 | nil=>intro k k' s h _ _;cases s with
   | nil=>trivial
   | cons=>exact h.elim
 | cons v l ih=>intro k k' s h nv hd;cases s with
   | nil=>exact h.elim
   | cons a s=>
     simp only [List.all_cons,Bool.and_eq_true] at nv;refine ⟨h.1.land E (hd 0 (by simp)) nv.1,ih h.2 nv.2 ?_⟩;intro j hj;have:=hd (j+1) (by simp;omega);rw [show k'+(j+1)=k'+1+j by omega,show k+(j+1)=k+1+j by omega] at this;exact this
theorem dN {v:WV} (h:O7 v=true):v.flat.all W3=true:=by
 cases v with
 | agg cs=>exact h
 | c u=>cases u<;>simp [WV.flat,W3]
 | view=>cases h
 | eptr=>cases h
 | _=>rfl
theorem z84 {ek:Option Nat} {v:WV} (hf:fitsW ek v=true) (nv:O7 v=true):v.flat.all P2=true:=by
 have key:∀ v,cellW v=true->W3 v=true->P2 v=true:=by
  intro v h n;cases v with
  | c u=>rfl
  | view=>cases n
  | gone=>cases h
  | _=>exact h
 cases v with
 | c u=>cases u<;>simp [WV.flat,P2]
 | agg cs=>
   cases ek with
   | none=>cases hf
   | some n=>
     simp only [fitsW,Bool.and_eq_true,List.all_eq_true] at hf;simp only [O7,List.all_eq_true] at nv;simp only [WV.flat,List.all_eq_true];exact fun x hx=>key x (hf.2 x hx) (nv x hx)
 | nils=>rfl
 | own=>rfl
 | imm fz ek' xs=>cases ek<;>simp [fitsW,cellW] at hf;subst hf;rfl
 | ptr=>rfl
 | fn=>rfl
 | view=>cases nv
 | eptr=>cases nv
 | _=>cases ek<;>cases hf
theorem j83 {ek:Option Nat} {x:Opd} {dst:Option Nat} {X:Cx} {w w':WFr} {W W':q9} {fr:Fr} (s:SR X w W fr) (h:y8 (.hbox ek x) dst w W=some (w',W')):WSim (.hbox ek x) dst X w W fr w' W':=by
 simp only [y8] at h;split at h
 . rename_i hf;split at h
   . rename_i v w1 W1 ht;injection h with h;injection h with h1 h2;subst h1;subst h2;obtain ⟨hn,hr⟩:=yT ht;injection hr with hr1 hr2;injection hr2 with hr2 hr3;subst hr1;subst hr2;subst hr3;obtain ⟨sh1,sh2⟩:=bD hf;have rx:=rdR s.fr Pl.tmp x (by intro e;rw [e] at hf;cases ek<;>cases hf);obtain ⟨Y,hY,st,hH,hv,hnv,_⟩:=s.take rx (Z0 w x) sh2 hn;obtain ⟨o1,o2,o3,o4⟩:=dU sh1 sh2;rw [o1] at hv hnv hY ⊢;rw [o4] at hnv;have rc:=hv.toC o2 o3;have hff:=bI hf;obtain ⟨f1,f2,f3⟩:=uV rc hff;have hlen:Y.n=(D8 false (B6 (w.rd x)) W).length:=hY.hp.n;generalize hW:D8 false (B6 (w.rd x)) W=V at hY hlen ⊢;generalize hw:D1 (inK (B6 (w.rd x))) false w=u at hY ⊢;let Y1:Cx:={ Y with n:=Y.n+1,rho:=fun i=>if i=Y.n then Y.H.length else Y.rho i,H:=Y.H++[.var ek (fr.opd x).flat] }
     have rlt:∀ i,i<Y.n->Y.rho i<Y.H.length:=by
      intro i hi;have hlt:i<V.length:=by rw [<-hlen];exact hi
      cases hV:V[i] with
      | var ek' cs=>
        have hg:V[i]?=some (.var ek' cs):=by rw [gEg hlt,hV]
        obtain ⟨⟨hs,c1,_⟩,_⟩:=hY.hp.cells i ek' cs hg;exact (gEs c1).1
     have E1:Ext (fun _=>false) false Y Y1:=⟨Nat.le_succ _,fun i hi=>by
      show (if i=Y.n then _ else _)=Y.rho i;rw [if_neg (Nat.ne_of_lt hi)],fun _ _ _=>⟨rfl,rfl⟩,fun _ h=>h,fun id r hr _=>vB hr,fun h=>by cases h⟩
     have x1:XOk Y1:=by
      refine ⟨?_,hY.ok.dis,hY.ok.nf,?_,?_,fun i k hi=>hY.ok.hz i k (Nat.le_of_succ_le hi)⟩
      . intro p b e ek' xs hp;obtain ⟨ys,r1,r2⟩:=hY.ok.own p b e ek' xs hp;exact ⟨ys,vB r1,r2⟩
      . intro i j hi hj he;simp only [Y1] at he hi hj;by_cases h1:i=Y.n
        . by_cases h2:j=Y.n
          . rw [h1,h2]
          . rw [if_pos h1,if_neg h2] at he;have:=rlt j (by omega);omega
        . by_cases h2:j=Y.n
          . rw [if_neg h1,if_pos h2] at he;have:=rlt i (by omega);omega
          . rw [if_neg h1,if_neg h2] at he;exact hY.ok.rinj i j (by omega) (by omega) he
      . intro i hi;obtain ⟨a,b,c,d,e,hr⟩:=hY.ok.fl i hi;exact ⟨a,b,c,d,e,vB hr⟩
     obtain ⟨l1,l2,l3⟩:=oR x1 Y.n 0 (s8 (w.rd x)).flat.length (Nat.lt_succ_self _);have s1:WStp Y Y1:=⟨E1.n,E1.rho,rfl,E1.rows⟩;have E0:Ext (fun _=>false) false Y.hide (Y1.land (I2 Y.n 0 (s8 (w.rd x)).flat.length)):=by
      refine ⟨Nat.le_succ _,fun i hi=>E1.rho i hi,?_,fun _ h=>h,fun id r hr _=>vB hr,fun h=>by cases h⟩;intro p _ ho;have hnt:B5 p=false:=by
       cases h:B5 p with
       | false=>rfl
       | true=>simp only [Cx.hide,h,if_true] at ho;exact (ho rfl).elim
      have hd:I2 Y.n 0 (s8 (w.rd x)).flat.length p=none:=by
       cases p with
       | hp i k=>
         simp only [I2];split
         . rename_i e;simp only [Cx.hide,B5,Bool.false_eq_true,if_false,e.1,hY.ok.hz Y.n k (Nat.le_refl _)] at ho;exact (ho rfl).elim
         . rfl
       | _=>rfl
      have:=l2.pl p (by simp [hd,hnt]) (by simpa [Cx.hide,hnt] using ho);exact ⟨this.1,by rw [this.2];simp [Cx.hide,hnt,Y1]⟩
     have hp':HpR (Y1.land (I2 Y.n 0 (s8 (w.rd x)).flat.length)) (V++[.var ek (s8 (w.rd x)).flat]):=by
      refine ⟨by show Y.n+1=_;simp [hlen],?_⟩;intro i ek' cs hi;by_cases hlt:i<V.length
      . rw [List.getElem?_append_left hlt] at hi;obtain ⟨⟨hs,c1,c2⟩,c3⟩:=hY.hp.cells i ek' cs hi;have hin:i<Y.n:=by rw [hlen];exact hlt
        refine ⟨⟨hs,?_,c2.still E0 (fun _=>rfl) c3⟩,c3⟩;show (Y.H++_)[if i=Y.n then _ else _]?=_;rw [if_neg (Nat.ne_of_lt hin)];exact vB c1
      . have hge:V.length<=i:=Nat.le_of_not_lt hlt;rw [List.getElem?_append_right hge] at hi;have:i - V.length=0:=by
         cases hk:i - V.length with
         | zero=>rfl
         | succ k=>rw [hk] at hi;simp at hi
        rw [this] at hi;simp only [List.getElem?_cons_zero,Option.some.injEq,WO.var.injEq] at hi;obtain ⟨rfl,rfl⟩:=hi;have hie:i=Y.n:=by omega
        subst hie;refine ⟨⟨(fr.opd x).flat,?_,?_⟩,z84 hff hnv⟩
        . show (Y.H++_)[if Y.n=Y.n then _ else _]?=_;rw [if_pos rfl];simp
        . have r1:VRL Y1 (Pl.tmp 0) 0 (s8 (w.rd x)).flat (fr.opd x).flat:=by
           have:=(vY rc f2 f3).hit E1;rw [kC] at this;exact this
          exact r1.land' l2 (q':=Pl.hp Y.n) (k':=0) (dN hnv) (by
           intro j hj;simp only [I2,Nat.zero_add];rw [if_pos ⟨trivial,Nat.zero_le _,hj⟩];rfl)
     have sz:SR (Y1.land (I2 Y.n 0 (s8 (w.rd x)).flat.length)) u (V++[.var ek (s8 (w.rd x)).flat]) fr:=by
      refine ⟨l1,?_,hp',xZ (fun i k=>rfl)⟩;have:=hY.fr.hit E0;rw [dS] at this;exact this
     refine ⟨Y1.land (I2 Y.n 0 (s8 (w.rd x)).flat.length),fr.put dst (.ptr X.H.length 0),?_,?_,(st.trans s1).trans l3⟩
     . simp only [x4];rw [if_pos f1];show some (_,X.H++_)=some (_,Y.H++_);rw [hH]
     . refine sz.put (q:=Pl.tmp) ?_ rfl;refine ⟨?_,by show V.length<Y.n+1;omega⟩;show HV.ptr X.H.length 0=HV.ptr (if V.length=Y.n then Y.H.length else _) 0;rw [if_pos hlen.symm,hH]
   . cases h
 . cases h
end Go.Proofs.Lz
namespace Go.Proofs.Lz
def Z9 (b off n:Nat):Pl->Option (Nat×Nat)
 | .sl s i k=>if s=b/\i=0/\off<=k/\k<off+n then some (0,k - off) else none
 | _=>none
theorem jg2 (b off n:Nat):(fun p=>(Z9 b off n p).isSome)=xJ b off n:=by
 funext p;cases p with
 | sl s i k=>
   simp only [Z9,xJ];by_cases h1:s=b<;>by_cases h2:off<=k<;>by_cases h3:k<off+n<;>by_cases h4:i=0<;>simp [h1,h2,h3,h4]
 | _=>rfl
theorem j26 {X:Cx} (hx:XOk X) (b off n:Nat):XOk (X.land (Z9 b off n))/\Ext (fun p=>(Z9 b off n p).isSome||B5 p) false X (X.land (Z9 b off n))/\WStp X (X.land (Z9 b off n)):=
 Cx.land_ok hx (dec:=Z9 b off n) (by
  intro p p' x h1 h2;cases p with
  | sl a i k=>
    cases p' with
    | sl a' i' k'=>
      simp only [Z9] at h1 h2;split at h1
      . split at h2
        . rename_i e1 e2;obtain ⟨e1,e3,e4,e7⟩:=e1;obtain ⟨e2,e5,e6,e8⟩:=e2;subst e1;subst e2;subst e3;subst e5;rw [<-h2] at h1;simp only [Option.some.injEq,Prod.mk.injEq,true_and] at h1;have:k=k':=by omega
          rw [this]
        . cases h2
      . cases h1
    | _=>cases h2
  | _=>cases h1) (fun i k x h=>by cases h)
theorem VRL.still2 {K:Pl->Bool} {fz:Bool} {X Y:Cx} (E:Ext K fz X Y) {q:Nat->Pl}:∀ {l:List WV} {k:Nat} {s:List HV},VRL X q k l s->l.all W3=true->(∀ j,j<l.length->K (q (k+j))=false)->VRL Y q k l s:=by
 intro l;induction l with
 | nil=>intro k s h _ _;cases s with
   | nil=>trivial
   | cons=>exact h.elim
 | cons v l ih=>intro k s h hc hk;cases s with
   | nil=>exact h.elim
   | cons a s=>
     simp only [List.all_cons,Bool.and_eq_true] at hc;refine ⟨?_,ih h.2 hc.2 ?_⟩
     . have hv:=h.1.hit E;have hk0:=hk 0 (by simp);rw [Nat.add_zero] at hk0;revert hv
       cases v with
       | own b e ek xs=>simp only [l8,hk0,Bool.false_eq_true,if_false];exact fun x=>x
       | view=>cases hc.1
       | eptr=>cases hc.1
       | _=>exact fun x=>x
     . intro j hj;have:=hk (j+1) (by simp;omega);rw [show k+(j+1)=k+1+j by omega] at this;exact this
theorem zf3 {l:List WV} (h:l.all P2=true):l.all W3=true:=by
 simp only [List.all_eq_true] at h ⊢;intro x hx;have:=h x hx;cases x with
 | view=>cases this
 | eptr=>cases this
 | _=>rfl
theorem oP {X:Cx} {q:Nat->Pl} {v:WV} {h:HV} (r:VR1 X (q 0) v h):VRC X q v h:=by
 cases v with
 | agg=>exact r.elim
 | undef=>exact r.elim
 | _=>exact r
theorem q53 {X:Cx} {q:Nat->Pl} {ek:Option Nat} {cs:List WV} {hs:List HV} {v:WV} (r:VRL X q 0 cs hs) (h:mP ek cs=some v):∃ a,wH ek hs=some a/\VRC X q v a:=by
 cases ek with
 | none=>
   obtain ⟨a,h1,h2⟩:=r.get (show cs[0]?=some v from h);exact ⟨a,h1,oP h2⟩
 | some n=>
   injection h with h;subst h;refine ⟨_,rfl,?_⟩;unfold Z1 X0;rw [z94 r];cases F5 hs with
   | some l=>exact rfl
   | none=>exact ⟨hs,rfl,r⟩
theorem aL {α:Type} {f:α->Bool} {l:List α} (n:Nat) (h:l.all f=true):(l.take n).all f=true:=by
 rw [List.all_eq_true] at h ⊢;exact fun x hx=>h x (List.mem_of_mem_take hx)
theorem lG {α:Type} {f:α->Bool} {l:List α} (n:Nat) (h:l.all f=true):(l.drop n).all f=true:=by
 rw [List.all_eq_true] at h ⊢;exact fun x hx=>h x (List.mem_of_mem_drop hx)
theorem qd3 {ek:Option Nat} {a x:Opd} {dst:Option Nat} {X:Cx} {w w':WFr} {W W':q9} {fr:Fr} (s:SR X w W fr) {b off:Nat} (hp:fr.place a=some (b,off)) (h:y8 (.store ek a x) dst w W=some (w',W')):WSim (.store ek a x) dst X w W fr w' W':=by
 simp only [y8] at h;rw [jB s.fr,hp] at h;simp only at h;split at h
 . rename_i hf;split at h
   . cases h
   . rename_i v w1 W1 ht;obtain ⟨hn,hr⟩:=yT ht;injection hr with hr1 hr2;injection hr2 with hr2 hr3;subst hr1;subst hr2;subst hr3;obtain ⟨sh1,sh2⟩:=bD hf;have rx:=rdR s.fr Pl.tmp x (by intro e;rw [e] at hf;cases ek<;>cases hf);obtain ⟨Y,hY,st,hH,hv,hnv,_⟩:=s.take rx (Z0 w x) sh2 hn;obtain ⟨o1,o2,o3,o4⟩:=dU sh1 sh2;rw [o1] at hv hnv hY h;rw [o4] at hnv;have rc:=hv.toC o2 o3;obtain ⟨f1,f2,f3⟩:=uV rc (bI hf);split at h
     . rename_i ek' x0 hb;have rb:=hY.fr.env b;rw [hb] at rb;obtain ⟨x1,e1,r0⟩:=rb;split at h
       . rename_i hc;injection h with h;injection h with h1 h2;subst h1;subst h2;obtain ⟨l1,l2,l3⟩:=zh8 hY.ok b;have E:=uZ l2;refine ⟨Y.land (S0 b),{ fr with env:=upd fr.env b (.lbox ek' (fr.opd x)) },?_,⟨l1,⟨hY.fr.al,?_⟩,hY.hp.still E (fun i k=>rfl) rfl (fun i _=>rfl),xZ (fun i k=>rfl)⟩,st.trans l3⟩
         . simp only [x4,hp,e1];rw [if_pos f1,if_pos hc];show some (_,X.H)=some (_,Y.H);rw [hH]
         . intro t;rw [sE] at E;simp only [upd];by_cases ht:t=b
           . subst ht;rw [if_pos rfl,if_pos rfl];exact ⟨_,rfl,rc.land l2 (fun k=>by simp [S0]) hnv⟩
           . rw [if_neg ht,if_neg ht];exact (hY.fr.hit E).env t
       . rename_i hc;split at h
         . rename_i hl;obtain ⟨hl1,hl2,hl3⟩:=hl;split at h
           . rename_i x' hx';split at h
             . rename_i hf';injection h with h;injection h with h1 h2;subst h1;subst h2;obtain ⟨l1,l2,l3⟩:=j26 hY.ok b off (s8 (w.rd x)).flat.length;have E:=uZ l2;have u0:x0≠.undef:=by intro e;rw [e] at hl3;cases hl3
               have g0:x0≠.gone:=by intro e;rw [e] at hl3;cases hl3
               have rf:=vY r0 u0 g0;have rn:=vY rc f2 f3;have en:(s8 (w.rd x)).flat.length=(fr.opd x).flat.length:=rn.len;have e0:=rf.len;have nvx:=dN hl2;have p1:=(rf.take off).still2 E (aL off nvx) (by
                intro j hj;simp only [List.length_take] at hj;simp only [Z9];rw [if_neg (by omega)];rfl)
               have p2:=rn.land' l2 (q':=Pl.sl b 0) (k':=off) (dN hnv) (by
                intro j hj;simp only [Z9];rw [if_pos ⟨trivial,trivial,by omega,by omega⟩];congr 2;omega)
               have p3:=(rf.drop (off+(s8 (w.rd x)).flat.length)).still2 E (lG _ nvx) (by
                intro j hj;simp only [Z9];rw [if_neg (by omega)];rfl)
               have lt:(x0.flat.take off).length=off:=by simp only [List.length_take];omega
               have p12:=p1.append (by rw [lt,Nat.zero_add];exact p2);have p123:=p12.append (l':=x0.flat.drop (off+(s8 (w.rd x)).flat.length)) (s':=x1.flat.drop (off+(s8 (w.rd x)).flat.length)) (by
                rw [List.length_append,lt,Nat.zero_add];rw [Nat.zero_add] at p3;exact p3)
               obtain ⟨y,y1,y2⟩:=q53 (v:=x') p123 hx';have fy:=(uV y2 hf').1;refine ⟨Y.land (Z9 b off (s8 (w.rd x)).flat.length),{ fr with env:=upd fr.env b (.lbox ek' y) },?_,⟨l1,⟨hY.fr.al,?_⟩,hY.hp.still E (fun i k=>rfl) rfl (fun i _=>rfl),xZ (fun i k=>rfl)⟩,st.trans l3⟩
               . simp only [x4,hp,e1];rw [if_pos f1,if_neg hc,if_pos (by omega)];have ey:wH ek' (H9 x1.flat off (fr.opd x).flat)=some y:=by rw [<-y1];simp only [H9,en]
                 rw [ey];simp only;rw [if_pos fy];show some (_,X.H)=some (_,Y.H);rw [hH]
               . intro t;rw [jg2] at E;simp only [upd];by_cases ht:t=b
                 . subst ht;rw [if_pos rfl,if_pos rfl];exact ⟨_,rfl,y2⟩
                 . rw [if_neg ht,if_neg ht];exact (hY.fr.hit E).env t
             . cases h
           . cases h
         . cases h
     . cases h
 . cases h
theorem zb8 {P:Cx} (x:XOk P) {r:Nat} {ek:Option Nat} {hs hs':List HV} (h:P.H[r]?=some (.var ek hs)) :
 XOk { P with H:=P.H.set r (.var ek hs') }/\Ext (fun _=>false) false P { P with H:=P.H.set r (.var ek hs') }/\WStp P { P with H:=P.H.set r (.var ek hs') }:=by
 have rowne:∀ (j:Nat) (fz:Bool) (e:Nat) (ek':Option Nat) (ver:Nat) (xs:List CV),P.H[j]?=some (HO.row fz e ek' ver xs)->(P.H.set r (.var ek hs'))[j]?=some (HO.row fz e ek' ver xs):=by
  intro j fz e ek' ver xs hj;rw [zA]
  . exact hj
  . intro e;subst e;rw [h] at hj;cases hj
 have keep:∀ (j:Nat) (o:HO),P.H[j]?=some o->(jS o\/P.F j)->(P.H.set r (.var ek hs'))[j]?=some o:=by
  intro j o ho hf;rcases hf with hf | hf
  . obtain ⟨e,ek',ver,xs,rfl⟩:=hf;exact rowne _ _ _ _ _ _ ho
  . obtain ⟨a,b,c,d,e,hr⟩:=x.fl j hf;rw [hr] at ho;injection ho with ho;subst ho;exact rowne _ _ _ _ _ _ hr
 refine ⟨⟨?_,x.dis,x.nf,x.rinj,?_,x.hz⟩,⟨Nat.le_refl _,fun _ _=>rfl,fun _ _ _=>⟨rfl,rfl⟩,fun _ h=>h,keep,fun h=>by cases h⟩,⟨Nat.le_refl _,fun _ _=>rfl,rfl,keep⟩⟩
 . intro p b e ek' xs hp;obtain ⟨ys,r1,r2⟩:=x.own p b e ek' xs hp;exact ⟨ys,rowne _ _ _ _ _ _ r1,r2⟩
 . intro i hi;obtain ⟨a,b,c,d,e,hr⟩:=x.fl i hi;exact ⟨a,b,c,d,e,rowne _ _ _ _ _ _ hr⟩
theorem HpR.upd {K:Pl->Bool} {X Y:Cx} (E:Ext K false X Y) (hx:XOk X) {V:q9} (h:HpR X V) {id:Nat} {ek:Option Nat} {cs cs':List WV} {hs hs':List HV} (hid:V[id]?=some (.var ek cs)) (hn:Y.n=X.n)
 (hk:∀ i k,i≠id->K (.hp i k)=false) (hH:Y.H=X.H.set (X.rho id) (.var ek hs')) (hc:X.H[X.rho id]?=some (.var ek hs)) (r:VRL Y (Pl.hp id) 0 cs' hs') (c:cs'.all P2=true):HpR Y (V.set id (.var ek cs')):=by
 have hlt:=(gEs hid).1;have hltn:id<X.n:=by rw [h.n];exact hlt
 refine ⟨by rw [hn,h.n,List.length_set],?_⟩;intro i ek2 cs2 hi;by_cases he:i=id
 . subst he;rw [List.getElem?_set_self hlt] at hi;injection hi with hi;injection hi with h1 h2;subst h1;subst h2;refine ⟨⟨hs',?_,r⟩,c⟩;rw [E.rho i hltn,hH];exact List.getElem?_set_self (gEs hc).1
 . rw [zA (fun e=>he e.symm)] at hi;obtain ⟨⟨gs,c1,c2⟩,c3⟩:=h.cells i ek2 cs2 hi;have hin:i<X.n:=by rw [h.n];exact (gEs hi).1
   refine ⟨⟨gs,?_,c2.still E (fun k=>hk i k he) c3⟩,c3⟩;rw [E.rho i hin,hH,zA]
   . exact c1
   . intro e;exact he (hx.rinj _ _ hin hltn e.symm)
theorem qs3 {ek:Option Nat} {id off:Nat} {x:Opd} {X:Cx} {w w':WFr} {W W':q9} {fr:Fr} (s:SR X w W fr) {p:HV} (hp:p=.ptr (X.rho id) off) (hidX:id<X.n) (h:vX ek (.ptr id off) (w.rd x) w W=some (w',W')) :
 ∃ Y,T0 ek p (fr.opd x) X.H=some Y.H/\SR Y w' W' fr/\WStp X Y:=by
 simp only [vX] at h;split at h
 . rename_i hf;split at h
   . cases h
   . rename_i v w1 W1 ht;obtain ⟨hn,hr⟩:=yT ht;injection hr with hr1 hr2;injection hr2 with hr2 hr3;subst hr1;subst hr2;subst hr3;obtain ⟨sh1,sh2⟩:=bD hf;have rx:=rdR s.fr Pl.tmp x (by intro e;rw [e] at hf;cases ek<;>cases hf);obtain ⟨Y,hY,st,hH,hv,hnv,_⟩:=s.take rx (Z0 w x) sh2 hn;obtain ⟨o1,o2,o3,o4⟩:=dU sh1 sh2;rw [o1] at hv hnv hY h;rw [o4] at hnv;have rc:=hv.toC o2 o3;have hff:=bI hf;obtain ⟨f1,f2,f3⟩:=uV rc hff;generalize D8 false (B6 (w.rd x)) W=V at h hY;generalize D1 (inK (B6 (w.rd x))) false w=u at h hY;split at h
     . rename_i ek' cs hid;split at h
       . rename_i hl;injection h with h;injection h with h1 h2;subst h1;subst h2;obtain ⟨⟨hs,c1,c2⟩,c3⟩:=hY.hp.cells id ek' cs hid;have hn0:Y.n=V.length:=hY.hp.n;have hidn:id<Y.n:=by rw [hn0];exact (gEs hid).1
         have rn:=vY rc f2 f3;have en:=rn.len;have e0:=c2.len;have rhoe:X.rho id=Y.rho id:=(st.rho id hidX).symm;have nvf:=dN hnv;have chf:=z84 hff hnv;have lt:(cs.take off).length=off:=by simp only [List.length_take];omega
         have chs:(R2 cs off (s8 (w.rd x)).flat).all P2=true:=by
          simp only [R2,List.all_append,aL off c3,chf,lG _ c3,Bool.and_self]
         have hst:∀ Z:Cx,Z.H=Y.H.set (Y.rho id) (.var ek' (H9 hs off (fr.opd x).flat))->T0 ek p (fr.opd x) X.H=some Z.H:=by
          intro Z hZ;have c1':X.H[X.rho id]?=some (.var ek' hs):=by rw [rhoe,<-hH];exact c1
          rw [hp,hZ];simp only [T0,c1'];rw [if_pos ⟨f1,by omega⟩,rhoe,hH]
         cases ho:(s8 (w.rd x)).flat.any D3 with
         | true=>
           simp only [if_true];obtain ⟨l1,l2,l3⟩:=oR hY.ok id off (s8 (w.rd x)).flat.length hidn;have E:=uZ l2;have c1':(Y.land (I2 id off (s8 (w.rd x)).flat.length)).H[Y.rho id]?=some (.var ek' hs):=c1;obtain ⟨m1,m2,m3⟩:=zb8 l1 (hs':=H9 hs off (fr.opd x).flat) c1';have EZ:Ext (fun p=>(I2 id off (s8 (w.rd x)).flat.length p).isSome) false Y.hide { (Y.land (I2 id off (s8 (w.rd x)).flat.length)) with H:=Y.H.set (Y.rho id) (.var ek' (H9 hs off (fr.opd x).flat)) }:=
            ⟨Nat.le_refl _,fun _ _=>rfl,fun p a b=>E.pl p a b,fun _ h=>h,fun i r a b=>m2.rows i r a b,fun h=>by cases h⟩
           refine ⟨{ (Y.land (I2 id off (s8 (w.rd x)).flat.length)) with H:=Y.H.set (Y.rho id) (.var ek' (H9 hs off (fr.opd x).flat)) },hst _ rfl,⟨m1,?_,?_,fun i k=>(show (Y.land (I2 id off (s8 (w.rd x)).flat.length)).O (.tmp i k)=none from xZ (fun _ _=>rfl) i k)⟩,(st.trans l3).trans m3⟩
           . have:=hY.fr.hit EZ;rw [j41] at this;exact this
           . refine hY.hp.upd EZ hY.ok.hide hid rfl ?_ rfl c1 ?_ chs
             . intro i k hi;simp only [I2];rw [if_neg (fun h=>hi h.1)];rfl
             . have p1:=(c2.take off).still2 EZ (aL off (zf3 c3)) (by
                intro j hj;simp only [List.length_take] at hj;simp only [I2];rw [if_neg (by omega)];rfl)
               have p2a:=rn.land' l2 (q':=Pl.hp id) (k':=off) nvf (by
                intro j hj;simp only [I2];rw [if_pos ⟨trivial,by omega,by omega⟩];congr 2;omega)
               have p2:=p2a.hit m2;rw [kC] at p2;have p3:=(c2.drop (off+(s8 (w.rd x)).flat.length)).still2 EZ (lG _ (zf3 c3)) (by
                intro j hj;simp only [I2];rw [if_neg (by omega)];rfl)
               have p12:=p1.append (by rw [lt,Nat.zero_add];exact p2);have p123:=p12.append (l':=cs.drop (off+(s8 (w.rd x)).flat.length)) (s':=hs.drop (off+(s8 (w.rd x)).flat.length)) (by
                rw [List.length_append,lt,Nat.zero_add];rw [Nat.zero_add] at p3;exact p3)
               have e:H9 hs off (fr.opd x).flat=hs.take off++(fr.opd x).flat++hs.drop (off+(s8 (w.rd x)).flat.length):=by simp only [H9,<-en]
               exact Eq.mpr (congrArg (VRL _ (Pl.hp id) 0 _) e) p123
         | false=>
           simp only [Bool.false_eq_true,if_false];have c1':Y.hide.H[Y.rho id]?=some (.var ek' hs):=c1;obtain ⟨m1,m2,m3⟩:=zb8 hY.ok.hide (hs':=H9 hs off (fr.opd x).flat) c1';refine ⟨{ Y.hide with H:=Y.H.set (Y.rho id) (.var ek' (H9 hs off (fr.opd x).flat)) },hst _ rfl,⟨m1,?_,?_,fun i k=>rfl⟩,(st.trans (show WStp Y Y.hide from ⟨Nat.le_refl _,fun _ _=>rfl,rfl,fun _ _ h _=>h⟩)).trans m3⟩
           . have:=hY.fr.hit m2;rw [dS] at this;exact this
           . refine hY.hp.upd m2 hY.ok.hide hid rfl (fun _ _ _=>rfl) rfl c1 ?_ chs;have vh:VR Y.hide Pl.tmp (s8 (w.rd x)) (fr.opd x):=hY.vf (by
              have:F8 (s8 (w.rd x))=false:=by
               revert ho
               cases s8 (w.rd x) with
               | agg cs=>exact fun x=>x
               | own=>intro h;cases h
               | c u=>intro _;rfl
               | _=>intro _;rfl
              revert this o2 o3
              cases s8 (w.rd x) with
              | tup vs=>intro o2 o3 _;exact (o2 _ rfl).elim
              | lbox ek w=>intro o2 o3 _;exact (o3 _ _ rfl).elim
              | _=>intro _ _ h;exact h)
             have rnh:=vY (vh.toC o2 o3) f2 f3;have q1:=c2.hit m2;rw [kC] at q1;have q2:=rnh.hit m2;rw [kC] at q2;have p12:=(q1.take off).append (q2.any ho (q':=Pl.hp id) (k':=0+(cs.take off).length));have p123:=p12.append (l':=cs.drop (off+(s8 (w.rd x)).flat.length)) (s':=hs.drop (off+(s8 (w.rd x)).flat.length)) (by
              rw [List.length_append,lt];exact q1.drop _)
             have e:H9 hs off (fr.opd x).flat=hs.take off++(fr.opd x).flat++hs.drop (off+(s8 (w.rd x)).flat.length):=by simp only [H9,<-en]
             exact Eq.mpr (congrArg (VRL _ (Pl.hp id) 0 _) e) p123
       . cases h
     . cases h
 . cases h
end Go.Proofs.Lz
