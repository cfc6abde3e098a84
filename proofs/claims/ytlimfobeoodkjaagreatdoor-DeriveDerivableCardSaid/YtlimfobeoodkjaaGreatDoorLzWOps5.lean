/- Boxes and stores: what the state with slices a5 values gives, the evaluator gives. -/
import Derived.Test.YtlimfobeoodkjaaGreatDoorLzWOps4
namespace Go.Proofs.Lz
theorem jH {X:Cx} {q:Nat->Pl} {ek:Option Nat} {v:WV} {h:HV} (r:VRC X q v h) (hf:fitsW ek v=true):s5 ek h=true/\v≠.undef/\v≠.gone:=by
 refine ⟨?_,⟨by intro e;subst e;(cases ek<;>cases hf),by intro e;subst e;(cases ek<;>cases hf)⟩⟩;cases v with
 | c u=>
   have r':h=.c u:=r;subst r';cases ek with
   | none=>cases u<;>first | rfl | cases hf
   | some n=>exact hf
 | agg cs=>
   obtain ⟨hs,rfl,r2⟩:=r;cases ek with
   | none=>cases hf
   | some n=>
     simp only [fitsW,Bool.and_eq_true] at hf;simp only [s5,<-r2.len];exact hf.1
 | nils=>have r':h=.nils:=r;subst r';cases ek<;>first | rfl | cases hf
 | own b e ek' xs=>obtain ⟨rfl,_⟩:=r;cases ek<;>first | rfl | cases hf
 | view p b off e ek' xs=>obtain ⟨rfl,_⟩:=r;cases ek<;>first | rfl | cases hf
 | imm fz ek' xs=>obtain ⟨id,ver,off,rfl,_⟩:=r;cases ek<;>first | rfl | cases hf
 | ptr id off=>obtain ⟨rfl,_⟩:=r;cases ek<;>first | rfl | cases hf
 | fn f a b=>obtain ⟨a',b',rfl,_⟩:=r;cases ek<;>first | rfl | cases hf
 | tup=>exact r.elim
 | lbox=>exact r.elim
 | _=>cases ek<;>cases hf
theorem xW {ek:Option Nat} {v:WV} (hf:fitsW ek v=true):(∀ vs,v≠.tup vs)/\∀ ek' w,v≠.lbox ek' w:=by
 constructor
 . intro vs e;subst e;cases ek<;>cases hf
 . intro ek' w e;subst e;cases ek<;>cases hf
theorem vW {v:WV} (h1:∀ vs,v≠.tup vs) (h2:∀ ek w,v≠.lbox ek w):s4 v=j6 v/\(∀ vs,j6 v≠.tup vs)/\(∀ ek w,j6 v≠.lbox ek w)/\noView (j6 v)=E8 (j6 v):=by
 cases v with
 | tup vs=>exact (h1 _ rfl).elim
 | lbox ek w=>exact (h2 _ _ rfl).elim
 | _=>exact ⟨rfl,fun _ h=>(by cases h),fun _ _ h=>(by cases h),rfl⟩
theorem vE {ek:Option Nat} {v:WV} (hf:fitsW ek v=true):fitsW ek (j6 v)=true:=by
 have key:∀ v,cellW v=true->cellW (B6 v)=true:=by
  intro v h;cases v with
  | eptr=>cases h
  | view=>rfl
  | _=>exact h
 cases ek with
 | none=>
   cases v with
   | agg=>cases hf
   | c u=>exact hf
   | nils=>rfl
   | own=>rfl
   | view=>rfl
   | imm=>exact hf
   | ptr=>rfl
   | fn=>rfl
   | _=>cases hf
 | some n=>
   cases v with
   | c u=>exact hf
   | agg cs=>
     simp only [fitsW,j6,Bool.and_eq_true,List.all_eq_true,List.length_map,List.mem_map] at hf ⊢;refine ⟨hf.1,?_⟩;rintro x ⟨y,hy,rfl⟩;exact key y (hf.2 y hy)
   | _=>cases hf
theorem cS {X:Cx} (hx:XOk X) (d:Nat):XOk (X.land (F9 d))/\Ext (fun p=>(F9 d p).isSome||y9 p) false X (X.land (F9 d))/\WStp X (X.land (F9 d)):=
 Cx.land_ok hx (dec:=F9 d) (by
  intro p p' x h1 h2;cases p with
  | sl a b c=>
    cases p' with
    | sl a' b' c'=>
      simp only [F9] at h1 h2;split at h1
      . split at h2
        . rename_i e1 e2;subst e1;subst e2;rw [<-h2] at h1;injection h1 with h1;injection h1 with h1 h3;subst h1;subst h3;rfl
        . cases h2
      . cases h1
    | _=>cases h2
  | _=>cases h1) (fun i k x h=>by cases h)
theorem z57 {ek:Option Nat} {x:Opd} {dst:Option Nat} {X:Cx} {w w':WFr} {W W':q8} {fr:Fr} (s:SR X w W fr) (h:j4 (.lbox ek x) dst w W=some (w',W')):WSim (.lbox ek x) dst X w W fr w' W':=by
 simp only [j4] at h;split at h
 . rename_i d;split at h
   . rename_i hf;split at h
     . rename_i v w1 W1 ht;injection h with h;injection h with h1 h2;subst h1;subst h2;obtain ⟨hn,hr⟩:=qY ht;injection hr with hr1 hr2;injection hr2 with hr2 hr3;subst hr1;subst hr2;subst hr3;obtain ⟨sh1,sh2⟩:=xW hf;have rx:=rdR s.fr Pl.tmp x (by intro e;rw [e] at hf;cases ek<;>cases hf);obtain ⟨Y,hY,st,hH,hv,hnv,_⟩:=s.take rx (M4 w x) sh2 hn;obtain ⟨o1,o2,o3,o4⟩:=vW sh1 sh2;rw [o1] at hv hnv hY ⊢;rw [o4] at hnv;have rc:=hv.toC o2 o3;obtain ⟨l1,l2,l3⟩:=cS hY.ok d;have E:=wU l2;refine ⟨Y.land (F9 d),{ env:=upd fr.env d (.lbox ek (fr.opd x)),al:=unlink d fr.al },?_,⟨l1,⟨by show unlink d fr.al=unlink d w.al;rw [s.fr.al],?_⟩,?_,Z7 (fun i k=>rfl)⟩,st.trans l3⟩
       . have hff:=(jH rc (vE hf)).1;simp only [q9];rw [if_pos hff];show some (_,X.H)=some (_,Y.H);rw [hH]
       . intro t;rw [bR] at E;simp only [upd];by_cases ht:t=d
         . subst ht;rw [if_pos rfl,if_pos rfl];exact ⟨_,rfl,rc.land l2 (fun k=>by simp [F9]) hnv⟩
         . rw [if_neg ht,if_neg ht];exact (hY.fr.hit E).env t
       . exact hY.hp.still E (fun i k=>rfl) rfl (fun i _=>rfl)
     . cases h
   . cases h
 . cases h
def l9 (id off n:Nat):Pl->Option (Nat×Nat)
 | .hp j k=>if j=id/\off<=k/\k<off+n then some (0,k - off) else none
 | _=>none
theorem zc5 (id off n:Nat):(fun p=>(l9 id off n p).isSome)=yO id off n:=by
 funext p;cases p with
 | hp j k=>
   simp only [l9,yO];by_cases h1:j=id<;>by_cases h2:off<=k<;>by_cases h3:k<off+n<;>simp [h1,h2,h3]
 | _=>rfl
theorem lW {X:Cx} (hx:XOk X) (id off n:Nat) (hid:id<X.n):XOk (X.land (l9 id off n))/\Ext (fun p=>(l9 id off n p).isSome||y9 p) false X (X.land (l9 id off n))/\WStp X (X.land (l9 id off n)):=
 Cx.land_ok hx (dec:=l9 id off n) (by
  intro p p' x h1 h2;cases p with
  | hp a b=>
    cases p' with
    | hp a' b'=>
      simp only [l9] at h1 h2;split at h1
      . split at h2
        . rename_i e1 e2;obtain ⟨e1,e3,e4⟩:=e1;obtain ⟨e2,e5,e6⟩:=e2;subst e1;subst e2;rw [<-h2] at h1;simp only [Option.some.injEq,Prod.mk.injEq,true_and] at h1;have:b=b':=by omega
          rw [this]
        . cases h2
      . cases h1
    | _=>cases h2
  | _=>cases h1) (fun i k x h=>by
  simp only [l9] at h;split at h
  . rename_i e;rw [e.1];exact hid
  . cases h)
theorem VRL.land' {X:Cx} {dec:Pl->Option (Nat×Nat)} (E:Ext (fun p=>(dec p).isSome||y9 p) false X (X.land dec)) {i:Nat} {q':Nat->Pl} :
 ∀ {l:List WV} {k k':Nat} {s:List HV},VRL X (Pl.tmp i) k l s->l.all I2=true->(∀ j,j<l.length->dec (q' (k'+j))=some (i,k+j))->VRL (X.land dec) q' k' l s:=by
 intro l;induction l with
 | nil=>intro k k' s h _ _;cases s with
   | nil=>trivial
   | cons=>exact h.elim
 | cons v l ih=>intro k k' s h nv hd;cases s with
   | nil=>exact h.elim
   | cons a s=>
     simp only [List.all_cons,Bool.and_eq_true] at nv;refine ⟨h.1.land E (hd 0 (by simp)) nv.1,ih h.2 nv.2 ?_⟩;intro j hj;have:=hd (j+1) (by simp;omega);rw [show k'+(j+1)=k'+1+j by omega,show k+(j+1)=k+1+j by omega] at this;exact this
theorem yZ {v:WV} (h:E8 v=true):v.flat.all I2=true:=by
 cases v with
 | agg cs=>exact h
 | c u=>cases u<;>simp [WV.flat,I2]
 | view=>cases h
 | eptr=>cases h
 | _=>rfl
theorem aX {ek:Option Nat} {v:WV} (hf:fitsW ek v=true) (nv:E8 v=true):v.flat.all E4=true:=by
 have key:∀ v,cellW v=true->I2 v=true->E4 v=true:=by
  intro v h n;cases v with
  | c u=>rfl
  | view=>cases n
  | gone=>cases h
  | _=>exact h
 cases v with
 | c u=>cases u<;>simp [WV.flat,E4]
 | agg cs=>
   cases ek with
   | none=>cases hf
   | some n=>
     simp only [fitsW,Bool.and_eq_true,List.all_eq_true] at hf;simp only [E8,List.all_eq_true] at nv;simp only [WV.flat,List.all_eq_true];exact fun x hx=>key x (hf.2 x hx) (nv x hx)
 | nils=>rfl
 | own=>rfl
 | imm fz ek' xs=>cases ek<;>simp [fitsW,cellW] at hf;subst hf;rfl
 | ptr=>rfl
 | fn=>rfl
 | view=>cases nv
 | eptr=>cases nv
 | _=>cases ek<;>cases hf
theorem z18 {ek:Option Nat} {x:Opd} {dst:Option Nat} {X:Cx} {w w':WFr} {W W':q8} {fr:Fr} (s:SR X w W fr) (h:j4 (.hbox ek x) dst w W=some (w',W')):WSim (.hbox ek x) dst X w W fr w' W':=by
 simp only [j4] at h;split at h
 . rename_i hf;split at h
   . rename_i v w1 W1 ht;injection h with h;injection h with h1 h2;subst h1;subst h2;obtain ⟨hn,hr⟩:=qY ht;injection hr with hr1 hr2;injection hr2 with hr2 hr3;subst hr1;subst hr2;subst hr3;obtain ⟨sh1,sh2⟩:=xW hf;have rx:=rdR s.fr Pl.tmp x (by intro e;rw [e] at hf;cases ek<;>cases hf);obtain ⟨Y,hY,st,hH,hv,hnv,_⟩:=s.take rx (M4 w x) sh2 hn;obtain ⟨o1,o2,o3,o4⟩:=vW sh1 sh2;rw [o1] at hv hnv hY ⊢;rw [o4] at hnv;have rc:=hv.toC o2 o3;have hff:=vE hf;obtain ⟨f1,f2,f3⟩:=jH rc hff;have hlen:Y.n=(c6 false (u4 (w.rd x)) W).length:=hY.hp.n;generalize hW:c6 false (u4 (w.rd x)) W=V at hY hlen ⊢;generalize hw:b8 (inK (u4 (w.rd x))) false w=u at hY ⊢;let Y1:Cx:={ Y with n:=Y.n+1,rho:=fun i=>if i=Y.n then Y.H.length else Y.rho i,H:=Y.H++[.var ek (fr.opd x).flat] }
     have rlt:∀ i,i<Y.n->Y.rho i<Y.H.length:=by
      intro i hi;have hlt:i<V.length:=by rw [<-hlen];exact hi
      cases hV:V[i] with
      | var ek' cs=>
        have hg:V[i]?=some (.var ek' cs):=by rw [gEg hlt,hV]
        obtain ⟨⟨hs,c1,_⟩,_⟩:=hY.hp.cells i ek' cs hg;exact (gEs c1).1
     have E1:Ext (fun _=>false) false Y Y1:=⟨Nat.le_succ _,fun i hi=>by
      show (if i=Y.n then _ else _)=Y.rho i;rw [if_neg (Nat.ne_of_lt hi)],fun _ _ _=>⟨rfl,rfl⟩,fun _ h=>h,fun id r hr _=>W9 hr,fun h=>by cases h⟩
     have x1:XOk Y1:=by
      refine ⟨?_,hY.ok.dis,hY.ok.nf,?_,?_,fun i k hi=>hY.ok.hz i k (Nat.le_of_succ_le hi)⟩
      . intro p b e ek' xs hp;obtain ⟨ys,r1,r2⟩:=hY.ok.own p b e ek' xs hp;exact ⟨ys,W9 r1,r2⟩
      . intro i j hi hj he;simp only [Y1] at he hi hj;by_cases h1:i=Y.n
        . by_cases h2:j=Y.n
          . rw [h1,h2]
          . rw [if_pos h1,if_neg h2] at he;have:=rlt j (by omega);omega
        . by_cases h2:j=Y.n
          . rw [if_neg h1,if_pos h2] at he;have:=rlt i (by omega);omega
          . rw [if_neg h1,if_neg h2] at he;exact hY.ok.rinj i j (by omega) (by omega) he
      . intro i hi;obtain ⟨a,b,c,d,e,hr⟩:=hY.ok.fl i hi;exact ⟨a,b,c,d,e,W9 hr⟩
     obtain ⟨l1,l2,l3⟩:=lW x1 Y.n 0 (j6 (w.rd x)).flat.length (Nat.lt_succ_self _);have s1:WStp Y Y1:=⟨E1.n,E1.rho,rfl,E1.rows⟩;have E0:Ext (fun _=>false) false Y.hide (Y1.land (l9 Y.n 0 (j6 (w.rd x)).flat.length)):=by
      refine ⟨Nat.le_succ _,fun i hi=>E1.rho i hi,?_,fun _ h=>h,fun id r hr _=>W9 hr,fun h=>by cases h⟩;intro p _ ho;have hnt:y9 p=false:=by
       cases h:y9 p with
       | false=>rfl
       | true=>simp only [Cx.hide,h,if_true] at ho;exact (ho rfl).elim
      have hd:l9 Y.n 0 (j6 (w.rd x)).flat.length p=none:=by
       cases p with
       | hp i k=>
         simp only [l9];split
         . rename_i e;simp only [Cx.hide,y9,Bool.false_eq_true,if_false,e.1,hY.ok.hz Y.n k (Nat.le_refl _)] at ho;exact (ho rfl).elim
         . rfl
       | _=>rfl
      have:=l2.pl p (by simp [hd,hnt]) (by simpa [Cx.hide,hnt] using ho);exact ⟨this.1,by rw [this.2];simp [Cx.hide,hnt,Y1]⟩
     have hp':HpR (Y1.land (l9 Y.n 0 (j6 (w.rd x)).flat.length)) (V++[.var ek (j6 (w.rd x)).flat]):=by
      refine ⟨by show Y.n+1=_;simp [hlen],?_⟩;intro i ek' cs hi;by_cases hlt:i<V.length
      . rw [List.getElem?_append_left hlt] at hi;obtain ⟨⟨hs,c1,c2⟩,c3⟩:=hY.hp.cells i ek' cs hi;have hin:i<Y.n:=by rw [hlen];exact hlt
        refine ⟨⟨hs,?_,c2.still E0 (fun _=>rfl) c3⟩,c3⟩;show (Y.H++_)[if i=Y.n then _ else _]?=_;rw [if_neg (Nat.ne_of_lt hin)];exact W9 c1
      . have hge:V.length<=i:=Nat.le_of_not_lt hlt;rw [List.getElem?_append_right hge] at hi;have:i - V.length=0:=by
         cases hk:i - V.length with
         | zero=>rfl
         | succ k=>rw [hk] at hi;simp at hi
        rw [this] at hi;simp only [List.getElem?_cons_zero,Option.some.injEq,WO.var.injEq] at hi;obtain ⟨rfl,rfl⟩:=hi;have hie:i=Y.n:=by omega
        subst hie;refine ⟨⟨(fr.opd x).flat,?_,?_⟩,aX hff hnv⟩
        . show (Y.H++_)[if Y.n=Y.n then _ else _]?=_;rw [if_pos rfl];simp
        . have r1:VRL Y1 (Pl.tmp 0) 0 (j6 (w.rd x)).flat (fr.opd x).flat:=by
           have:=(X1 rc f2 f3).hit E1;rw [jO] at this;exact this
          exact r1.land' l2 (q':=Pl.hp Y.n) (k':=0) (yZ hnv) (by
           intro j hj;simp only [l9,Nat.zero_add];rw [if_pos ⟨trivial,Nat.zero_le _,hj⟩];rfl)
     have sz:SR (Y1.land (l9 Y.n 0 (j6 (w.rd x)).flat.length)) u (V++[.var ek (j6 (w.rd x)).flat]) fr:=by
      refine ⟨l1,?_,hp',Z7 (fun i k=>rfl)⟩;have:=hY.fr.hit E0;rw [vN] at this;exact this
     refine ⟨Y1.land (l9 Y.n 0 (j6 (w.rd x)).flat.length),fr.put dst (.ptr X.H.length 0),?_,?_,(st.trans s1).trans l3⟩
     . simp only [q9];rw [if_pos f1];show some (_,X.H++_)=some (_,Y.H++_);rw [hH]
     . refine sz.put (q:=Pl.tmp) ?_ rfl;refine ⟨?_,by show V.length<Y.n+1;omega⟩;show HV.ptr X.H.length 0=HV.ptr (if V.length=Y.n then Y.H.length else _) 0;rw [if_pos hlen.symm,hH]
   . cases h
 . cases h
end Go.Proofs.Lz
