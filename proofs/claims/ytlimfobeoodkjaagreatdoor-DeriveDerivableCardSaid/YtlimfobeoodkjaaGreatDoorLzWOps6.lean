/- Stores: what the state with slices a5 values gives, the evaluator gives. -/
import Derived.Test.YtlimfobeoodkjaaGreatDoorLzWOps5
namespace Go.Proofs.Lz
def N1 (b off n:Nat):Pl->Option (Nat×Nat)
 | .sl s i k=>if s=b/\i=0/\off<=k/\k<off+n then some (0,k - off) else none
 | _=>none
theorem zq1 (b off n:Nat):(fun p=>(N1 b off n p).isSome)=jF b off n:=by
 funext p;cases p with
 | sl s i k=>
   simp only [N1,jF];by_cases h1:s=b<;>by_cases h2:off<=k<;>by_cases h3:k<off+n<;>by_cases h4:i=0<;>simp [h1,h2,h3,h4]
 | _=>rfl
theorem zo0 {X:Cx} (hx:XOk X) (b off n:Nat):XOk (X.land (N1 b off n))/\Ext (fun p=>(N1 b off n p).isSome||y9 p) false X (X.land (N1 b off n))/\WStp X (X.land (N1 b off n)):=
 Cx.land_ok hx (dec:=N1 b off n) (by
  intro p p' x h1 h2;cases p with
  | sl a i k=>
    cases p' with
    | sl a' i' k'=>
      simp only [N1] at h1 h2;split at h1
      . split at h2
        . rename_i e1 e2;obtain ⟨e1,e3,e4,e7⟩:=e1;obtain ⟨e2,e5,e6,e8⟩:=e2;subst e1;subst e2;subst e3;subst e5;rw [<-h2] at h1;simp only [Option.some.injEq,Prod.mk.injEq,true_and] at h1;have:k=k':=by omega
          rw [this]
        . cases h2
      . cases h1
    | _=>cases h2
  | _=>cases h1) (fun i k x h=>by cases h)
theorem VRL.still2 {K:Pl->Bool} {fz:Bool} {X Y:Cx} (E:Ext K fz X Y) {q:Nat->Pl}:∀ {l:List WV} {k:Nat} {s:List HV},VRL X q k l s->l.all I2=true->(∀ j,j<l.length->K (q (k+j))=false)->VRL Y q k l s:=by
 intro l;induction l with
 | nil=>intro k s h _ _;cases s with
   | nil=>trivial
   | cons=>exact h.elim
 | cons v l ih=>intro k s h hc hk;cases s with
   | nil=>exact h.elim
   | cons a s=>
     simp only [List.all_cons,Bool.and_eq_true] at hc;refine ⟨?_,ih h.2 hc.2 ?_⟩
     . have hv:=h.1.hit E;have hk0:=hk 0 (by simp);rw [Nat.add_zero] at hk0;revert hv
       cases v with
       | own b e ek xs=>simp only [x8,hk0,Bool.false_eq_true,if_false];exact fun x=>x
       | view=>cases hc.1
       | eptr=>cases hc.1
       | _=>exact fun x=>x
     . intro j hj;have:=hk (j+1) (by simp;omega);rw [show k+(j+1)=k+1+j by omega] at this;exact this
theorem tQ {l:List WV} (h:l.all E4=true):l.all I2=true:=by
 simp only [List.all_eq_true] at h ⊢;intro x hx;have:=h x hx;cases x with
 | view=>cases this
 | eptr=>cases this
 | _=>rfl
theorem cL {X:Cx} {q:Nat->Pl} {v:WV} {h:HV} (r:VR1 X (q 0) v h):VRC X q v h:=by
 cases v with
 | agg=>exact r.elim
 | undef=>exact r.elim
 | _=>exact r
theorem zf0 {X:Cx} {q:Nat->Pl} {ek:Option Nat} {cs:List WV} {hs:List HV} {v:WV} (r:VRL X q 0 cs hs) (h:pK ek cs=some v):∃ a,V1 ek hs=some a/\VRC X q v a:=by
 cases ek with
 | none=>
   obtain ⟨a,h1,h2⟩:=r.get (show cs[0]?=some v from h);exact ⟨a,h1,cL h2⟩
 | some n=>
   injection h with h;subst h;refine ⟨_,rfl,?_⟩;unfold O7 I1;rw [nW r];cases d6 hs with
   | some l=>exact rfl
   | none=>exact ⟨hs,rfl,r⟩
theorem kA {α:Type} {f:α->Bool} {l:List α} (n:Nat) (h:l.all f=true):(l.take n).all f=true:=by
 rw [List.all_eq_true] at h ⊢;exact fun x hx=>h x (List.mem_of_mem_take hx)
theorem bD {α:Type} {f:α->Bool} {l:List α} (n:Nat) (h:l.all f=true):(l.drop n).all f=true:=by
 rw [List.all_eq_true] at h ⊢;exact fun x hx=>h x (List.mem_of_mem_drop hx)
theorem zz5 {ek:Option Nat} {a x:Opd} {dst:Option Nat} {X:Cx} {w w':WFr} {W W':q8} {fr:Fr} (s:SR X w W fr) {b off:Nat} (hp:fr.place a=some (b,off)) (h:j4 (.store ek a x) dst w W=some (w',W')):WSim (.store ek a x) dst X w W fr w' W':=by
 simp only [j4] at h;rw [P9 s.fr,hp] at h;simp only at h;split at h
 . rename_i hf;split at h
   . cases h
   . rename_i v w1 W1 ht;obtain ⟨hn,hr⟩:=qY ht;injection hr with hr1 hr2;injection hr2 with hr2 hr3;subst hr1;subst hr2;subst hr3;obtain ⟨sh1,sh2⟩:=xW hf;have rx:=rdR s.fr Pl.tmp x (by intro e;rw [e] at hf;cases ek<;>cases hf);obtain ⟨Y,hY,st,hH,hv,hnv,_⟩:=s.take rx (M4 w x) sh2 hn;obtain ⟨o1,o2,o3,o4⟩:=vW sh1 sh2;rw [o1] at hv hnv hY h;rw [o4] at hnv;have rc:=hv.toC o2 o3;obtain ⟨f1,f2,f3⟩:=jH rc (vE hf);split at h
     . rename_i ek' x0 hb;have rb:=hY.fr.env b;rw [hb] at rb;obtain ⟨x1,e1,r0⟩:=rb;split at h
       . rename_i hc;injection h with h;injection h with h1 h2;subst h1;subst h2;obtain ⟨l1,l2,l3⟩:=cS hY.ok b;have E:=wU l2;refine ⟨Y.land (F9 b),{ fr with env:=upd fr.env b (.lbox ek' (fr.opd x)) },?_,⟨l1,⟨hY.fr.al,?_⟩,hY.hp.still E (fun i k=>rfl) rfl (fun i _=>rfl),Z7 (fun i k=>rfl)⟩,st.trans l3⟩
         . simp only [q9,hp,e1];rw [if_pos f1,if_pos hc];show some (_,X.H)=some (_,Y.H);rw [hH]
         . intro t;rw [bR] at E;simp only [upd];by_cases ht:t=b
           . subst ht;rw [if_pos rfl,if_pos rfl];exact ⟨_,rfl,rc.land l2 (fun k=>by simp [F9]) hnv⟩
           . rw [if_neg ht,if_neg ht];exact (hY.fr.hit E).env t
       . rename_i hc;split at h
         . rename_i hl;obtain ⟨hl1,hl2,hl3⟩:=hl;split at h
           . rename_i x' hx';split at h
             . rename_i hf';injection h with h;injection h with h1 h2;subst h1;subst h2;obtain ⟨l1,l2,l3⟩:=zo0 hY.ok b off (j6 (w.rd x)).flat.length;have E:=wU l2;have u0:x0≠.undef:=by intro e;rw [e] at hl3;cases hl3
               have g0:x0≠.gone:=by intro e;rw [e] at hl3;cases hl3
               have rf:=X1 r0 u0 g0;have rn:=X1 rc f2 f3;have en:(j6 (w.rd x)).flat.length=(fr.opd x).flat.length:=rn.len;have e0:=rf.len;have nvx:=yZ hl2;have p1:=(rf.take off).still2 E (kA off nvx) (by
                intro j hj;simp only [List.length_take] at hj;simp only [N1];rw [if_neg (by omega)];rfl)
               have p2:=rn.land' l2 (q':=Pl.sl b 0) (k':=off) (yZ hnv) (by
                intro j hj;simp only [N1];rw [if_pos ⟨trivial,trivial,by omega,by omega⟩];congr 2;omega)
               have p3:=(rf.drop (off+(j6 (w.rd x)).flat.length)).still2 E (bD _ nvx) (by
                intro j hj;simp only [N1];rw [if_neg (by omega)];rfl)
               have lt:(x0.flat.take off).length=off:=by simp only [List.length_take];omega
               have p12:=p1.append (by rw [lt,Nat.zero_add];exact p2);have p123:=p12.append (l':=x0.flat.drop (off+(j6 (w.rd x)).flat.length)) (s':=x1.flat.drop (off+(j6 (w.rd x)).flat.length)) (by
                rw [List.length_append,lt,Nat.zero_add];rw [Nat.zero_add] at p3;exact p3)
               obtain ⟨y,y1,y2⟩:=zf0 (v:=x') p123 hx';have fy:=(jH y2 hf').1;refine ⟨Y.land (N1 b off (j6 (w.rd x)).flat.length),{ fr with env:=upd fr.env b (.lbox ek' y) },?_,⟨l1,⟨hY.fr.al,?_⟩,hY.hp.still E (fun i k=>rfl) rfl (fun i _=>rfl),Z7 (fun i k=>rfl)⟩,st.trans l3⟩
               . simp only [q9,hp,e1];rw [if_pos f1,if_neg hc,if_pos (by omega)];have ey:V1 ek' (f0 x1.flat off (fr.opd x).flat)=some y:=by rw [<-y1];simp only [f0,en]
                 rw [ey];simp only;rw [if_pos fy];show some (_,X.H)=some (_,Y.H);rw [hH]
               . intro t;rw [zq1] at E;simp only [upd];by_cases ht:t=b
                 . subst ht;rw [if_pos rfl,if_pos rfl];exact ⟨_,rfl,y2⟩
                 . rw [if_neg ht,if_neg ht];exact (hY.fr.hit E).env t
             . cases h
           . cases h
         . cases h
     . cases h
 . cases h
theorem mC {P:Cx} (x:XOk P) {r:Nat} {ek:Option Nat} {hs hs':List HV} (h:P.H[r]?=some (.var ek hs)) :
 XOk { P with H:=P.H.set r (.var ek hs') }/\Ext (fun _=>false) false P { P with H:=P.H.set r (.var ek hs') }/\WStp P { P with H:=P.H.set r (.var ek hs') }:=by
 have rowne:∀ (j:Nat) (fz:Bool) (e:Nat) (ek':Option Nat) (ver:Nat) (xs:List CV),P.H[j]?=some (HO.row fz e ek' ver xs)->(P.H.set r (.var ek hs'))[j]?=some (HO.row fz e ek' ver xs):=by
  intro j fz e ek' ver xs hj;rw [L2]
  . exact hj
  . intro e;subst e;rw [h] at hj;cases hj
 have keep:∀ (j:Nat) (o:HO),P.H[j]?=some o->(V5 o\/P.F j)->(P.H.set r (.var ek hs'))[j]?=some o:=by
  intro j o ho hf;rcases hf with hf | hf
  . obtain ⟨e,ek',ver,xs,rfl⟩:=hf;exact rowne _ _ _ _ _ _ ho
  . obtain ⟨a,b,c,d,e,hr⟩:=x.fl j hf;rw [hr] at ho;injection ho with ho;subst ho;exact rowne _ _ _ _ _ _ hr
 refine ⟨⟨?_,x.dis,x.nf,x.rinj,?_,x.hz⟩,⟨Nat.le_refl _,fun _ _=>rfl,fun _ _ _=>⟨rfl,rfl⟩,fun _ h=>h,keep,fun h=>by cases h⟩,⟨Nat.le_refl _,fun _ _=>rfl,rfl,keep⟩⟩
 . intro p b e ek' xs hp;obtain ⟨ys,r1,r2⟩:=x.own p b e ek' xs hp;exact ⟨ys,rowne _ _ _ _ _ _ r1,r2⟩
 . intro i hi;obtain ⟨a,b,c,d,e,hr⟩:=x.fl i hi;exact ⟨a,b,c,d,e,rowne _ _ _ _ _ _ hr⟩
theorem HpR.upd {K:Pl->Bool} {X Y:Cx} (E:Ext K false X Y) (hx:XOk X) {V:q8} (h:HpR X V) {id:Nat} {ek:Option Nat} {cs cs':List WV} {hs hs':List HV} (hid:V[id]?=some (.var ek cs)) (hn:Y.n=X.n)
 (hk:∀ i k,i≠id->K (.hp i k)=false) (hH:Y.H=X.H.set (X.rho id) (.var ek hs')) (hc:X.H[X.rho id]?=some (.var ek hs)) (r:VRL Y (Pl.hp id) 0 cs' hs') (c:cs'.all E4=true):HpR Y (V.set id (.var ek cs')):=by
 have hlt:=(gEs hid).1;have hltn:id<X.n:=by rw [h.n];exact hlt
 refine ⟨by rw [hn,h.n,List.length_set],?_⟩;intro i ek2 cs2 hi;by_cases he:i=id
 . subst he;rw [List.getElem?_set_self hlt] at hi;injection hi with hi;injection hi with h1 h2;subst h1;subst h2;refine ⟨⟨hs',?_,r⟩,c⟩;rw [E.rho i hltn,hH];exact List.getElem?_set_self (gEs hc).1
 . rw [L2 (fun e=>he e.symm)] at hi;obtain ⟨⟨gs,c1,c2⟩,c3⟩:=h.cells i ek2 cs2 hi;have hin:i<X.n:=by rw [h.n];exact (gEs hi).1
   refine ⟨⟨gs,?_,c2.still E (fun k=>hk i k he) c3⟩,c3⟩;rw [E.rho i hin,hH,L2]
   . exact c1
   . intro e;exact he (hx.rinj _ _ hin hltn e.symm)
theorem eS {ek:Option Nat} {id off:Nat} {x:Opd} {X:Cx} {w w':WFr} {W W':q8} {fr:Fr} (s:SR X w W fr) {p:HV} (hp:p=.ptr (X.rho id) off) (hidX:id<X.n) (h:zM ek (.ptr id off) (w.rd x) w W=some (w',W')) :
 ∃ Y,I7 ek p (fr.opd x) X.H=some Y.H/\SR Y w' W' fr/\WStp X Y:=by
 simp only [zM] at h;split at h
 . rename_i hf;split at h
   . cases h
   . rename_i v w1 W1 ht;obtain ⟨hn,hr⟩:=qY ht;injection hr with hr1 hr2;injection hr2 with hr2 hr3;subst hr1;subst hr2;subst hr3;obtain ⟨sh1,sh2⟩:=xW hf;have rx:=rdR s.fr Pl.tmp x (by intro e;rw [e] at hf;cases ek<;>cases hf);obtain ⟨Y,hY,st,hH,hv,hnv,_⟩:=s.take rx (M4 w x) sh2 hn;obtain ⟨o1,o2,o3,o4⟩:=vW sh1 sh2;rw [o1] at hv hnv hY h;rw [o4] at hnv;have rc:=hv.toC o2 o3;have hff:=vE hf;obtain ⟨f1,f2,f3⟩:=jH rc hff;generalize c6 false (u4 (w.rd x)) W=V at h hY;generalize b8 (inK (u4 (w.rd x))) false w=u at h hY;split at h
     . rename_i ek' cs hid;split at h
       . rename_i hl;injection h with h;injection h with h1 h2;subst h1;subst h2;obtain ⟨⟨hs,c1,c2⟩,c3⟩:=hY.hp.cells id ek' cs hid;have hn0:Y.n=V.length:=hY.hp.n;have hidn:id<Y.n:=by rw [hn0];exact (gEs hid).1
         have rn:=X1 rc f2 f3;have en:=rn.len;have e0:=c2.len;have rhoe:X.rho id=Y.rho id:=(st.rho id hidX).symm;have nvf:=yZ hnv;have chf:=aX hff hnv;have lt:(cs.take off).length=off:=by simp only [List.length_take];omega
         have chs:(P5 cs off (j6 (w.rd x)).flat).all E4=true:=by
          simp only [P5,List.all_append,kA off c3,chf,bD _ c3,Bool.and_self]
         have hst:∀ Z:Cx,Z.H=Y.H.set (Y.rho id) (.var ek' (f0 hs off (fr.opd x).flat))->I7 ek p (fr.opd x) X.H=some Z.H:=by
          intro Z hZ;have c1':X.H[X.rho id]?=some (.var ek' hs):=by rw [rhoe,<-hH];exact c1
          rw [hp,hZ];simp only [I7,c1'];rw [if_pos ⟨f1,by omega⟩,rhoe,hH]
         cases ho:(j6 (w.rd x)).flat.any d5 with
         | true=>
           simp only [if_true];obtain ⟨l1,l2,l3⟩:=lW hY.ok id off (j6 (w.rd x)).flat.length hidn;have E:=wU l2;have c1':(Y.land (l9 id off (j6 (w.rd x)).flat.length)).H[Y.rho id]?=some (.var ek' hs):=c1;obtain ⟨m1,m2,m3⟩:=mC l1 (hs':=f0 hs off (fr.opd x).flat) c1';have EZ:Ext (fun p=>(l9 id off (j6 (w.rd x)).flat.length p).isSome) false Y.hide { (Y.land (l9 id off (j6 (w.rd x)).flat.length)) with H:=Y.H.set (Y.rho id) (.var ek' (f0 hs off (fr.opd x).flat)) }:=
            ⟨Nat.le_refl _,fun _ _=>rfl,fun p a b=>E.pl p a b,fun _ h=>h,fun i r a b=>m2.rows i r a b,fun h=>by cases h⟩
           refine ⟨{ (Y.land (l9 id off (j6 (w.rd x)).flat.length)) with H:=Y.H.set (Y.rho id) (.var ek' (f0 hs off (fr.opd x).flat)) },hst _ rfl,⟨m1,?_,?_,fun i k=>(show (Y.land (l9 id off (j6 (w.rd x)).flat.length)).O (.tmp i k)=none from Z7 (fun _ _=>rfl) i k)⟩,(st.trans l3).trans m3⟩
           . have:=hY.fr.hit EZ;rw [zc5] at this;exact this
           . refine hY.hp.upd EZ hY.ok.hide hid rfl ?_ rfl c1 ?_ chs
             . intro i k hi;simp only [l9];rw [if_neg (fun h=>hi h.1)];rfl
             . have p1:=(c2.take off).still2 EZ (kA off (tQ c3)) (by
                intro j hj;simp only [List.length_take] at hj;simp only [l9];rw [if_neg (by omega)];rfl)
               have p2a:=rn.land' l2 (q':=Pl.hp id) (k':=off) nvf (by
                intro j hj;simp only [l9];rw [if_pos ⟨trivial,by omega,by omega⟩];congr 2;omega)
               have p2:=p2a.hit m2;rw [jO] at p2;have p3:=(c2.drop (off+(j6 (w.rd x)).flat.length)).still2 EZ (bD _ (tQ c3)) (by
                intro j hj;simp only [l9];rw [if_neg (by omega)];rfl)
               have p12:=p1.append (by rw [lt,Nat.zero_add];exact p2);have p123:=p12.append (l':=cs.drop (off+(j6 (w.rd x)).flat.length)) (s':=hs.drop (off+(j6 (w.rd x)).flat.length)) (by
                rw [List.length_append,lt,Nat.zero_add];rw [Nat.zero_add] at p3;exact p3)
               have e:f0 hs off (fr.opd x).flat=hs.take off++(fr.opd x).flat++hs.drop (off+(j6 (w.rd x)).flat.length):=by simp only [f0,<-en]
               exact Eq.mpr (congrArg (VRL _ (Pl.hp id) 0 _) e) p123
         | false=>
           simp only [Bool.false_eq_true,if_false];have c1':Y.hide.H[Y.rho id]?=some (.var ek' hs):=c1;obtain ⟨m1,m2,m3⟩:=mC hY.ok.hide (hs':=f0 hs off (fr.opd x).flat) c1';refine ⟨{ Y.hide with H:=Y.H.set (Y.rho id) (.var ek' (f0 hs off (fr.opd x).flat)) },hst _ rfl,⟨m1,?_,?_,fun i k=>rfl⟩,(st.trans (show WStp Y Y.hide from ⟨Nat.le_refl _,fun _ _=>rfl,rfl,fun _ _ h _=>h⟩)).trans m3⟩
           . have:=hY.fr.hit m2;rw [vN] at this;exact this
           . refine hY.hp.upd m2 hY.ok.hide hid rfl (fun _ _ _=>rfl) rfl c1 ?_ chs;have vh:VR Y.hide Pl.tmp (j6 (w.rd x)) (fr.opd x):=hY.vf (by
              have:c8 (j6 (w.rd x))=false:=by
               revert ho
               cases j6 (w.rd x) with
               | agg cs=>exact fun x=>x
               | own=>intro h;cases h
               | c u=>intro _;rfl
               | _=>intro _;rfl
              revert this o2 o3
              cases j6 (w.rd x) with
              | tup vs=>intro o2 o3 _;exact (o2 _ rfl).elim
              | lbox ek w=>intro o2 o3 _;exact (o3 _ _ rfl).elim
              | _=>intro _ _ h;exact h)
             have rnh:=X1 (vh.toC o2 o3) f2 f3;have q1:=c2.hit m2;rw [jO] at q1;have q2:=rnh.hit m2;rw [jO] at q2;have p12:=(q1.take off).append (q2.any ho (q':=Pl.hp id) (k':=0+(cs.take off).length));have p123:=p12.append (l':=cs.drop (off+(j6 (w.rd x)).flat.length)) (s':=hs.drop (off+(j6 (w.rd x)).flat.length)) (by
              rw [List.length_append,lt];exact q1.drop _)
             have e:f0 hs off (fr.opd x).flat=hs.take off++(fr.opd x).flat++hs.drop (off+(j6 (w.rd x)).flat.length):=by simp only [f0,<-en]
             exact Eq.mpr (congrArg (VRL _ (Pl.hp id) 0 _) e) p123
       . cases h
     . cases h
 . cases h
end Go.Proofs.Lz
