/- Appending, closing, literal rows, boxes, storing: what the state with slices a5 values gives, the evaluator gives. -/
import Derived.Test.YtlimfobeoodkjaaGreatDoorLzWOps2
namespace Go.Proofs.Lz
theorem vP {X:Cx} {q:Nat->Nat->Pl} {v:WV} {h:HV} (r:VR X q v h) (h1:∀ vs,v≠.tup vs) (h2:∀ ek w,v≠.lbox ek w) (ho:y7 v=false):VRC X (q 0) v h/\c8 v=false:=by
 refine ⟨r.toC h1 h2,?_⟩;cases v with
 | tup vs=>exact (h1 _ rfl).elim
 | lbox ek w=>exact (h2 _ _ rfl).elim
 | _=>exact ho
theorem tN {X:Cx} {q:Nat->Nat->Pl} {q':Nat->Pl} {ek:Option Nat} {v:WV} {h:HV} (r:VR X q v h) (ho:y7 v=false) (hf:zS ek v=true) :
 s5 ek h=true/\VRL X q' 0 v.flat h.flat/\v.flat.any d5=false:=by
 have h1:∀ vs,v≠.tup vs:=by intro vs e;subst e;cases ek<;>cases hf
 have h2:∀ ek w,v≠.lbox ek w:=by intro ek' w e;subst e;cases ek<;>cases hf
 have h3:v≠.undef:=by intro e;subst e;cases ek<;>cases hf
 have h4:v≠.gone:=by intro e;subst e;cases ek<;>cases hf
 obtain ⟨rc,oc⟩:=vP r h1 h2 ho;refine ⟨?_,(X1 rc h3 h4).any (pW oc),pW oc⟩;cases v with
 | c u=>
   have r':h=.c u:=r;subst r';cases ek with
   | none=>cases u<;>first | rfl | cases hf
   | some n=>exact hf
 | agg cs=>
   obtain ⟨hs,rfl,r2⟩:=r;cases ek with
   | none=>cases hf
   | some n=>
     simp only [zS,Bool.and_eq_true] at hf;simp only [s5,<-r2.len];exact hf.1
 | nils=>have r':h=.nils:=r;subst r';cases ek<;>first | rfl | cases hf
 | own=>cases ho
 | view p b off e ek' xs=>obtain ⟨rfl,_⟩:=r;cases ek<;>first | rfl | cases hf
 | imm fz ek' xs=>obtain ⟨id,ver,off,rfl,_⟩:=r;cases ek<;>first | rfl | cases hf
 | ptr id off=>obtain ⟨rfl,_⟩:=r;cases ek<;>first | rfl | cases hf
 | fn f a b=>obtain ⟨a',b',rfl,_⟩:=r;cases ek<;>first | rfl | cases hf
 | _=>cases ek<;>cases hf
theorem zn3 {X:Cx} {q:Nat->Pl} {cs new:List WV} {hs nh:List HV} (r:VRL X q 0 cs hs) (ho:cs.any d5=false) (rn:VRL X q 0 new nh) (hn:new.any d5=false) (off:Nat) :
 VRL X q 0 (P5 cs off new) (f0 hs off nh)/\(P5 cs off new).any d5=false:=by
 have e:=rn.len;refine ⟨?_,by simp [P5,fL off ho,hn,kQ (off+new.length) ho]⟩;have:=((r.take off).append (rn.any hn (k':=0+(cs.take off).length))).append ((r.drop (off+new.length)).any (kQ _ ho) (k':=0+(cs.take off++new).length));simp only [P5,f0,<-e];exact this
theorem iT {X:Cx} {w:WFr} {fr:Fr} (f:FrR X w fr) {q:Nat->Pl}:∀ (ps:List (Nat×Nat×Opd)) {cs cs':List WV} {hs:List HV},VRL X q 0 cs hs->cs.any d5=false ->
 qS cs (ps.map fun p=>(p.1,p.2.1,w.rd p.2.2))=some cs'->∃ hs',P4 hs (ps.map fun p=>(p.1,p.2.1,fr.opd p.2.2))=some hs'/\VRL X q 0 cs' hs'/\cs'.any d5=false:=by
 intro ps;induction ps with
 | nil=>intro cs cs' hs r ho h;injection h with h;subst h;exact ⟨hs,rfl,r,ho⟩
 | cons p ps ih=>
   obtain ⟨off,n,x⟩:=p;intro cs cs' hs r ho h;simp only [List.map_cons,qS] at h;split at h
   . rename_i hc;have hg:w.rd x≠.gone:=by
      intro e;rw [e] at hc;have:=hc.1;simp [vD,zS,yI,cellW] at this
     have rx:=rdR f Pl.tmp x hg;have ox:=M4 w x;have key:Y2 n (fr.opd x)=true/\VRL X q 0 (w.rd x).flat (fr.opd x).flat/\(w.rd x).flat.any d5=false:=by
      have h1:=hc.1;simp only [vD,Bool.or_eq_true,Bool.and_eq_true] at h1;rcases h1 with h1 | h1
      . obtain ⟨a,b,c⟩:=tN (q':=q) rx ox h1;exact ⟨by simp only [Y2,a,Bool.true_or],b,c⟩
      . obtain ⟨a,b,c⟩:=tN (q':=q) rx ox h1.2;exact ⟨by simp only [Y2,a,h1.1,Bool.and_true,Bool.or_true],b,c⟩
     obtain ⟨k1,k2,k3⟩:=key;obtain ⟨s1,s2⟩:=zn3 r ho k2 k3 off;obtain ⟨hs',i1,i2,i3⟩:=ih s1 s2 h;refine ⟨hs',?_,i2,i3⟩;simp only [List.map_cons,P4];rw [if_pos ⟨k1,by rw [<-r.len];exact hc.2⟩];exact i1
   . cases h
theorem zp6 {X:Cx} {q:Nat->Pl}:∀ (l:List HV) (k:Nat),l.all isC=true->VRL X q k (l.map Q7) l:=by
 intro l;induction l with
 | nil=>intro k _;trivial
 | cons a l ih=>
   intro k hl;simp only [List.all_cons,Bool.and_eq_true] at hl;refine ⟨?_,ih (k+1) hl.2⟩;cases a<;>first | rfl | cases hl.1
theorem z54 {zero:List HV} {parts:List (Nat×Nat×Opd)} {dst:Option Nat} {X:Cx} {w w':WFr} {W W':q8} {fr:Fr} (s:SR X w W fr) (h:j4 (.build zero parts) dst w W=some (w',W')):WSim (.build zero parts) dst X w W fr w' W':=by
 simp only [j4] at h;split at h
 . rename_i hz;split at h
   . rename_i cs hcs;injection h with h;injection h with h1 h2;subst h1;subst h2;obtain ⟨hs',k1,k2,k3⟩:=iT s.fr parts (zp6 (q:=Pl.tmp 0) zero 0 hz) (lX zero) hcs;have:=bY (q':=Pl.tmp 0) k2 k3;exact .here (by simp only [q9,k1]) (s.put (N9 (q:=Pl.tmp) this.1) this.2)
   . cases h
 . cases h
theorem sH {X:Cx} {w:WFr} {fr:Fr} (f:FrR X w fr):∀ (l:List Opd),(l.map w.rd).all plainW=true->PlainR X (l.map w.rd) (l.map fr.opd):=by
 intro l;induction l with
 | nil=>intro _;trivial
 | cons x l ih=>
   intro h;simp only [List.map_cons,List.all_cons,Bool.and_eq_true] at h;have h2:=ih h.2;have rx:=rdR f Pl.tmp x (by intro e;rw [e] at h;cases h.1);simp only [List.map_cons];cases hv:w.rd x with
   | c u=>exact ⟨rd_c f hv,h2⟩
   | nils=>rw [hv] at rx;exact ⟨rx,h2⟩
   | ptr id off=>rw [hv] at rx;exact ⟨rx,h2⟩
   | _=>rw [hv] at h;cases h.1
theorem PlainR.close {X:Cx}:∀ {l:List WV} {s:List HV},PlainR X l s->B7 l=d6 s:=by
 intro l;induction l with
 | nil=>intro s h;cases s with
   | nil=>rfl
   | cons=>exact h.elim
 | cons v l ih=>
   intro s h;cases s with
   | nil=>cases v<;>exact h.elim
   | cons a s=>
     cases v with
     | c v=>
       have h':a=.c v/\PlainR X l s:=h;obtain ⟨rfl,h2⟩:=h';simp only [B7,d6,ih h2];cases d6 s<;>rfl
     | nils=>have h':a=.nils/\PlainR X l s:=h;obtain ⟨rfl,h2⟩:=h';rfl
     | ptr id off=>obtain ⟨⟨h1,h2⟩,h3⟩:=h;subst h1;rfl
     | _=>exact h.elim
theorem zq0 {f:Nat} {first cap:List Opd} {dst:Option Nat} {X:Cx} {w w':WFr} {W W':q8} {fr:Fr} (s:SR X w W fr) (h:j4 (.mkf f first cap) dst w W=some (w',W')):WSim (.mkf f first cap) dst X w W fr w' W':=by
 simp only [j4] at h;split at h
 . rename_i hc;injection h with h;injection h with h1 h2;subst h1;subst h2;have p1:=sH s.fr first hc.1;have p2:=sH s.fr cap hc.2;refine .here (fr':=_) rfl ?_;rw [p1.close,p2.close];cases d6 (first.map fr.opd) with
   | none=>exact s.put (q:=Pl.tmp) ⟨_,_,rfl,p1,p2⟩ rfl
   | some a=>
     cases d6 (cap.map fr.opd) with
     | none=>exact s.put (q:=Pl.tmp) ⟨_,_,rfl,p1,p2⟩ rfl
     | some b=>exact s.putc dst _
 . cases h
theorem z43 {x:Opd} {i:Nat} {dst:Option Nat} {X:Cx} {w w':WFr} {W W':q8} {fr:Fr} (s:SR X w W fr) (h:j4 (.ext x i) dst w W=some (w',W')):WSim (.ext x i) dst X w W fr w' W':=by
 simp only [j4] at h;split at h
 . rename_i t;split at h
   . rename_i vs hvs;split at h
     . rename_i v hv;split at h
       . rename_i v' w1 W1 ht;injection h with h;injection h with h1 h2;subst h1;subst h2;obtain ⟨hn,hr⟩:=qY ht;injection hr with hr1 hr2;injection hr2 with hr2 hr3;subst hr1;subst hr2;subst hr3;have r:=s.fr.env t;rw [hvs] at r;obtain ⟨hs,r1,r2⟩:=r;obtain ⟨a,g1,g2⟩:=r2.get hv;have r3:VRC X (Pl.tmp 0) (i7 (Pl.sl t i) v) a:=by
          rw [Nat.zero_add] at g2;exact g2.peek
         have hb:∀ ek z,i7 (Pl.sl t i) v≠.lbox ek z:=by
          intro ek z e;rw [e] at r3;exact r3.elim
         have ht':∀ vs,i7 (Pl.sl t i) v≠.tup vs:=by
          intro vs e;rw [e] at r3;exact r3.elim
         have ho:y7 (i7 (Pl.sl t i) v)=false:=by
          have:=xI (Pl.sl t i) v;revert this hb ht'
          cases i7 (Pl.sl t i) v with
          | tup vs=>intro hb ht' _;exact (ht' _ rfl).elim
          | lbox ek z=>intro hb ht' _;exact (hb _ _ rfl).elim
          | _=>intro hb ht' h;exact h
         obtain ⟨Y,hY,st,hH,_⟩:=s.take (N9 (q:=Pl.tmp) r3) ho hb hn;have d0:q9 (.ext (.t t) i) dst fr X.H=some (fr.put dst a,X.H):=by
          simp only [q9,Fr.opd,r1,r7,g1]
         cases dst with
         | none=>
           refine ⟨Y.hide,fr,?_,?_,?_⟩
           . rw [d0];show some (fr,X.H)=some (fr,Y.H);rw [hH]
           . exact ⟨hY.ok.hide,hY.fr,hY.hp,fun i k=>rfl⟩
           . exact ⟨st.n,st.rho,st.F,st.rows⟩
         | some d=>
           obtain ⟨Z,hZ,st',hH'⟩:=hY.putD d;exact ⟨Z,_,by rw [d0,hH',hH],hZ,st.trans st'⟩
       . cases h
     . cases h
   . cases h
 . cases h
theorem SR.grab {X:Cx} {w:WFr} {W:q8} {fr:Fr} (s:SR X w W fr) {K:List Pl} {v':WV} {h:HV} {t:Nat->Nat->Nat×Nat×Nat} {H':q7}
 (rows:∀ i k b e ek xs,B0 v' i k=some (b,e,ek,xs)->kZ H' (t i k) b e ek xs/\¬ X.F (t i k).1)
 (out:∀ i k o p,B0 v' i k=some o->X.O p≠none->inK K p=false->(X.th p).1≠(t i k).1)
 (dist:∀ i k i' k' o o',B0 v' i k=some o->B0 v' i' k'=some o'->(t i k).1=(t i' k').1->i=i'/\k=k')
 (same:∀ p,X.O p≠none->inK K p=false->H'[(X.th p).1]?=X.H[(X.th p).1]?)
 (keep:∀ id r,X.H[id]?=some r->(V5 r\/X.F id)->H'[id]?=some r)
 (vars:∀ i,i<X.n->∀ ek cs,X.H[X.rho i]?=some (.var ek cs)->H'[X.rho i]?=some (.var ek cs))
 (hv:VR (X.grab (inK K) v' t H') Pl.tmp v' h) (nv:noView v'=true) (hyes:y7 v'=true) :
 Hand (X.grab (inK K) v' t H') (b8 (inK K) false w) (c6 false K W) fr v' h/\WStp X (X.grab (inK K) v' t H'):=by
 obtain ⟨g1,g2,g3⟩:=Cx.grab_ok (H':=H') (K:=inK K) (v':=v') (t:=t) s.ok rows (fun i k o p a b _ c=>out i k o p a b c) dist (fun p a _ b=>same p a b) keep;have E:Ext (inK K) false X (X.grab (inK K) v' t H').hide:=by
  refine ⟨g2.n,g2.rho,?_,g2.F,g2.rows,fun h=>by cases h⟩;intro p hp hop;have hnt:y9 p=false:=by
   cases p with
   | tmp i k=>exact (hop (s.ht i k)).elim
   | _=>rfl
  have:=g2.pl p (by simp [hp,hnt]) hop;refine ⟨this.1,?_⟩;simp only [Cx.hide,hnt,Bool.false_eq_true,if_false];exact this.2
 refine ⟨⟨g1,s.fr.hit E,s.hp.hit' E rfl vars,fun _=>⟨hv,nv⟩,fun ho=>by rw [hyes] at ho;cases ho⟩,g3⟩
end Go.Proofs.Lz
namespace Go.Proofs.Lz
theorem qH {b:Bool} {e:Nat} {ek:Option Nat} {xs:List CV} {i k:Nat} {o:Bool×Nat×Option Nat×List CV} (h:B0 (.own b e ek xs) i k=some o):i=0/\k=0/\o=(b,e,ek,xs):=by
 cases i with
 | zero=>
   cases k with
   | zero=>simp only [B0,M9,Y3,Option.some.injEq] at h;exact ⟨rfl,rfl,h.symm⟩
   | succ k=>simp [B0,M9] at h
 | succ i=>simp [B0] at h
theorem L2 {α:Type} {l:List α} {i j:Nat} {v:α} (h:i≠j):(l.set i v)[j]?=l[j]?:=List.getElem?_set_ne h
theorem W9 {α:Type} {l l':List α} {j:Nat} {x:α} (h:l[j]?=some x):(l++l')[j]?=some x:=by
 rw [List.getElem?_append_left (gEs h).1];exact h
theorem SR.fresh {X:Cx} {w:WFr} {W:q8} {fr:Fr} (s:SR X w W fr) (e:Nat) (ek:Option Nat) (xs:List CV) :
 ∃ Y,Hand Y w W fr (.own true e ek xs) (.sl X.H.length 0 0 xs.length)/\WStp X Y/\Y.H=X.H++[.row false e ek 0 xs]:=by
 obtain ⟨g1,g2⟩:=s.grab (K:=[]) (v':=.own true e ek xs) (h:=.sl X.H.length 0 0 xs.length) (t:=fun _ _=>(X.H.length,0,0)) (H':=X.H++[.row false e ek 0 xs])
  (by
    intro i k b e' ek' xs' h;obtain ⟨rfl,rfl,ho⟩:=qH h;simp only [Prod.mk.injEq] at ho;obtain ⟨rfl,rfl,rfl,rfl⟩:=ho;refine ⟨⟨xs',by simp,by simp,by simp,fun _=>rfl⟩,?_⟩;intro hf;obtain ⟨_,_,_,_,_,hr⟩:=s.ok.fl _ hf;have:=(gEs hr).1;omega)
  (by
    intro i k o p _ hp _;obtain ⟨o',ho'⟩:=Option.ne_none_iff_exists'.1 hp;obtain ⟨b',e',ek',xs'⟩:=o';obtain ⟨ys,r1,_⟩:=s.ok.own p b' e' ek' xs' ho';have:=(gEs r1).1;simp only;omega)
  (by
    intro i k i' k' o o' h h' _;obtain ⟨rfl,rfl,_⟩:=qH h;obtain ⟨rfl,rfl,_⟩:=qH h';exact ⟨rfl,rfl⟩)
  (by
    intro p hp _;obtain ⟨o',ho'⟩:=Option.ne_none_iff_exists'.1 hp;obtain ⟨b',e',ek',xs'⟩:=o';obtain ⟨ys,r1,_⟩:=s.ok.own p b' e' ek' xs' ho';rw [r1];exact W9 r1)
  (fun id r h _=>W9 h) (fun i _ ek cs h=>W9 h) ⟨rfl,rfl⟩ rfl rfl
 rw [kR,vN] at g1;exact ⟨_,g1,g2,rfl⟩
theorem Hand.put {X:Cx} {w:WFr} {W:q8} {fr:Fr} {v:WV} {h:HV} (s:Hand X w W fr v h) (dst:Option Nat) :
 ∃ Y,SR Y (w.put dst v) W (fr.put dst h)/\WStp X Y/\Y.H=X.H:=by
 cases dst with
 | none=>exact ⟨X.hide,⟨s.ok.hide,s.fr,s.hp,fun i k=>rfl⟩,⟨Nat.le_refl _,fun _ _=>rfl,rfl,fun _ _ h _=>h⟩,rfl⟩
 | some d=>exact s.putD d
theorem zz4 {e:Nat} {ek:Option Nat} {bytes:Nat} {x y:Opd} {dst:Option Nat} {X:Cx} {w w':WFr} {W W':q8} {fr:Fr} (s:SR X w W fr) (h:j4 (.app e ek bytes x y) dst w W=some (w',W')):WSim (.app e ek bytes x y) dst X w W fr w' W':=by
 simp only [j4,appW] at h;split at h
 . cases h
 . rename_i new hnew;have ry:=rdR s.fr Pl.tmp y (by intro e;rw [e] at hnew;cases hnew);have hn:=zh1 s.ok ry hnew;split at h
   . rename_i hx;have rx:=H7 s.fr hx (by simp);have rx':fr.opd x=.nils:=rx;split at h
     . rename_i h0;injection h with h;injection h with h1 h2;subst h1;subst h2;exact .here (fr':=fr.put dst .nils) (by simp only [q9,appH,hn,rx',h0,if_true]) (s.put (q:=Pl.tmp) (rfl:HV.nils=.nils) rfl)
     . rename_i h0;split at h
       . rename_i hl;injection h with h;injection h with h1 h2;subst h1;subst h2;obtain ⟨Y,hY,st,hH⟩:=s.fresh e ek new;obtain ⟨Z,hZ,st',hH'⟩:=hY.put dst;refine ⟨Z,_,?_,hZ,st.trans st'⟩;simp only [q9,appH,hn,rx'];rw [if_neg h0,if_pos hl,hH',hH]
       . cases h
   . rename_i pl e' ek' xs hx;have rx:=H7 s.fr hx (by simp);obtain ⟨r1,b',ys,r2,r3,r4,r5⟩:=rx;split at h
     . rename_i hc;rw [zC] at h;injection h with h;injection h with h1 h2;subst h1;subst h2;obtain ⟨rfl,rfl,hl1,hl2⟩:=hc;obtain ⟨hb',_⟩:=r5 rfl;obtain ⟨zs,z1,z2,z3,z4⟩:=s.ok.own pl _ _ _ _ r2;have z0:=z4 hb';rw [z0] at r1 z2 z3;simp only [Nat.zero_add,List.drop_zero,Nat.add_zero] at r1 r3 r4 z2 z3;have hmem:inK [pl] pl=true:=by simp [inK]
       have ht:zs.take xs.length=xs:=by rw [<-r4,<-z3,List.take_take];congr 1;simp only [List.length_take];omega
       have hlt:=(gEs z1).1;have onlyPl:∀ p,X.O p≠none->(X.th p).1=(X.th pl).1->p=pl:=fun p hp he=>s.ok.dis p pl hp (by rw [r2];simp) he;obtain ⟨g1,g2⟩:=s.grab (K:=[pl]) (v':=.own true e' ek' (xs++new)) (h:=.sl (X.th pl).1 ((X.th pl).2.1+1) 0 (xs++new).length) (t:=fun _ _=>((X.th pl).1,(X.th pl).2.1+1,0))
        (H':=X.H.set (X.th pl).1 (.row false e' ek' ((X.th pl).2.1+1) (xs++new)))
        (by
          intro i k b e ek xs' h;obtain ⟨rfl,rfl,ho⟩:=qH h;simp only [Prod.mk.injEq] at ho;obtain ⟨rfl,rfl,rfl,rfl⟩:=ho;exact ⟨⟨xs++new,by simp [hlt],by simp,by simp only [List.drop_zero];exact List.take_of_length_le (Nat.le_refl _),fun _=>rfl⟩,s.ok.nf pl (by rw [r2];simp)⟩)
        (by
          intro i k o p _ hp hk he;have:=onlyPl p hp he;subst this;rw [hmem] at hk;cases hk)
        (by
          intro i k i' k' o o' h h' _;obtain ⟨rfl,rfl,_⟩:=qH h;obtain ⟨rfl,rfl,_⟩:=qH h';exact ⟨rfl,rfl⟩)
        (by
          intro p hp hk;refine L2 ?_;intro he;have:=onlyPl p hp he.symm;subst this;rw [hmem] at hk;cases hk)
        (by
          intro id r hr hf;rw [L2]
          . exact hr
          . intro he;subst he;rw [z1] at hr;injection hr with hr;rcases hf with hf | hf
            . obtain ⟨_,_,_,_,hf⟩:=hf;rw [<-hr] at hf;cases hf
            . exact s.ok.nf pl (by rw [r2];simp) hf)
        (by
          intro i hi ek cs hr;rw [L2]
          . exact hr
          . intro he;rw [<-he,z1] at hr;cases hr) ⟨rfl,rfl⟩ rfl rfl
       obtain ⟨Z,hZ,st',hH'⟩:=g1.put dst;refine ⟨Z,fr.put dst (.sl (X.th pl).1 ((X.th pl).2.1+1) 0 (xs++new).length),?_,hZ,g2.trans st'⟩;rw [hH'];simp only [q9,appH,hn,r1,z1];rw [if_pos ⟨trivial,trivial,trivial,by omega,hl1,hl2⟩,ht];simp only [List.length_append];rfl
     . cases h
   . cases h
def U1:HO->HO
 | .row _ e ek ver xs=>.row true e ek ver xs
 | o=>o
theorem zd5 (id:Nat) (H:q7) (j:Nat):(P1 id H)[j]?=if j=id then (H[j]?).map U1 else H[j]?:=by
 unfold P1;by_cases hj:j=id
 . subst hj;rw [if_pos rfl];cases h:H[j]? with
   | none=>simp [h]
   | some o=>
     have hlt:=(gEs h).1;cases o with
     | var ek cs=>simp [h,U1]
     | row fz e ek ver xs=>simp [hlt,U1]
     | mp es ck=>simp [h,U1]
 . rw [if_neg hj];split
   . exact L2 (fun e=>hj e.symm)
   . rfl
def u9:List Nat->q7->q7
 | [],H=>H
 | id::r,H=>u9 r (P1 id H)
theorem z21:U1∘U1=U1:=by funext o;cases o<;>rfl
theorem jZ:∀ (ids:List Nat) (H:q7) (j:Nat),(u9 ids H)[j]?=if j∈ids then (H[j]?).map U1 else H[j]?:=by
 intro ids;induction ids with
 | nil=>intro H j;simp [u9]
 | cons id ids ih=>
   intro H j;simp only [u9,ih,zd5,List.mem_cons];by_cases h1:j=id<;>by_cases h2:j∈ids<;>simp [h1,h2]
   all_goals
    first
    | (subst h1;simp [h2,z21])
    | skip
theorem yQ:∀ (a b:List Nat) (H:q7),u9 (a++b) H=u9 b (u9 a H):=by
 intro a;induction a with
 | nil=>intro b H;rfl
 | cons x a ih=>intro b H;simp only [List.cons_append,u9,ih]
def B9:List HV->List Nat
 | []=>[]
 | .sl id _ _ _::r=>id::B9 r
 | _::r=>B9 r
theorem mQ:∀ (l:List HV) (H:q7),l7 l H=u9 (B9 l) H:=by
 intro l;induction l with
 | nil=>intro H;rfl
 | cons v l ih=>
   intro H;cases v with
   | sl id ver off n=>simp only [l7,B9,u9,ih]
   | _=>simp only [l7,B9,ih]
def G6:HV->List Nat
 | .c _=>[]
 | .agg cs=>B9 cs
 | .sl id _ _ _=>[id]
 | _=>[]
structure FzOk (X:Cx) (ids:List Nat) (ps:List Pl):Prop where
 id:∀ j,j∈ids->(∃ p,p∈ps/\X.O p≠none/\j=(X.th p).1)\/∃ r,X.H[j]?=some r/\V5 r
 pl:∀ p,p∈ps->X.O p≠none/\(X.th p).1∈ids
theorem FzOk.nil (X:Cx):FzOk X [] []:=⟨fun _ h=>(by cases h),fun _ h=>(by cases h)⟩
theorem FzOk.append {X:Cx} {a b:List Nat} {p q:List Pl} (h:FzOk X a p) (k:FzOk X b q):FzOk X (a++b) (p++q):=by
 refine ⟨?_,?_⟩
 . intro j hj;rcases List.mem_append.1 hj with hj | hj
   . exact (h.id j hj).imp (fun ⟨p,h1,h2⟩=>⟨p,List.mem_append_left _ h1,h2⟩) (fun x=>x)
   . exact (k.id j hj).imp (fun ⟨p,h1,h2⟩=>⟨p,List.mem_append_right _ h1,h2⟩) (fun x=>x)
 . intro x hx;rcases List.mem_append.1 hx with hx | hx
   . exact ⟨(h.pl x hx).1,List.mem_append_left _ (h.pl x hx).2⟩
   . exact ⟨(k.pl x hx).1,List.mem_append_right _ (k.pl x hx).2⟩
theorem z27 {H:q7} {id:Nat} {fz:Bool} {e:Nat} {ek:Option Nat} {ver:Nat} {xs:List CV} (h:H[id]?=some (.row fz e ek ver xs)) (ids:List Nat):∃ fz',(u9 ids H)[id]?=some (.row fz' e ek ver xs):=by
 rw [jZ,h];split
 . exact ⟨true,rfl⟩
 . exact ⟨fz,rfl⟩
theorem dM {H:q7} {id ver off len:Nat} {fz:Bool} {e:Nat} {ek:Option Nat} {ys:List CV} (h:H[id]?=some (.row fz e ek ver ys)) (hl:off+len<=ys.length) (ids:List Nat) :
 t6 (u9 ids H) (.sl id ver off len)=some (.frz ek ((ys.drop off).take len)):=by
 obtain ⟨fz',h'⟩:=z27 h ids;simp only [t6,h'];rw [if_pos ⟨trivial,hl⟩]
theorem rV {X:Cx} (hx:XOk X) {p:Pl} {b:Bool} {off e:Nat} {ek:Option Nat} {xs:List CV} (hv:vA X p b off e ek xs) (ids:List Nat) :
 t6 (u9 ids X.H) (.sl (X.th p).1 (X.th p).2.1 ((X.th p).2.2+off) xs.length)=some (.frz ek xs):=by
 obtain ⟨b',ys,r2,r3,r4,r5⟩:=hv;obtain ⟨zs,z1,z2,z3,z4⟩:=hx.own p _ _ _ _ r2;rw [dM z1 (by omega)];rw [yP zs ys _ off xs.length z3 r3,r4]
theorem rE {X:Cx} {fz:Bool} {id ver off:Nat} {ek:Option Nat} {xs:List CV} (hv:ImmOk X fz id ver off ek xs) (ids:List Nat) :
 t6 (u9 ids X.H) (.sl id ver off xs.length)=some (.frz ek xs):=by
 obtain ⟨fb,e,ys,r1,r2,r3,_⟩:=hv;rw [dM r1 r2,r3]
theorem pJ {X:Cx} (hx:XOk X) {pl:Pl} {v:WV} {h:HV} (r:VR1 X pl v h) {u:CV} {ps:List Pl} (hc:yB v=some (u,ps)) (ids:List Nat) :
 t6 (u9 ids X.H) h=some u/\FzOk X (B9 [h]) ps:=by
 cases v with
 | c w=>injection hc with hc;injection hc with h1 h2;subst h1;subst h2;have r':h=.c w:=r;subst r';exact ⟨rfl,FzOk.nil X⟩
 | nils=>injection hc with hc;injection hc with h1 h2;subst h1;subst h2;have r':h=.nils:=r;subst r';exact ⟨rfl,FzOk.nil X⟩
 | view p b off e ek xs=>
   injection hc with hc;injection hc with h1 h2;subst h1;subst h2;obtain ⟨rfl,r2⟩:=r;refine ⟨rV hx r2 ids,?_⟩;have hO:X.O p≠none:=by obtain ⟨b',ys,q,_⟩:=r2;rw [q];simp
   exact ⟨fun j hj=>.inl ⟨p,by simp,hO,by simpa [B9] using hj⟩,fun x hx=>by simp only [List.mem_singleton] at hx;subst hx;exact ⟨hO,by simp [B9]⟩⟩
 | imm fz ek xs=>
   cases fz with
   | true=>
     injection hc with hc;injection hc with h1 h2;subst h1;subst h2;obtain ⟨id,ver,off,rfl,r2⟩:=r;refine ⟨rE r2 ids,?_⟩;obtain ⟨fb,e,ys,q1,_,_,q4,_⟩:=r2;exact ⟨fun j hj=>.inr ⟨_,by simp only [B9,List.mem_singleton] at hj;subst hj;exact q1,by rw [q4 rfl];exact ⟨_,_,_,_,rfl⟩⟩,fun x hx=>by cases hx⟩
   | false=>cases hc
 | _=>cases hc
theorem lP (a:HV) (l:List HV):B9 (a::l)=B9 [a]++B9 l:=by cases a<;>rfl
theorem zz0 {X:Cx} (hx:XOk X) {q:Nat->Pl} (ids:List Nat):∀ {l:List WV} {k:Nat} {s:List HV} {us:List CV} {ps:List Pl},VRL X q k l s->wL l=some (us,ps) ->
 m8 (u9 ids X.H) s=some us/\FzOk X (B9 s) ps:=by
 intro l;induction l with
 | nil=>intro k s us ps r h;cases s with
   | nil=>injection h with h;injection h with h1 h2;subst h1;subst h2;exact ⟨rfl,FzOk.nil X⟩
   | cons=>exact r.elim
 | cons v l ih=>intro k s us ps r h;cases s with
   | nil=>exact r.elim
   | cons a s=>
     simp only [wL] at h;split at h
     . rename_i u p us' ps' h1 h2;injection h with h;injection h with h3 h4;subst h3;subst h4;obtain ⟨t1,f1⟩:=pJ hx r.1 h1 ids;obtain ⟨t2,f2⟩:=ih r.2 h2;exact ⟨by simp only [m8,t1,t2],by rw [lP];exact f1.append f2⟩
     . cases h
theorem rM {X:Cx} (hx:XOk X) {q:Nat->Nat->Pl} {v:WV} {h:HV} (r:VR X q v h) (ho:y7 v=false) {u:CV} {ps:List Pl} (hc:jL v=some (u,ps)) (ids:List Nat) :
 G9 h (u9 ids X.H)=some (u,u9 (ids++G6 h) X.H)/\FzOk X (G6 h) ps:=by
 cases v with
 | agg cs=>
   obtain ⟨hs,rfl,r2⟩:=r;simp only [jL] at hc;split at hc
   . rename_i l ps' hl;injection hc with hc;injection hc with h1 h2;subst h1;subst h2;obtain ⟨t1,t2⟩:=zz0 hx ids r2 hl;exact ⟨by simp only [G9,u7,t1,I3,mQ,yQ,G6],t2⟩
   . cases hc
 | c w=>
   injection hc with hc;injection hc with h1 h2;subst h1;subst h2;have r':h=.c w:=r;subst r';exact ⟨by simp only [G9,G6,List.append_nil],FzOk.nil X⟩
 | nils=>
   have r':h=.nils:=r;subst r';injection hc with hc;injection hc with h1 h2;subst h1;subst h2;exact ⟨by simp only [G9,u7,t6,I3,l7,G6,List.append_nil],FzOk.nil X⟩
 | view p b off e ek xs=>
   obtain ⟨t1,t2⟩:=pJ (pl:=.tmp 0 0) hx (v:=.view p b off e ek xs) r hc ids;obtain ⟨rfl,_⟩:=r;exact ⟨by simp only [G9,u7,t1,I3,l7,G6,yQ,u9],t2⟩
 | imm fz ek xs=>
   obtain ⟨t1,t2⟩:=pJ (pl:=.tmp 0 0) hx (v:=.imm fz ek xs) r hc ids;obtain ⟨id,ver,off,rfl,_⟩:=r;exact ⟨by simp only [G9,u7,t1,I3,l7,G6,yQ,u9],t2⟩
 | _=>cases hc
theorem z88 {H:q7} {id:Nat} {ek:Option Nat} {cs:List HV} (h:H[id]?=some (.var ek cs)) (ids:List Nat):(u9 ids H)[id]?=some (.var ek cs):=by
 rw [jZ,h];split<;>rfl
theorem mem_inK {K:List Pl} {p:Pl}:inK K p=true↔p∈K:=by
 simp only [inK,List.any_eq_true,decide_eq_true_eq];exact ⟨fun ⟨x,h1,h2⟩=>h2▸h1,fun h=>⟨p,h,rfl⟩⟩
theorem SR.freeze {X:Cx} {w:WFr} {W:q8} {fr:Fr} (s:SR X w W fr) {ids:List Nat} {ps:List Pl} (f:FzOk X ids ps) :
 ∃ Y,SR Y (b8 (inK ps) true w) (c6 true ps W) fr/\WStp X Y/\Y.H=u9 ids X.H/\(∀ p,Y.O p=if inK ps p=true then none else X.O p)/\Y.th=X.th:=by
 have notIn:∀ p,X.O p≠none->inK ps p=false->(X.th p).1 ∉ ids:=by
  intro p hp hk hm;rcases f.id _ hm with ⟨p',h1,h2,h3⟩ | ⟨r,h1,h2⟩
  . have:=s.ok.dis p p' hp h2 h3;subst this;rw [mem_inK.2 h1] at hk;cases hk
  . obtain ⟨o,ho⟩:=Option.ne_none_iff_exists'.1 hp;obtain ⟨b,e,ek,xs⟩:=o;obtain ⟨ys,r1,_⟩:=s.ok.own p _ _ _ _ ho;rw [r1] at h1;injection h1 with h1;obtain ⟨_,_,_,_,h2⟩:=h2;rw [<-h1] at h2;cases h2
 have keep:∀ id r,X.H[id]?=some r->(V5 r\/X.F id)->(u9 ids X.H)[id]?=some r:=by
  intro id r hr hf;rw [jZ];split
  . rename_i hm;rcases hf with hf | hf
    . obtain ⟨e,ek,ver,xs,rfl⟩:=hf;rw [hr];rfl
    . rcases f.id _ hm with ⟨p',h1,h2,h3⟩ | ⟨r',h1,h2⟩
      . exact (s.ok.nf p' h2 (h3▸hf)).elim
      . rw [hr] at h1;injection h1 with h1;subst h1;obtain ⟨e,ek,ver,xs,rfl⟩:=h2;rw [hr];rfl
  . exact hr
 let Y:Cx:={ X with O:=fun p=>if inK ps p=true then none else X.O p,H:=u9 ids X.H }
 have hO:∀ p,Y.O p≠none->inK ps p=false/\X.O p≠none:=by
  intro p h;simp only [Y] at h;cases hk:inK ps p with
  | true=>rw [hk] at h;exact (h rfl).elim
  | false=>rw [hk] at h;exact ⟨rfl,by simpa using h⟩
 have E:Ext (inK ps) true X Y:=by
  refine ⟨Nat.le_refl _,fun _ _=>rfl,?_,fun _ h=>h,keep,?_⟩
  . intro p hp _;exact ⟨rfl,by simp only [Y,hp];rfl⟩
  . intro _ p b e ek xs hk ho;obtain ⟨ys,r1,r2,r3,r4⟩:=s.ok.own p _ _ _ _ ho;refine ⟨true,e,ys,?_,r2,r3,fun _=>rfl,fun h=>by cases h⟩;show (u9 ids X.H)[(X.th p).1]?=_;rw [jZ,if_pos (f.pl p (mem_inK.1 hk)).2,r1];rfl
 refine ⟨Y,⟨⟨?_,?_,?_,s.ok.rinj,fun i hi=>?_,fun i k hi=>by simp only [Y,s.ok.hz i k hi];split<;>rfl⟩,s.fr.hit E,s.hp.hit' E rfl (fun i _ ek cs h=>z88 h ids),?_⟩,⟨Nat.le_refl _,fun _ _=>rfl,rfl,keep⟩,rfl,fun p=>rfl,rfl⟩
 . intro p b e ek xs h;obtain ⟨k1,k2⟩:=hO p (by rw [h];simp);have h':X.O p=some (b,e,ek,xs):=by simpa [Y,k1] using h
   obtain ⟨ys,r1,r2⟩:=s.ok.own p _ _ _ _ h';refine ⟨ys,?_,r2⟩;show (u9 ids X.H)[(X.th p).1]?=_;rw [jZ,if_neg (notIn p k2 k1)];exact r1
 . intro p p' h h' he;exact s.ok.dis p p' (hO p h).2 (hO p' h').2 he
 . intro p h;exact s.ok.nf p (hO p h).2
 . obtain ⟨a,b,c,d,e,hr⟩:=s.ok.fl i hi;exact ⟨a,b,c,d,e,keep i _ hr (.inr hi)⟩
 . intro i k;simp only [Y,s.ht i k];split<;>rfl
theorem z96 {X:Cx} {w:WFr} {W:q8} {fr:Fr} (s:SR X w W fr) (ek:Option Nat):∀ (ps:List (Nat×Opd)) {xs l:List CV} {pls:List Pl} (ids:List Nat),
 Y4 ek xs (ps.map fun p=>(p.1,w.rd p.2))=some (l,pls) ->
 ∃ ids',C5 ek xs (u9 ids X.H) (ps.map fun p=>(p.1,fr.opd p.2))=some (l,u9 (ids++ids') X.H)/\FzOk X ids' pls:=by
 intro ps;induction ps with
 | nil=>
   intro xs l pls ids h;injection h with h;injection h with h1 h2;subst h1;subst h2;exact ⟨[],by simp only [List.map_nil,C5,List.append_nil],FzOk.nil X⟩
 | cons p ps ih=>
   obtain ⟨i,x⟩:=p;intro xs l pls ids h;simp only [List.map_cons,Y4] at h;split at h
   . rename_i u ps1 hu;split at h
     . rename_i hc;split at h
       . rename_i l' qs hl;injection h with h;injection h with h1 h2;subst h1;subst h2;have rx:=rdR s.fr Pl.tmp x (by intro e;rw [e] at hu;cases hu);obtain ⟨c1,c2⟩:=rM s.ok rx (M4 w x) hu ids;obtain ⟨ids',i1,i2⟩:=ih (ids++G6 (fr.opd x)) hl;refine ⟨G6 (fr.opd x)++ids',?_,c2.append i2⟩;simp only [List.map_cons,C5,c1];rw [if_pos hc,i1,List.append_assoc]
       . cases h
     . cases h
   . cases h
theorem zg8 {fz:Bool} {e:Nat} {ek:Option Nat} {zero:List CV} {n:Nat} {parts:List (Nat×Opd)} {dst:Option Nat} {X:Cx} {w w':WFr} {W W':q8} {fr:Fr} (s:SR X w W fr)
 (h:j4 (.bsl fz e ek zero n parts) dst w W=some (w',W')):WSim (.bsl fz e ek zero n parts) dst X w W fr w' W':=by
 simp only [j4] at h;split at h
 . rename_i z hz;split at h
   . rename_i hfz;split at h
     . rename_i xs ps hr;rw [zC] at h;injection h with h;injection h with h1 h2;subst h1;subst h2;obtain ⟨ids,i1,i2⟩:=z96 s ek parts [] hr;obtain ⟨Y,hY,st,hH,_⟩:=s.freeze i2;simp only [u9,List.nil_append] at i1;have hlen:xs.length=n:=by
        have:∀ (ps:List (Nat×WV)) (a l:List CV) (q:List Pl),Y4 ek a ps=some (l,q)->l.length=a.length:=by
         intro ps;induction ps with
         | nil=>intro a l q h;injection h with h;injection h with h1 h2;rw [h1]
         | cons p ps ih=>
           intro a l q h;obtain ⟨i,v⟩:=p;simp only [Y4] at h;split at h
           . split at h
             . split at h
               . rename_i hh;injection h with h;injection h with h1 h2;subst h1;have:=ih _ _ _ hh;simpa using this
               . cases h
             . cases h
           . cases h
        have:=this _ _ _ _ hr;simpa using this
       cases fz with
       | true=>
         refine ⟨Y,fr.put dst (.c (.frz ek xs)),?_,hY.putc dst _,st⟩;simp only [q9,hz];rw [if_pos hfz,i1,hH];rfl
       | false=>
         obtain ⟨Z,hZ,st',hH'⟩:=hY.fresh e ek xs;obtain ⟨V,hV,st'',hH''⟩:=hZ.put dst;refine ⟨V,_,?_,hV,(st.trans st').trans st''⟩;simp only [q9,hz];rw [if_pos hfz,i1,hH'',hH',hH];simp only [Bool.false_eq_true,if_false,hlen]
     . cases h
   . cases h
 . cases h
end Go.Proofs.Lz
