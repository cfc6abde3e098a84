/- Stores into an element of a slice, and all operations together. -/
import Derived.Test.YtlimfobeoodkjaaGreatDoorLzWOps6
namespace Go.Proofs.Lz
def isP (pl:Pl):Pl->Bool:=fun p=>decide (p=pl)
theorem xC {pl q:Pl} (h:q≠pl) (v:WV):x8 (isP pl) false q v=O1 pl v:=by
 cases v with
 | own b e ek xs=>simp [x8,isP,h,O1]
 | view p b off e ek xs=>simp only [x8,isP,O1,decide_eq_true_eq]
 | eptr p i off ek x=>simp only [x8,isP,O1,decide_eq_true_eq]
 | _=>rfl
theorem oI {pl:Pl} {q:Nat->Pl} (h:∀ k,q k≠pl):∀ (l:List WV) (k:Nat),C6 (isP pl) false q k l=l.map (O1 pl):=by
 intro l;induction l with
 | nil=>intro k;rfl
 | cons v l ih=>intro k;simp only [C6,List.map_cons,xC (h k),ih]
theorem pC {pl:Pl} {q:Nat->Pl} (h:∀ k,q k≠pl) (v:WV):b6 (isP pl) false q v=N2 pl v:=by
 cases v with
 | agg cs=>simp only [b6,N2,oI h]
 | _=>simp only [b6,N2,xC (h 0)]
theorem zc3 {pl:Pl} {q:Nat->Nat->Pl} (h:∀ i k,q i k≠pl):∀ (l:List WV) (k:Nat),C3 (isP pl) false q k l=l.map (N2 pl):=by
 intro l;induction l with
 | nil=>intro k;rfl
 | cons v l ih=>intro k;simp only [C3,List.map_cons,pC (h k),ih]
theorem nK {pl:Pl} {q:Nat->Nat->Pl} (h:∀ i k,q i k≠pl) (v:WV):hit (isP pl) false q v=blind pl v:=by
 cases v with
 | tup vs=>simp only [hit,blind,zc3 h]
 | lbox ek w=>simp only [hit,blind,pC (h 0)]
 | _=>simp only [hit,blind,pC (h 0)]
def Cx.reel (Y:Cx) (pl:Pl) (o:Bool×Nat×Option Nat×List CV) (H':q7):Cx:=
 { Y with O:=fun p=>if p=pl then some o else Y.O p,H:=H' }
theorem q13 {α:Type} (zs ys:List α) (o i:Nat) (x:α) (h:(zs.drop o).take ys.length=ys):((zs.set (o+i) x).drop o).take (ys.set i x).length=ys.set i x:=by
 rw [List.drop_set,if_neg (by omega),List.length_set,show o+i - o=i by omega,List.take_set,h]
theorem Cx.reel_ok {Y:Cx} (hx:XOk Y) {pl:Pl} {b:Bool} {e:Nat} {ek:Option Nat} {ys zs:List CV} {i:Nat} {x':CV} (ho:Y.O pl=some (b,e,ek,ys)) (hz:Y.H[(Y.th pl).1]?=some (.row false e ek (Y.th pl).2.1 zs))
 (h1:(Y.th pl).2.2+ys.length<=zs.length) (h2:(zs.drop (Y.th pl).2.2).take ys.length=ys) (h3:b=true->(Y.th pl).2.2=0) :
 let Z:=Y.reel pl (b,e,ek,ys.set i x') (Y.H.set (Y.th pl).1 (.row false e ek (Y.th pl).2.1 (zs.set ((Y.th pl).2.2+i) x')))
 XOk Z/\Ext (isP pl) false Y Z/\WStp Y Z:=by
 intro Z;have hlt:=(gEs hz).1;have hne:∀ p,Z.O p≠none->Y.O p≠none:=by
  intro p h;by_cases hp:p=pl
  . subst hp;rw [ho];simp
  . simpa [Z,Cx.reel,hp] using h
 have other:∀ p,Y.O p≠none->p≠pl->(Y.th pl).1≠(Y.th p).1:=fun p hp hn he=>hn (hx.dis p pl hp (by rw [ho];simp) he.symm);have keep:∀ (id:Nat) (r:HO),Y.H[id]?=some r->(V5 r\/Y.F id)->(Y.H.set (Y.th pl).1 (.row false e ek (Y.th pl).2.1 (zs.set ((Y.th pl).2.2+i) x')))[id]?=some r:=by
  intro id r hr hf;rw [L2]
  . exact hr
  . intro he;subst he;rw [hz] at hr;injection hr with hr;rcases hf with hf | hf
    . obtain ⟨_,_,_,_,hf⟩:=hf;rw [<-hr] at hf;cases hf
    . exact hx.nf pl (by rw [ho];simp) hf
 refine ⟨⟨?_,fun p p' h h' he=>hx.dis p p' (hne p h) (hne p' h') he,fun p h=>hx.nf p (hne p h),hx.rinj,?_,?_⟩,⟨Nat.le_refl _,fun _ _=>rfl,?_,fun _ h=>h,keep,fun h=>by cases h⟩,⟨Nat.le_refl _,fun _ _=>rfl,rfl,keep⟩⟩
 . intro p b' e' ek' xs h;by_cases hp:p=pl
   . subst hp;simp only [Z,Cx.reel,if_true,Option.some.injEq,Prod.mk.injEq] at h;obtain ⟨rfl,rfl,rfl,rfl⟩:=h;refine ⟨zs.set ((Y.th p).2.2+i) x',?_,?_,q13 _ _ _ _ _ h2,h3⟩
     . show (Y.H.set _ _)[(Y.th p).1]?=_;exact List.getElem?_set_self hlt
     . show (Y.th p).2.2+_<=_;simp only [List.length_set];exact h1
   . have h':Y.O p=some (b',e',ek',xs):=by simpa [Z,Cx.reel,hp] using h
     obtain ⟨ws,r1,r2⟩:=hx.own p _ _ _ _ h';refine ⟨ws,?_,r2⟩;show (Y.H.set _ _)[(Y.th p).1]?=_;rw [L2 (other p (by rw [h'];simp) hp)];exact r1
 . intro j hj;obtain ⟨a,b',c,d,f,hr⟩:=hx.fl j hj;exact ⟨a,b',c,d,f,keep j _ hr (.inr hj)⟩
 . intro j k hj;have hn:=hx.hz j k hj;show (if Pl.hp j k=pl then _ else _)=none;rw [if_neg]
   . exact hn
   . intro he;subst he;rw [ho] at hn;cases hn
 . intro p hp _;have hne:p≠pl:=by simpa [isP] using hp
   exact ⟨rfl,by show (if p=pl then _ else _)=_;rw [if_neg hne]⟩
theorem nP {Y Z:Cx} {q:Nat->Pl} {pl:Pl} {b:Bool} {e:Nat} {ek:Option Nat} {ys:List CV} {i:Nat} {f:CV->Option CV} {x x':CV}
 (E:Ext (isP pl) false Y Z) (hT:Z.th pl=Y.th pl) (ho:Y.O pl=some (b,e,ek,ys)) (hO:Z.O pl=some (b,e,ek,ys.set i x')) (hx:ys[i]?=some x) (hf:f x=some x') :
 ∀ {l l':List WV} {k j:Nat} {s:List HV},VRL Y q k l s->K4 i f j l=some l'->q (k+j)=pl->(∀ m,q m=pl->m=k+j)->VRL Z q k (l'.map (O1 pl)) s:=by
 intro l;induction l with
 | nil=>intro l' k j s _ h;cases j<;>cases h
 | cons v l ih=>
   intro l' k j s r h hq hu;cases s with
   | nil=>exact r.elim
   | cons a s=>
     cases j with
     | zero=>
       simp only [K4] at h;split at h
       . rename_i v' hv';injection h with h;subst h;have hrest:∀ (l:List WV) (m:Nat) (s:List HV),k<m->VRL Y q m l s->VRL Z q m (l.map (O1 pl)) s:=by
          intro l;induction l with
          | nil=>intro m s _ r;cases s with
            | nil=>trivial
            | cons=>exact r.elim
          | cons w l ih=>
            intro m s hm r;cases s with
            | nil=>exact r.elim
            | cons a s=>
              have:q m≠pl:=fun e=>by have:=hu m e;omega
              have t:=r.1.hit E;rw [xC this] at t;exact ⟨t,ih (m+1) s (by omega) r.2⟩
         refine ⟨?_,hrest l (k+1) s (by omega) r.2⟩;rw [Nat.add_zero] at hq;cases v with
         | own b1 e1 ek1 xs1=>
           obtain ⟨r1,r2⟩:=r.1;rw [hq,ho] at r2;simp only [Option.some.injEq,Prod.mk.injEq] at r2;obtain ⟨rfl,rfl,rfl,rfl⟩:=r2;simp only [J1,hx,hf,Option.some.injEq] at hv';subst hv';rw [hq] at r1;exact ⟨by rw [hq,hT];simpa using r1,by rw [hq];exact hO⟩
         | _=>cases hv'
       . cases h
     | succ j=>
       simp only [K4] at h;split at h
       . rename_i l2 hl2;injection h with h;subst h;have hne:q k≠pl:=fun e=>by have:=hu k e;omega
         have t:=r.1.hit E;rw [xC hne] at t;exact ⟨t,ih r.2 hl2 (by rw [<-hq];congr 1;omega) (fun m hm=>by rw [hu m hm];omega)⟩
       . cases h
theorem sW {Y Z:Cx} {q:Nat->Pl} {pl:Pl} {b:Bool} {e:Nat} {ek:Option Nat} {ys:List CV} {i k:Nat} {f:CV->Option CV} {x x':CV}
 (E:Ext (isP pl) false Y Z) (hT:Z.th pl=Y.th pl) (ho:Y.O pl=some (b,e,ek,ys)) (hO:Z.O pl=some (b,e,ek,ys.set i x')) (hx:ys[i]?=some x) (hf:f x=some x')
 {v v':WV} {h:HV} (r:VRC Y q v h) (hs:H8 i k f v=some v') (hq:q k=pl) (hu:∀ m,q m=pl->m=k):VRC Z q (N2 pl v') h:=by
 have scal:∀ v,(∀ cs,v≠.agg cs)->VRC Y q v h->(if k=0 then J1 i f v else none)=some v'->VRC Z q (N2 pl v') h:=by
  intro v _ r hs;split at hs
  . rename_i hk;subst hk;cases v with
    | own b1 e1 ek1 xs1=>
      obtain ⟨r1,r2⟩:=r;rw [hq,ho] at r2;simp only [Option.some.injEq,Prod.mk.injEq] at r2;obtain ⟨rfl,rfl,rfl,rfl⟩:=r2;simp only [J1,hx,hf,Option.some.injEq] at hs;subst hs;rw [hq] at r1;exact ⟨by rw [hq,hT];simpa using r1,by rw [hq];exact hO⟩
    | _=>cases hs
  . cases hs
 by_cases hv:∃ cs,v=.agg cs
 . obtain ⟨cs,rfl⟩:=hv;obtain ⟨hs',r1,r2⟩:=r;simp only [H8] at hs;split at hs
   . rename_i cs' hcs;injection hs with hs;subst hs;exact ⟨hs',r1,nP E hT ho hO hx hf r2 hcs (by rw [Nat.zero_add];exact hq) (fun m hm=>by rw [hu m hm,Nat.zero_add])⟩
   . cases hs
 . refine scal v (fun cs e=>hv ⟨cs,e⟩) r ?_;revert hs
   cases v with
   | agg cs=>exact (hv ⟨cs,rfl⟩).elim
   | _=>exact fun h=>h
theorem kB {i k:Nat} {f:CV->Option CV} {Y:Cx} {q:Nat->Pl} {v v':WV} {h:HV} (r:VRC Y q v h) (hs:H8 i k f v=some v'):∃ b e ek ys x x',Y.O (q k)=some (b,e,ek,ys)/\ys[i]?=some x/\f x=some x':=by
 have e1:∀ {pl:Pl} {v v':WV} {h:HV},VR1 Y pl v h->J1 i f v=some v'->∃ b e ek ys x x',Y.O pl=some (b,e,ek,ys)/\ys[i]?=some x/\f x=some x':=by
  intro pl v v' h r hs;cases v with
  | own b e ek xs=>
    simp only [J1] at hs;split at hs
    . rename_i x hx;split at hs
      . rename_i x' hx';exact ⟨b,e,ek,xs,x,x',r.2,hx,hx'⟩
      . cases hs
    . cases hs
  | _=>cases hs
 have eL:∀ {l l':List WV} {k0 j:Nat} {s:List HV},VRL Y q k0 l s->K4 i f j l=some l'->∃ b e ek ys x x',Y.O (q (k0+j))=some (b,e,ek,ys)/\ys[i]?=some x/\f x=some x':=by
  intro l;induction l with
  | nil=>intro l' k0 j s _ h;cases j<;>cases h
  | cons v l ih=>
    intro l' k0 j s r h;cases s with
    | nil=>exact r.elim
    | cons a s=>
      cases j with
      | zero=>
        simp only [K4] at h;split at h
        . rename_i v' hv';exact e1 r.1 hv'
        . cases h
      | succ j=>
        simp only [K4] at h;split at h
        . rename_i l2 hl2;have:=ih r.2 hl2;rw [show k0+1+j=k0+(j+1) by omega] at this;exact this
        . cases h
 by_cases hv:∃ cs,v=.agg cs
 . obtain ⟨cs,rfl⟩:=hv;obtain ⟨hs',r1,r2⟩:=r;simp only [H8] at hs;split at hs
   . rename_i cs' hcs;have:=eL r2 hcs;rw [Nat.zero_add] at this;exact this
   . cases hs
 . have hs2:(if k=0 then J1 i f v else none)=some v':=by
    revert hs
    cases v with
    | agg cs=>exact (hv ⟨cs,rfl⟩).elim
    | _=>exact fun h=>h
   split at hs2
   . rename_i hk;subst hk;cases v with
     | own b e ek xs=>exact e1 (v:=.own b e ek xs) r hs2
     | _=>cases hs2
   . cases hs2
theorem iK {i k:Nat} {f:CV->Option CV} {v v':WV} (h:H8 i k f v=some v'):(∀ vs,v'≠.tup vs)/\∀ ek w,v'≠.lbox ek w:=by
 have e1:∀ {v v':WV},J1 i f v=some v'->(∀ vs,v'≠.tup vs)/\∀ ek w,v'≠.lbox ek w:=by
  intro v v' h;cases v with
  | own b e ek xs=>
    simp only [J1] at h;split at h
    . split at h
      . injection h with h;subst h;exact ⟨fun _ e=>(by cases e),fun _ _ e=>(by cases e)⟩
      . cases h
    . cases h
  | _=>cases h
 by_cases hv:∃ cs,v=.agg cs
 . obtain ⟨cs,rfl⟩:=hv;simp only [H8] at h;split at h
   . injection h with h;subst h;exact ⟨fun _ e=>(by cases e),fun _ _ e=>(by cases e)⟩
   . cases h
 . have hs2:(if k=0 then J1 i f v else none)=some v':=by
    revert h
    cases v with
    | agg cs=>exact (hv ⟨cs,rfl⟩).elim
    | _=>exact fun h=>h
   split at hs2
   . exact e1 hs2
   . cases hs2
theorem rD {i k:Nat} {f:CV->Option CV} {v v':WV} (h:yA i k f v=some v') :
 (∃ ek c c',v=.lbox ek c/\v'=.lbox ek c'/\H8 i k f c=some c')\/((∀ vs,v≠.tup vs)/\(∀ ek w,v≠.lbox ek w)/\H8 i k f v=some v'/\(∀ vs,v'≠.tup vs)/\∀ ek w,v'≠.lbox ek w):=by
 by_cases hb:∃ ek c,v=.lbox ek c
 . obtain ⟨ek,c,rfl⟩:=hb;simp only [yA] at h;split at h
   . rename_i c' hc';injection h with h;subst h;exact .inl ⟨ek,c,c',rfl,rfl,hc'⟩
   . cases h
 . have h':H8 i k f v=some v':=by
    revert h
    cases v with
    | lbox ek c=>exact (hb ⟨ek,c,rfl⟩).elim
    | _=>exact fun h=>h
   refine .inr ⟨?_,fun ek w e=>hb ⟨ek,w,e⟩,h',iK h'⟩;intro vs e;subst e;simp only [H8,J1] at h';split at h'<;>cases h'
theorem zx8 {pl:Pl} {v:WV} (h1:∀ vs,v≠.tup vs) (h2:∀ ek w,v≠.lbox ek w):blind pl v=N2 pl v:=by
 cases v with
 | tup vs=>exact (h1 _ rfl).elim
 | lbox ek w=>exact (h2 _ _ rfl).elim
 | _=>rfl
theorem zo8 {Y:Cx} {w w2:WFr} {W W2:q8} {fr:Fr} (s:SR Y w W fr) {pl:Pl} {i:Nat} {f:CV->Option CV} (h:vM pl i f w W=some (w2,W2)) :
 ∃ b e ek ys zs x x',Y.O pl=some (b,e,ek,ys)/\ys[i]?=some x/\f x=some x'/\Y.H[(Y.th pl).1]?=some (.row false e ek (Y.th pl).2.1 zs)/\zs[(Y.th pl).2.2+i]?=some x /\
  ∃ Z,SR Z (vL pl w2) W2 fr/\WStp Y Z/\Z.H=Y.H.set (Y.th pl).1 (.row false e ek (Y.th pl).2.1 (zs.set ((Y.th pl).2.2+i) x')):=by
 unfold vM at h;split at h
 . rename_i t k;split at h
   . rename_i v' hv';injection h with h;injection h with h1 h2;subst h1;subst h2;have key:∃ b e ek ys x x',Y.O (.sl t 0 k)=some (b,e,ek,ys)/\ys[i]?=some x/\f x=some x':=by
      have r:=s.fr.env t;rcases rD hv' with ⟨ek2,c,c',e1,e2,e3⟩ | ⟨n1,n2,e3,n3,n4⟩
      . rw [e1] at r;obtain ⟨h',r1,r2⟩:=r;exact kB r2 e3
      . exact kB (r.toC n1 n2) e3
     obtain ⟨b,e,ek,ys,x,x',ho,hx,hf⟩:=key;obtain ⟨zs,z1,z2,z3,z4⟩:=s.ok.own _ _ _ _ _ ho;obtain ⟨m1,m2,m3⟩:=Cx.reel_ok s.ok (i:=i) (x':=x') ho z1 z2 z3 z4;refine ⟨b,e,ek,ys,zs,x,x',ho,hx,hf,z1,Y6 z3 hx,_,⟨m1,⟨s.fr.al,?_⟩,s.hp.still m2 (fun i k=>by simp [isP]) rfl (fun i hi=>?_),?_⟩,m3,rfl⟩
     . intro t';show VR _ (Pl.sl t') (blind _ (upd w.env t v' t')) _;simp only [upd];by_cases ht:t'=t
       . subst ht;rw [if_pos rfl];have hO:(Y.reel (Pl.sl t' 0 k) (b,e,ek,ys.set i x') (Y.H.set (Y.th (Pl.sl t' 0 k)).1 (.row false e ek (Y.th (Pl.sl t' 0 k)).2.1 (zs.set ((Y.th (Pl.sl t' 0 k)).2.2+i) x')))).O (Pl.sl t' 0 k)=some (b,e,ek,ys.set i x'):=by simp [Cx.reel]
         have hu:∀ m,Pl.sl t' 0 m=Pl.sl t' 0 k->m=k:=fun m hm=>by injection hm
         have r:=s.fr.env t';rcases rD hv' with ⟨ek2,c,c',e1,e2,e3⟩ | ⟨n1,n2,e3,n3,n4⟩
         . rw [e1] at r;obtain ⟨h',r1,r2⟩:=r;rw [e2];exact ⟨h',r1,sW m2 rfl ho hO hx hf r2 e3 rfl hu⟩
         . have:=sW m2 rfl ho hO hx hf (r.toC n1 n2) e3 rfl hu;rw [zx8 n3 n4];exact N9 this
       . rw [if_neg ht];have:=(s.fr.env t').hit m2;rw [nK (fun a b=>fun e=>ht (by injection e))] at this;exact this
     . obtain ⟨o,ho'⟩:∃ o,W[i]?=some o:=⟨_,gEg (by rw [<-s.hp.n];exact hi)⟩;obtain ⟨ek',cs⟩:=o;obtain ⟨⟨hs,c1,_⟩,_⟩:=s.hp.cells i ek' cs ho';show (Y.H.set _ _)[_]?=_;rw [L2];intro he;rw [<-he,z1] at c1;cases c1
     . intro a c;simp [Cx.reel,s.ht a c]
   . cases h
 . rename_i id k;split at h
   . rename_i ek0 cs hid;split at h
     . rename_i cs' hcs;injection h with h;injection h with h1 h2;subst h1;subst h2;obtain ⟨⟨hs,c1,c2⟩,c3⟩:=s.hp.cells id ek0 cs hid;have key:∃ b e ek ys x x',Y.O (.hp id k)=some (b,e,ek,ys)/\ys[i]?=some x/\f x=some x':=by
        have:=kB (i:=i) (k:=k) (f:=f) (Y:=Y) (q:=Pl.hp id) (v:=.agg cs) (v':=.agg cs') (h:=.agg hs) ⟨hs,rfl,c2⟩ (by simp only [H8,hcs]);exact this
       obtain ⟨b,e,ek,ys,x,x',ho,hx,hf⟩:=key;obtain ⟨zs,z1,z2,z3,z4⟩:=s.ok.own _ _ _ _ _ ho;obtain ⟨m1,m2,m3⟩:=Cx.reel_ok s.ok (i:=i) (x':=x') ho z1 z2 z3 z4;have hlt:=(gEs hid).1;have varne:∀ (j:Nat) (ek':Option Nat) (gs:List HV),Y.H[j]?=some (HO.var ek' gs)->(Y.H.set (Y.th (Pl.hp id k)).1 (.row false e ek (Y.th (Pl.hp id k)).2.1 (zs.set ((Y.th (Pl.hp id k)).2.2+i) x')))[j]?=some (HO.var ek' gs):=by
        intro j ek' gs hj;rw [L2]
        . exact hj
        . intro he;rw [<-he,z1] at hj;cases hj
       refine ⟨b,e,ek,ys,zs,x,x',ho,hx,hf,z1,Y6 z3 hx,_,⟨m1,⟨s.fr.al,?_⟩,⟨by rw [List.length_set];exact s.hp.n,?_⟩,?_⟩,m3,rfl⟩
       . intro t';have:=(s.fr.env t').hit m2;rw [nK (fun a b=>fun e=>by cases e)] at this;exact this
       . intro j ek' ds hj;by_cases hji:j=id
         . subst hji;rw [List.getElem?_set_self hlt] at hj;injection hj with hj;injection hj with h1 h2;subst h1;subst h2;have hO:(Y.reel (Pl.hp j k) (b,e,ek,ys.set i x') (Y.H.set (Y.th (Pl.hp j k)).1 (.row false e ek (Y.th (Pl.hp j k)).2.1 (zs.set ((Y.th (Pl.hp j k)).2.2+i) x')))).O (Pl.hp j k)=some (b,e,ek,ys.set i x'):=by simp [Cx.reel]
           have r:=nP (k:=0) m2 rfl ho hO hx hf c2 hcs (by rw [Nat.zero_add]) (fun m hm=>by injection hm with _ hm;rw [hm,Nat.zero_add]);have nb:∀ l:List WV,l.all E4=true->l.map (O1 (Pl.hp j k))=l:=by
            intro l;induction l with
            | nil=>intro _;rfl
            | cons v l ih=>
              intro hl;simp only [List.all_cons,Bool.and_eq_true] at hl;rw [List.map_cons,ih hl.2];congr 1;cases v with
              | view=>cases hl.1
              | eptr=>cases hl.1
              | _=>rfl
           have hall:∀ (l l':List WV) (m:Nat),K4 i f m l=some l'->l.all E4=true->l'.all E4=true:=by
            intro l;induction l with
            | nil=>intro l' m hm;cases m<;>cases hm
            | cons v l ih=>
              intro l' m hm hl;simp only [List.all_cons,Bool.and_eq_true] at hl;cases m with
              | zero=>
                simp only [K4] at hm;split at hm
                . rename_i v' hv';injection hm with hm;subst hm;simp only [List.all_cons,Bool.and_eq_true];refine ⟨?_,hl.2⟩;cases v with
                  | own b2 e2 ek2 xs2=>
                    simp only [J1] at hv';split at hv'
                    . split at hv'
                      . injection hv' with hv';subst hv';rfl
                      . cases hv'
                    . cases hv'
                  | _=>cases hv'
                . cases hm
              | succ m=>
                simp only [K4] at hm;split at hm
                . rename_i l2 hl2;injection hm with hm;subst hm;simp only [List.all_cons,Bool.and_eq_true];exact ⟨hl.1,ih _ _ hl2 hl.2⟩
                . cases hm
           have hc':=hall _ _ _ hcs c3;rw [nb _ hc'] at r;exact ⟨⟨hs,varne _ _ _ c1,r⟩,hc'⟩
         . rw [L2 (fun e=>hji e.symm)] at hj;obtain ⟨⟨gs,d1,d2⟩,d3⟩:=s.hp.cells j ek' ds hj;exact ⟨⟨gs,varne _ _ _ d1,d2.still m2 (fun m=>by simp only [isP,decide_eq_false_iff_not];intro e;injection e with e;exact hji e) d3⟩,d3⟩
       . intro a c;simp [Cx.reel,s.ht a c]
     . cases h
   . cases h
 . cases h
theorem iN {ek:Option Nat} {pl:Pl} {i off:Nat} {ek':Option Nat} {xx:CV} {x:Opd} {X:Cx} {w w':WFr} {W W':q8} {fr:Fr} (s:SR X w W fr) {p:HV} (hp:VR1 X (.tmp 0 0) (.eptr pl i off ek' xx) p)
 (h:zM ek (.eptr pl i off ek' xx) (w.rd x) w W=some (w',W')):∃ Y,I7 ek p (fr.opd x) X.H=some Y.H/\SR Y w' W' fr/\WStp X Y:=by
 simp only [zM] at h;split at h
 . rename_i u ps hc;rw [zC] at h;simp only at h;split at h
   . rename_i w2 W2 hs;injection h with h;injection h with h1 h2;subst h1;subst h2;have rx:=rdR s.fr Pl.tmp x (by intro e;rw [e] at hc;cases hc);obtain ⟨c1,c2⟩:=rM s.ok rx (M4 w x) hc [];obtain ⟨Y,hY,st,hH,hO,hT⟩:=s.freeze c2;obtain ⟨b,e,ek2,ys,zs,x1,x',o1,o2,o3,o4,o5,Z,hZ,st',hH'⟩:=zo8 hY hs;obtain ⟨rfl,b0,e0,ys0,q1,q2⟩:=hp;have hX:X.O pl=some (b,e,ek2,ys):=by
      rw [hO] at o1;split at o1
      . cases o1
      . exact o1
     rw [hX] at q1;simp only [Option.some.injEq,Prod.mk.injEq] at q1;obtain ⟨rfl,rfl,rfl,rfl⟩:=q1;rw [o2] at q2;injection q2 with q2;subst q2;refine ⟨Z,?_,hZ,st.trans st'⟩;rw [hT] at o4 o5 hH';simp only [u9,List.nil_append] at c1;rw [hH] at o4 hH';simp only [I7,c1,o4];unfold gA at o3;split at o3
     . rename_i hf;rw [if_pos ⟨trivial,hf⟩];simp only [o5];split at o3
       . rename_i hw;injection o3 with o3;rw [if_pos hw,hH',o3]
       . rename_i hw;rw [if_neg hw];split at o3
         . rename_i hl;rw [if_pos hl];split at o3
           . rename_i x2 hx2;split at o3
             . rename_i hf2;injection o3 with o3;subst o3;simp only [hx2];rw [if_pos hf2,hH']
             . cases o3
           . cases o3
         . cases o3
     . cases o3
   . cases h
 . cases h
theorem oV {ek:Option Nat} {a x:Opd} {dst:Option Nat} {X:Cx} {w w':WFr} {W W':q8} {fr:Fr} (s:SR X w W fr) (h:j4 (.store ek a x) dst w W=some (w',W')):WSim (.store ek a x) dst X w W fr w' W':=by
 cases hp:fr.place a with
 | some p=>obtain ⟨b,off⟩:=p;exact zz5 s hp h
 | none=>
   simp only [j4] at h;rw [P9 s.fr,hp] at h;simp only at h;split at h
   . rename_i hd;have key:∃ Y,I7 ek (fr.opd a) (fr.opd x) X.H=some Y.H/\SR Y w' W' fr/\WStp X Y:=by
      cases hv:w.rd a with
      | ptr id off=>
        rw [hv] at h;have r:=H7 s.fr hv (by simp);exact eS s r.1 r.2 h
      | eptr pl i off ek' xx=>
        rw [hv] at h;have r:=H7 s.fr hv (by simp);exact iN s r h
      | _=>rw [hv] at h;cases h
     obtain ⟨Y,k1,k2,k3⟩:=key;exact ⟨Y,fr,by simp only [q9,hp,k1],k2,k3⟩
   . cases h
theorem zq3 {ek:Option Nat} {l:List CV} {off:Nat} {v:CV} (h:R7 ek l off=some v):D1 ek (l.map .c) off=some (.c v):=by
 cases ek with
 | none=>simp only [R7] at h;simp [D1,h]
 | some n=>
   simp only [R7] at h;split at h
   . rename_i hl;injection h with h;subst h;simp only [D1,List.length_map,if_pos hl];have:∀ cs:List CV,d6 (cs.map .c)=some cs:=by
      intro cs;induction cs with
      | nil=>rfl
      | cons c cs ih=>simp [d6,ih]
     have e:List.take n (List.drop off (List.map HV.c l))=(List.take n (List.drop off l)).map .c:=by rw [<-List.map_drop,<-List.map_take]
     unfold I1;rw [e,this]
   . cases h
theorem zp2 {ek:Option Nat} {n:Nat} {x i:Opd} {dst:Option Nat} {X:Cx} {w w':WFr} {W W':q8} {fr:Fr} (s:SR X w W fr) (h:j4 (.aix ek n x i) dst w W=some (w',W')):WSim (.aix ek n x i) dst X w W fr w' W':=by
 simp only [j4] at h;split at h
 . rename_i cs k j ha hb;split at h
   . rename_i hj;split at h
     . rename_i v hv;injection h with h;injection h with h1 h2;subst h1;subst h2;exact .here (by simp only [q9,rd_c s.fr ha,rd_c s.fr hb,J7,K8,if_pos hj,zq3 hv]) (s.putc dst _)
     . cases h
   . cases h
 . cases h
theorem za7 {X:Cx} {w:WFr} {fr:Fr} (f:FrR X w fr) {m:Bool}:∀ {ys:List Opd} {a b:Int},kD m a (ys.map w.rd)=some b->mxL m a (ys.map fr.opd)=some b:=by
 intro ys;induction ys with
 | nil=>intro a b h;exact h
 | cons y ys ih=>
   intro a b h;simp only [List.map_cons] at h ⊢;cases hv:w.rd y with
   | c v=>
     rw [hv] at h;rw [rd_c f hv];cases v with
     | int k n=>exact ih h
     | _=>cases h
   | _=>rw [hv] at h;cases h
theorem z61 {m:Bool} {x:Opd} {ys:List Opd} {dst:Option Nat} {X:Cx} {w w':WFr} {W W':q8} {fr:Fr} (s:SR X w W fr) (h:j4 (.mxs m x ys) dst w W=some (w',W')):WSim (.mxs m x ys) dst X w W fr w' W':=by
 simp only [j4] at h;split at h
 . rename_i k a ha;split at h
   . rename_i b hb;injection h with h;injection h with h1 h2;subst h1;subst h2;exact .here (by simp only [q9,rd_c s.fr ha,za7 s.fr hb]) (s.putc dst _)
   . cases h
 . cases h
theorem K2 {o:IOp} {dst:Option Nat} {X:Cx} {w w':WFr} {W W':q8} {fr:Fr} (s:SR X w W fr) (h:j4 o dst w W=some (w',W')):WSim o dst X w W fr w' W':=by
 cases o with
 | mv=>exact z49 s h
 | un=>exact eT s h
 | bin=>exact zo5 s h
 | eqs=>exact z64 s h
 | eqb=>exact zd6 s h
 | pick=>exact z16 s h
 | load=>exact zb7 s h
 | store=>exact oV s h
 | faddr=>exact za3 s h
 | nck=>exact zf2 s h
 | fld=>exact zm5 s h
 | ix=>exact zr7 s h
 | six=>exact zg3 s h
 | slc=>exact q04 s h
 | len=>exact ze5 s h
 | app=>exact zz4 s h
 | build=>exact z54 s h
 | bsl=>exact zg8 s h
 | lbox=>exact z57 s h
 | hbox=>exact z18 s h
 | b2s=>exact eC s h
 | cvs=>exact zh4 s h
 | fbox=>exact zk9 s h
 | call=>cases h
 | callv=>cases h
 | mkf=>exact zq0 s h
 | ext=>exact z43 s h
 | cvt=>exact zf8 s h
 | isn=>exact zq6 s h
 | tyck=>exact z47 s h
 | peq=>exact zi2 s h
 | rowck=>exact zm0 s h
 | mx=>exact za9 s h
 | mxs=>exact z61 s h
 | aix=>exact zp2 s h
 | mkm=>cases h
 | mget=>cases h
 | mset=>cases h
 | ment=>cases h
 | msto=>cases h
 | mlen=>cases h
end Go.Proofs.Lz
