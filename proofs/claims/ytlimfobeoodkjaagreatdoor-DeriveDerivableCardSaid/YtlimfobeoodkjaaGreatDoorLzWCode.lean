/- Code and functions: what the state with slices a5 values gives, the evaluator gives. -/
import Derived.Test.YtlimfobeoodkjaaGreatDoorLzWCall
set_option linter.unusedVariables false
namespace Go.Proofs.Lz
structure EnvR (V:WEnv) (E:Env):Prop where
 fn:V.fn=E.fn
 md:V.md=E.md
 ext:V.ext=E.ext
 ar:V.ar=E.ar
theorem vR {X:Cx} {w:WFr} {fr:Fr} (f:FrR X w fr):∀ (l:List Opd),(∀ v∈l.map w.rd,v≠.gone)->VRs X (l.map w.rd) (l.map fr.opd):=by
 intro l;induction l with
 | nil=>intro _;trivial
 | cons x l ih=>
   intro h;exact ⟨rdR f Pl.tmp x (h _ (by simp)),ih (fun v hv=>h v (by rw [List.map_cons];exact List.mem_cons_of_mem _ hv))⟩
theorem dV {W:q8}:∀ {l a5:List WV},i8 W l=some a5->∀ v∈l,v≠.gone/\yD v:=by
 intro l;induction l with
 | nil=>intro a5 _ v hv;cases hv
 | cons x l ih=>
   intro a5 h v hv;simp only [i8] at h;split at h
   . rename_i a b h1 h2;rcases List.mem_cons.1 hv with hv | hv
     . subst hv;refine ⟨?_,?_,?_⟩
       . intro e;subst e;cases h1
       . intro vs e;subst e;cases h1
       . intro ek w e;subst e;cases h1
     . exact ih h2 v hv
   . cases h
theorem q10 {l:List WV} (h:l.all okA=true):∀ v∈l,v≠.gone/\∀ vs,v≠.tup vs:=by
 intro v hv;have:=List.all_eq_true.1 h v hv;constructor
 . intro e;subst e;cases this
 . intro vs e;subst e;cases this
theorem nG {V:WEnv} {E:Env} (hE:EnvR V E) {cw:u5} {c:j8} (hc:I4 cw c) {f:Nat} {args:List WV} {hargs:List HV} {dst:Option Nat} {X:Cx} {w w':WFr} {W W':q8} {fr:Fr} (s:SR X w W fr)
 (ra:(∀ v∈args,v≠.gone)->VRs X args hargs) (hb:∀ v∈args,(∀ ek u,v≠.lbox ek u)/\y7 v=false) (h:F5 V cw f args dst w W=some (w',W')):bI E c f hargs dst X fr w' W':=by
 unfold F5 at h;cases hm:V.md f with
 | S=>
   rw [hm] at h;simp only at h;split at h
   . rename_i hcnd;obtain ⟨h0,h1,h2⟩:=hcnd;rw [zC] at h;simp only at h;split at h
     . cases h
     . rename_i r W2 hr;injection h with h;have ne:=q10 h0;exact z01 hc (by rw [<-hE.md];exact hm) s (ra fun v hv=>(ne v hv).1) (fun v hv=>⟨⟨(ne v hv).2,(hb v hv).1⟩,(hb v hv).2⟩) h1 h2 hr h
   . cases h
 | P=>
   rw [hm] at h;simp only at h;split at h
   . cases h
   . rename_i a5 ha;split at h
     . cases h
     . rename_i r W2 hr;split at h
       . cases h
       . rename_i r' hs;exact z02 hc (by rw [<-hE.md];exact hm) s (ra fun v hv=>(dV ha v hv).1) ha hr hs h
theorem fQ {X:Cx}:∀ l:List CV,VRs X (l.map .c) (l.map .c):=by
 intro l;induction l with
 | nil=>trivial
 | cons a l ih=>exact ⟨(rfl:HV.c a=.c a),ih⟩
theorem rP {X:Cx}:∀ {l:List WV} {s:List HV},PlainR X l s->VRs X l s:=by
 intro l;induction l with
 | nil=>intro s h;cases s with
   | nil=>trivial
   | cons=>exact h.elim
 | cons v l ih=>
   intro s h;cases s with
   | nil=>cases v<;>exact h.elim
   | cons a s=>
     cases v with
     | c v=>exact ⟨h.1,ih h.2⟩
     | nils=>exact ⟨h.1,ih h.2⟩
     | ptr id off=>exact ⟨h.1,ih h.2⟩
     | _=>exact h.elim
theorem xN {X:Cx}:∀ {l:List WV} {s:List HV} {l':List WV} {s':List HV},VRs X l s->VRs X l' s'->VRs X (l++l') (s++s'):=by
 intro l;induction l with
 | nil=>intro s l' s' h h';cases s with
   | nil=>exact h'
   | cons=>exact h.elim
 | cons v l ih=>intro s l' s' h h';cases s with
   | nil=>exact h.elim
   | cons a s=>exact ⟨h.1,ih h.2 h'⟩
theorem sV {X:Cx}:∀ {l:List WV} {s:List HV},PlainR X l s->∀ v∈l,(∀ ek u,v≠.lbox ek u)/\y7 v=false:=by
 intro l;induction l with
 | nil=>intro s _ v hv;cases hv
 | cons x l ih=>
   intro s h v hv;cases s with
   | nil=>cases x<;>exact h.elim
   | cons a s=>
     have key:PlainR X l s/\((∀ ek u,x≠.lbox ek u)/\y7 x=false):=by
      cases x with
      | c v=>exact ⟨h.2,fun _ _ e=>(by cases e),rfl⟩
      | nils=>exact ⟨h.2,fun _ _ e=>(by cases e),rfl⟩
      | ptr id off=>exact ⟨h.2,fun _ _ e=>(by cases e),rfl⟩
      | _=>exact h.elim
     rcases List.mem_cons.1 hv with hv | hv
     . subst hv;exact key.2
     . exact ih key.1 v hv
theorem pH (w:WFr) (l:List Opd):∀ v∈l.map w.rd,(∀ ek u,v≠.lbox ek u)/\y7 v=false:=by
 intro v hv;obtain ⟨x,_,rfl⟩:=List.mem_map.1 hv;exact ⟨tZ w x,M4 w x⟩
theorem pB {V:WEnv} {E:Env} (hE:EnvR V E) {cw:u5} {c:j8} (hc:I4 cw c) {o:IOp} {dst:Option Nat} {X:Cx} {w w':WFr} {W W':q8} {fr:Fr} (s:SR X w W fr) (h:wOp V cw o dst w W=some (w',W')):zt5 E c o dst X fr w' W':=by
 unfold wOp at h;split at h
 . rename_i f args;obtain ⟨Y,v,h1,h2,h3⟩:=nG hE hc (hargs:=args.map fr.opd) s (fun hn=>vR s.fr args hn) (pH w args) h;exact ⟨Y,_,by simp only [f8,h1,F4],h2,h3⟩
 . rename_i x args;split at h
   . rename_i f a5 ht;have key:∃ as',Z1 (fr.opd x) (args.map fr.opd)=some (f,as')/\((∀ v∈a5,v≠.gone)->VRs X a5 as')/\∀ v∈a5,(∀ ek u,v≠.lbox ek u)/\y7 v=false:=by
      cases hv:w.rd x with
      | c u=>
        rw [hv] at ht;rw [rd_c s.fr hv];cases u with
        | fn f' first cap=>
          simp only [zQ,Option.some.injEq,Prod.mk.injEq] at ht;obtain ⟨rfl,rfl⟩:=ht;refine ⟨_,rfl,fun hn=>?_,?_⟩
          . exact xN (xN (fQ first) (vR s.fr args (fun v hv=>hn v (by simp only [List.mem_append];exact .inl (.inr hv))))) (fQ cap)
          . intro v hv;simp only [List.mem_append] at hv;rcases hv with (hv | hv) | hv
            . obtain ⟨z,_,rfl⟩:=List.mem_map.1 hv;exact ⟨fun _ _ e=>(by cases e),rfl⟩
            . exact pH w args v hv
            . obtain ⟨z,_,rfl⟩:=List.mem_map.1 hv;exact ⟨fun _ _ e=>(by cases e),rfl⟩
        | _=>cases ht
      | fn f' first cap=>
        rw [hv] at ht;obtain ⟨a,b,r1,r2,r3⟩:=H7 s.fr hv (by simp);rw [r1];simp only [zQ,Option.some.injEq,Prod.mk.injEq] at ht;obtain ⟨rfl,rfl⟩:=ht;refine ⟨_,rfl,fun hn=>?_,?_⟩
        . exact xN (xN (rP r2) (vR s.fr args (fun v hv=>hn v (by simp only [List.mem_append];exact .inl (.inr hv))))) (rP r3)
        . intro v hv;simp only [List.mem_append] at hv;rcases hv with (hv | hv) | hv
          . exact sV r2 v hv
          . exact pH w args v hv
          . exact sV r3 v hv
      | _=>rw [hv] at ht;cases ht
     obtain ⟨as',k1,k2,k3⟩:=key;obtain ⟨Y,v,h1,h2,h3⟩:=nG hE hc s k2 k3 h;exact ⟨Y,_,by simp only [f8,k1,h1,F4],h2,h3⟩
   . cases h
 . rename_i n1 n2;obtain ⟨Y,fr',h1,h2,h3⟩:=K2 s h;refine ⟨Y,fr',?_,h2,h3⟩;rw [<-h1];cases o with
   | call f a=>exact (n1 _ _ rfl).elim
   | callv x a=>exact (n2 _ _ rfl).elim
   | _=>rfl
def zK (a:WFr->q8->Option (WFr×q8)) (b:Fr->q7->Option (Fr×q7)):Prop:=
 ∀ X w W fr w' W',SR X w W fr->a w W=some (w',W')->∃ Y fr',b fr X.H=some (fr',Y.H)/\SR Y w' W' fr'/\WStp X Y
theorem aQ {X:Cx} {w:WFr} {W:q8} {fr:Fr} (s:SR X w W fr) {o:IOper} {a:WFr->q8->Option (WFr×q8)} {b:Fr->q7->Option (Fr×q7)} (hab:zK a b) {w':WFr} {W':q8}
 (h:(match o.guard with
   | none=>a w W
   | some (t,want)=>match w.env t with
     | .c (.bool x)=>if x=want then a w W else some (w.put o.dst .skipv,W)
     | .skipv=>some (w.put o.dst .skipv,W)
     | _=>none)=some (w',W')) :
 ∃ Y fr',(match o.guard with
  | none=>b fr X.H
  | some (t,want)=>match fr.env t with
    | .c (.bool x)=>if x=want then b fr X.H else some (fr.put o.dst .skipv,X.H)
    | .skipv=>some (fr.put o.dst .skipv,X.H)
    | _=>none)=some (fr',Y.H)/\SR Y w' W' fr'/\WStp X Y:=by
 have skip:SR X (w.put o.dst .skipv) W (fr.put o.dst .skipv):=s.put (q:=Pl.tmp) (rfl:HV.skipv=.skipv) rfl;split at h
 . exact hab X w W fr w' W' s h
 . rename_i t want hg;split at h
   . rename_i x hx;have r:=s.fr.env t;rw [hx] at r;have r':fr.env t=.c (.bool x):=r;simp only [r'];split at h
     . rename_i hw;rw [if_pos hw];exact hab X w W fr w' W' s h
     . rename_i hw;rw [if_neg hw];injection h with h;injection h with h1 h2;subst h1;subst h2;exact ⟨X,_,rfl,skip,WStp.refl X⟩
   . rename_i hx;have r:=s.fr.env t;rw [hx] at r;have r':fr.env t=.skipv:=r;simp only [r'];injection h with h;injection h with h1 h2;subst h1;subst h2;exact ⟨X,_,rfl,skip,WStp.refl X⟩
   . cases h
theorem zd2 {V:WEnv} {E:Env} (hE:EnvR V E) {cw:u5} {c:j8} (hc:I4 cw c) (o:IOper):zK (A8 V cw o) (stp E c o):=by
 intro X w W fr w' W' s h;exact aQ s (a:=wOp V cw o.op o.dst) (b:=f8 E c o.op o.dst) (fun X w W fr w' W' s h=>pB hE hc s h) h
theorem eA {V:WEnv} {E:Env} (hE:EnvR V E) {cw:u5} {c:j8} (hc:I4 cw c) (ops:List IOper):zK (B1 V cw ops) (K0 E c ops):=by
 induction ops with
 | nil=>
   intro X w W fr w' W' s h;injection h with h;injection h with h1 h2;subst h1;subst h2;exact ⟨X,fr,rfl,s,WStp.refl X⟩
 | cons o ops ih=>
   intro X w W fr w' W' s h;unfold B1 at h;split at h
   . rename_i w1 W1 h1;obtain ⟨Y,fr1,k1,k2,k3⟩:=zd2 hE hc o X w W fr w1 W1 s h1;obtain ⟨Z,fr2,l1,l2,l3⟩:=ih Y w1 W1 fr1 w' W' k2 h;exact ⟨Z,fr2,by unfold K0;rw [k1];exact l1,l2,k3.trans l3⟩
   . cases h
theorem z06 {X:Cx} {w:WFr} {fr:Fr} (f:FrR X w fr) {x:Opd} (h:L0 (w.rd x)=true):(u7 [] (fr.opd x)).isSome=true:=by
 cases hv:w.rd x with
 | c u=>rw [rd_c f hv];rfl
 | nils=>have r:=H7 f hv (by simp);have r':fr.opd x=.nils:=r;rw [r'];rfl
 | _=>rw [hv] at h;cases h
theorem zs0 {V:WEnv} {E:Env} (hE:EnvR V E) {cw:u5} {c:j8} (hc:I4 cw c) (cl:Cls) (o:IOp) (dst:Option Nat):zK (wD V cw cl o dst) (doD E c cl o dst):=by
 intro X w W fr w' W' s h;unfold wD at h;unfold doD;split at h
 . -- pure
   split at h
   . rename_i fz e ek z n ps;split at h
     . rename_i hcnd;simp only;rw [if_pos ⟨hcnd.1,by
        rw [List.all_eq_true];intro p hp;exact z06 s.fr (List.all_eq_true.1 hcnd.2 p hp)⟩]
       exact K2 s h
     . cases h
   . rename_i nb;split at h
     . rename_i hp;simp only;obtain ⟨Y,fr',k1,k2⟩:=K2 s h;exact ⟨Y,fr',by rw [<-k1,if_pos hp],k2⟩
     . cases h
 . -- rdb
   split at h
   . rename_i ek a;split at h
     . rename_i hp;rw [P9 s.fr] at hp;simp only;rw [if_pos hp];exact K2 s h
     . cases h
   . cases h
 . -- wrb
   split at h
   . rename_i ek a x;split at h
     . rename_i hp;rw [P9 s.fr] at hp;simp only;rw [if_pos hp];exact K2 s h
     . cases h
   . cases h
 . -- rd
   split at h
   . rename_i ek a;split at h
     . cases h
     . rename_i hp;rw [P9 s.fr] at hp;simp only;rw [if_neg hp];exact K2 s h
   . exact K2 s h
   . exact K2 s h
   . rename_i f args;split at h
     . rename_i hm;split at h
       . cases h
       . rename_i a5 ha;split at h
         . cases h
         . rename_i r W2 hr;split at h
           . cases h
           . rename_i r' hs;split at h
             . rename_i hcnd;injection h with h;injection h with i1 i2;subst i1;subst i2;have hm':E.md f=.P:=by rw [<-hE.md];exact hm
               have ra:=vR s.fr args (fun v hv=>(dV ha v hv).1);obtain ⟨v,k2,k3,k4,a1,a2,base⟩:=lR hc hm' s ra ha hr hs;have hcnd':noRef v=true\/(args.map fr.opd).all isC=true:=by rw [<-k4,<-a1];exact hcnd
               have hcnd2:noRef v=true\/(args.map fr.opd).all zZ=true:=hcnd'.imp id (fun q=>by
                rw [List.all_eq_true] at q ⊢;intro x hx;have:=q x hx;cases x<;>first | exact this | (simp [isC] at this))
               have cw':=base X.H (by
                rw [if_pos];simp only [Bool.or_eq_true];exact hcnd'.symm)
               refine ⟨X,fr.put dst v,?_,s.put (k2 X) k3,WStp.refl X⟩;simp only;rw [if_pos hm',cw'];simp only;rw [if_pos hcnd2]
             . cases h
     . cases h
   . cases h
 . -- wr
   split at h
   . rename_i ek a x;split at h
     . cases h
     . rename_i hp;rw [P9 s.fr] at hp;simp only;rw [if_neg hp];exact K2 s h
   . exact K2 s h
   . exact K2 s h
   . exact pB hE hc s h
   . exact pB hE hc s h
   . cases h
 . -- hb
   split at h
   . exact K2 s h
   . cases h
 . -- lb
   split at h
   . exact K2 s h
   . cases h
 . cases h
theorem cR {X:Cx} {w:WFr} {fr:Fr} (f:FrR X w fr) (dst:Option Nat):S9 w dst=M8 fr dst:=by
 cases dst with
 | none=>rfl
 | some d=>
   have:=(f.env d).lbox_iff;simp only [S9,M8];revert this
   cases w.env d<;>cases fr.env d<;>simp [vJ,o9]
theorem zb0 {V:WEnv} {E:Env} (hE:EnvR V E) {cw:u5} {c:j8} (hc:I4 cw c) (cl:Cls) (o:IOper):zK (H4 V cw cl o) (c7 E c cl o):=by
 intro X w W fr w' W' s h;unfold H4 at h;unfold c7;split at h
 . rename_i hd;rw [cR s.fr] at hd;rw [if_pos hd];split at h
   . rename_i w1 W1 h1;obtain ⟨Y,fr1,k1,k2,k3⟩:=aQ s (o:=o) (a:=wD V cw cl o.op o.dst) (b:=doD E c cl o.op o.dst) (zs0 hE hc cl o.op o.dst) h1;split at h
     . rename_i hd2;injection h with h;injection h with i1 i2;subst i1;subst i2;rw [cR k2.fr] at hd2;refine ⟨Y,fr1,?_,k2,k3⟩;have k1':B2 E c cl o fr X.H=some (fr1,Y.H):=k1;rw [k1'];simp only;rw [if_pos hd2]
     . cases h
   . cases h
 . cases h
theorem z74 {V:WEnv} {E:Env} (hE:EnvR V E) {cw:u5} {c:j8} (hc:I4 cw c) (ops:List (Cls×IOper)):zK (D8 V cw ops) (E7 E c ops):=by
 induction ops with
 | nil=>
   intro X w W fr w' W' s h;injection h with h;injection h with h1 h2;subst h1;subst h2;exact ⟨X,fr,rfl,s,WStp.refl X⟩
 | cons o ops ih=>
   obtain ⟨cl,o⟩:=o;intro X w W fr w' W' s h;unfold D8 at h;split at h
   . rename_i w1 W1 h1;obtain ⟨Y,fr1,k1,k2,k3⟩:=zb0 hE hc cl o X w W fr w1 W1 s h1;obtain ⟨Z,fr2,l1,l2,l3⟩:=ih Y w1 W1 fr1 w' W' k2 h;exact ⟨Z,fr2,by unfold E7;rw [k1];exact l1,l2,k3.trans l3⟩
   . cases h
def S8 (a:y0) (b:Run):Prop:=
 ∀ X w W fr e w' W',SR X w W fr->a w W=some (e,w',W')->∃ Y fr',b fr X.H=some (e,fr',Y.H)/\SR Y w' W' fr'/\WStp X Y
theorem SR.noal {X:Cx} {w:WFr} {W:q8} {fr:Fr} (s:SR X w W fr):SR X { w with al:=x6 } W { fr with al:=x6 }:=⟨s.ok,⟨rfl,s.fr.env⟩,s.hp,s.ht⟩
theorem Ext.refl (K:Pl->Bool) (X:Cx):Ext K false X X:=⟨Nat.le_refl _,fun _ _=>rfl,fun _ _ _=>⟨rfl,rfl⟩,fun _ h=>h,fun _ _ h _=>h,fun h=>by cases h⟩
theorem SR.keep {X:Cx} {w:WFr} {W:q8} {fr:Fr} (s:SR X w W fr) (live:List Nat):SR X (f7 live w) W (keep live fr):=by
 refine ⟨s.ok,⟨rfl,?_⟩,s.hp,s.ht⟩;intro t;simp only [f7,Lz.keep];have:∀ (l:List Nat),VR X (Pl.sl t) (o0 (l.map fun s=>(s,hit (qW live) false (Pl.sl s) (w.env s))) t) (t8 (l.map fun s=>(s,fr.env s)) t):=by
  intro l;induction l with
  | nil=>exact (rfl:o9 .undef=false)
  | cons a l ih=>
    simp only [List.map_cons,o0,t8];by_cases h:t=a
    . subst h;rw [if_pos rfl,if_pos rfl];exact (s.fr.env t).hit (Ext.refl _ X)
    . rw [if_neg h,if_neg h];exact ih
 exact this live
theorem zf6 {a:y0} {b:Run} (hab:S8 a b):∀ n,S8 (m6 n a) (itF n b):=by
 intro n;induction n with
 | zero=>intro X w W fr e w' W' _ h;cases h
 | succ n ih=>
   intro X w W fr e w' W' s h;rw [m6] at h;split at h
   . rename_i w1 W1 h1;obtain ⟨Y,fr1,k1,k2,k3⟩:=hab X w W fr _ w1 W1 s h1;obtain ⟨Z,fr2,l1,l2,l3⟩:=ih Y w1 W1 fr1 e w' W' k2 h;exact ⟨Z,fr2,by rw [itF,k1];exact l1,l2,k3.trans l3⟩
   . rename_i hn;obtain ⟨Y,fr1,k1,k2,k3⟩:=hab X w W fr e w' W' s h;refine ⟨Y,fr1,?_,k2,k3⟩;rw [itF,k1];cases e with
     | nrm=>exact (hn _ _ h).elim
     | _=>rfl
theorem q12 {V:WEnv} {E:Env} (hE:EnvR V E) {cw:u5} {c:j8} (hc:I4 cw c) {it2:y0->y0} {it1:Run->Run} (hi:∀ a b,S8 a b->S8 (it2 a) (it1 b)) (code:ICode):S8 (wC V cw it2 code) (evC E c it1 code):=by
 induction code with
 | skip=>
   intro X w W fr e w' W' s h;injection h with h;injection h with h1 h2;injection h2 with h2 h3;subst h1;subst h2;subst h3;exact ⟨X,fr,rfl,s,WStp.refl X⟩
 | region ops=>
   intro X w W fr e w' W' s h;unfold wC at h;split at h
   . rename_i w1 W1 h1;injection h with h;injection h with h2 h3;injection h3 with h3 h4;subst h2;subst h3;subst h4;obtain ⟨Y,fr1,k1,k2,k3⟩:=eA hE hc ops X _ W _ w1 W1 s.noal h1;exact ⟨Y,fr1,by unfold evC;rw [k1],k2,k3⟩
   . cases h
 | regionW bs=>intro X w w' W W' e fr s h;simp only [wC] at h;cases h
 | stuck=>intro X w w' W W' e fr s h;simp only [wC] at h;cases h
 | regionD ops=>
   intro X w W fr e w' W' s h;unfold wC at h;split at h
   . rename_i w1 W1 h1;injection h with h;injection h with h2 h3;injection h3 with h3 h4;subst h2;subst h3;subst h4;obtain ⟨Y,fr1,k1,k2,k3⟩:=z74 hE hc ops X _ W _ w1 W1 s.noal h1;exact ⟨Y,fr1,by unfold evC;rw [k1],k2,k3⟩
   . cases h
 | seq a b iha ihb=>
   intro X w W fr e w' W' s h;unfold wC at h;split at h
   . rename_i w1 W1 h1;obtain ⟨Y,fr1,k1,k2,k3⟩:=iha X w W fr _ w1 W1 s h1;obtain ⟨Z,fr2,l1,l2,l3⟩:=ihb Y w1 W1 fr1 e w' W' k2 h;exact ⟨Z,fr2,by unfold evC;rw [k1];exact l1,l2,k3.trans l3⟩
   . rename_i hn;obtain ⟨Y,fr1,k1,k2,k3⟩:=iha X w W fr e w' W' s h;refine ⟨Y,fr1,?_,k2,k3⟩;unfold evC;rw [k1];cases e with
     | nrm=>exact (hn _ _ h).elim
     | _=>rfl
 | cond x a b iha ihb=>
   intro X w W fr e w' W' s h;unfold wC at h;split at h
   . rename_i t ht;have hx:=rd_c s.fr ht;cases t with
     | true=>
       obtain ⟨Y,fr1,k1,k2⟩:=iha X w W fr e w' W' s h;exact ⟨Y,fr1,by unfold evC;rw [hx];exact k1,k2⟩
     | false=>
       obtain ⟨Y,fr1,k1,k2⟩:=ihb X w W fr e w' W' s h;exact ⟨Y,fr1,by unfold evC;rw [hx];exact k1,k2⟩
   . cases h
 | block id b ih=>
   intro X w W fr e w' W' s h;unfold wC at h;split at h
   . rename_i i w1 W1 h1;obtain ⟨Y,fr1,k1,k2,k3⟩:=ih X w W fr _ w1 W1 s h1;refine ⟨Y,fr1,?_,?_,k3⟩
     . unfold evC;rw [k1];simp only;split at h
       . rename_i hh;rw [if_pos hh];injection h with h;injection h with h2 h3;subst h2;rfl
       . rename_i hh;rw [if_neg hh];injection h with h;injection h with h2 h3;subst h2;rfl
     . split at h
       . injection h with h;injection h with h2 h3;injection h3 with h3 h4;subst h3;subst h4;exact k2
       . injection h with h;injection h with h2 h3;injection h3 with h3 h4;subst h3;subst h4;exact k2
   . rename_i hn;obtain ⟨Y,fr1,k1,k2,k3⟩:=ih X w W fr e w' W' s h;refine ⟨Y,fr1,?_,k2,k3⟩;unfold evC;rw [k1];cases e with
     | exit i=>exact (hn _ _ _ h).elim
     | _=>rfl
 | loop live b ih=>
   intro X w W fr e w' W' s h;unfold wC at h;obtain ⟨Y,fr1,k1,k2⟩:=hi _ (fun fr H=>evC E c it1 b (keep live fr) H) (fun X w W fr e w' W' s h=>ih X _ W _ e w' W' (s.keep live) h) X w W fr e w' W' s h;exact ⟨Y,fr1,by unfold evC;exact k1,k2⟩
 | exit id=>
   intro X w W fr e w' W' s h;injection h with h;injection h with h1 h2;injection h2 with h2 h3;subst h1;subst h2;subst h3;exact ⟨X,fr,rfl,s,WStp.refl X⟩
 | scope l live b rest ihb ihr=>
   intro X w W fr e w' W' s h;unfold wC at h;split at h
   . rename_i l' w1 W1 h1;obtain ⟨Y,fr1,k1,k2,k3⟩:=ihb X w W fr _ w1 W1 s h1;split at h
     . rename_i hl;generalize hz:it2 (fun fr H=>E5 l (wC V cw it2 rest (f7 live fr) H)) w1 W1=z at h;cases z with
       | none=>cases h
       | some q=>
         obtain ⟨e2,w2,W2⟩:=q;have turn:S8 (fun fr H=>E5 l (wC V cw it2 rest (f7 live fr) H)) (fun fr H=>I6 l (evC E c it1 rest (keep live fr) H)):=by
          intro X w W fr e w' W' s h;have h:E5 l (wC V cw it2 rest (f7 live w) W)=some (e,w',W'):=h;cases hq:wC V cw it2 rest (f7 live w) W with
          | none=>rw [hq] at h;cases h
          | some q=>
            obtain ⟨e0,w0,W0⟩:=q;rw [hq] at h;obtain ⟨Y,fr1,k1,k2,k3⟩:=ihr X _ W _ e0 w0 W0 (s.keep live) hq;refine ⟨Y,fr1,?_,?_,k3⟩
            . simp only [k1];cases e0 with
              | goto l'=>
                simp only [E5] at h;simp only [I6];split at h
                . rename_i hh;rw [if_pos hh];injection h with h;injection h with h2 h3;subst h2;rfl
                . cases h
              | nrm=>injection h with h;injection h with h2 h3;subst h2;rfl
              | exit i=>injection h with h;injection h with h2 h3;subst h2;rfl
              | ret=>injection h with h;injection h with h2 h3;subst h2;rfl
            . cases e0 with
              | goto l'=>
                simp only [E5] at h;split at h
                . injection h with h;injection h with h2 h3;injection h3 with h3 h4;subst h3;subst h4;exact k2
                . cases h
              | nrm=>injection h with h;injection h with h2 h3;injection h3 with h3 h4;subst h3;subst h4;exact k2
              | exit i=>injection h with h;injection h with h2 h3;injection h3 with h3 h4;subst h3;subst h4;exact k2
              | ret=>injection h with h;injection h with h2 h3;injection h3 with h3 h4;subst h3;subst h4;exact k2
         obtain ⟨Z,fr2,l1,l2,l3⟩:=hi _ _ turn Y w1 W1 fr1 e2 w2 W2 k2 hz;refine ⟨Z,fr2,?_,?_,k3.trans l3⟩
         . unfold evC;rw [k1];simp only;rw [if_pos hl,l1];cases e2 with
           | goto l'=>
             simp only [U3] at h;simp only [M3];split at h
             . rename_i hh;rw [if_pos hh];injection h with h;injection h with h2 h3;subst h2;rfl
             . rename_i hh;rw [if_neg hh];injection h with h;injection h with h2 h3;subst h2;rfl
           | nrm=>injection h with h;injection h with h2 h3;subst h2;rfl
           | exit i=>injection h with h;injection h with h2 h3;subst h2;rfl
           | ret=>injection h with h;injection h with h2 h3;subst h2;rfl
         . cases e2 with
           | goto l'=>
             simp only [U3] at h;split at h<;>(injection h with h;injection h with h2 h3;injection h3 with h3 h4;subst h3;subst h4;exact l2)
           | nrm=>injection h with h;injection h with h2 h3;injection h3 with h3 h4;subst h3;subst h4;exact l2
           | exit i=>injection h with h;injection h with h2 h3;injection h3 with h3 h4;subst h3;subst h4;exact l2
           | ret=>injection h with h;injection h with h2 h3;injection h3 with h3 h4;subst h3;subst h4;exact l2
     . rename_i hl;cases h
   . rename_i hn;obtain ⟨Y,fr1,k1,k2,k3⟩:=ihb X w W fr e w' W' s h;refine ⟨Y,fr1,?_,k2,k3⟩;unfold evC;rw [k1];cases e with
     | goto i=>exact (hn _ _ _ h).elim
     | _=>rfl
 | label l=>
   intro X w W fr e w' W' s h;injection h with h;injection h with h1 h2;injection h2 with h2 h3;subst h1;subst h2;subst h3;exact ⟨X,fr,rfl,s,WStp.refl X⟩
 | keep live=>
   intro X w W fr e w' W' s h;injection h with h;injection h with h1 h2;injection h2 with h2 h3;subst h1;subst h2;subst h3;exact ⟨X,keep live fr,rfl,s.keep live,WStp.refl X⟩
 | goto l=>
   intro X w W fr e w' W' s h;injection h with h;injection h with h1 h2;injection h2 with h2 h3;subst h1;subst h2;subst h3;exact ⟨X,fr,rfl,s,WStp.refl X⟩
 | ret=>
   intro X w W fr e w' W' s h;injection h with h;injection h with h1 h2;injection h2 with h2 h3;subst h1;subst h2;subst h3;exact ⟨X,fr,rfl,s,WStp.refl X⟩
theorem q16 {X:Cx} {w:WFr} {W:q8} {fr:Fr} (s:SR X w W fr) {ek:Option Nat} {v u:WV} {h:HV} {q:Nat->Nat->Pl} (r:VR X q v h) (h1:J6 ek v W=some u):∃ y,m9 ek h X.H=some y/\VR X Pl.tmp u y/\y7 u=false:=by
 cases v with
 | c v=>
   have r':h=.c v:=r;subst r';cases v with
   | fptr ek' x off=>
     simp only [J6] at h1;cases hr:I9 ek' ek x off with
     | none=>rw [hr] at h1;cases h1
     | some z=>
       rw [hr] at h1;injection h1 with h1;subst h1;exact ⟨_,by simp only [m9,hr];rfl,rfl,rfl⟩
   | _=>cases h1
 | ptr id off=>
   simp only [J6] at h1;cases hw:W[id]? with
   | none=>rw [hw] at h1;cases h1
   | some o=>
     obtain ⟨ek',cs⟩:=o;rw [hw] at h1;simp only at h1;obtain ⟨⟨hs,c1,c2⟩,c3⟩:=s.hp.cells id ek' cs hw;obtain ⟨y,k1,k2,k3⟩:=wG (q':=Pl.tmp) (c2.peek (q':=Pl.tmp 0) (k':=0)) (vS _ cs 0) h1;exact ⟨y,by rw [r.1];simp only [m9,c1,k1],k2,k3⟩
 | eptr p i off ek' x=>
   obtain ⟨r1,b',e,ys,r2,r3⟩:=r;simp only [J6] at h1;cases hr:I9 ek' ek x off with
   | none=>rw [hr] at h1;cases h1
   | some z=>
     rw [hr] at h1;injection h1 with h1;subst h1;obtain ⟨zs,z1,z2,z3,z4⟩:=s.ok.own p _ _ _ _ r2;have hz:=Y6 z3 r3;exact ⟨_,by rw [r1];simp only [m9,z1,if_true,hz,hr];rfl,rfl,rfl⟩
 | iptr fz ek' x off=>
   obtain ⟨id,ver,i,r1,fb,e,ys,r2,r3,r4⟩:=r;simp only [J6] at h1;cases hr:I9 ek' ek x off with
   | none=>rw [hr] at h1;cases h1
   | some z=>
     rw [hr] at h1;injection h1 with h1;subst h1;exact ⟨_,by rw [r1];simp only [m9,r2,if_true,r3,hr];rfl,rfl,rfl⟩
 | _=>cases h1
theorem gZ {v:WV} (h:A3 v=true):yD v:=by
 constructor
 . intro vs e;subst e;cases h
 . intro ek w e;subst e;cases h
def CRs (X:Cx):List WV->List HV->Prop
 | [],[]=>True
 | v::r,h::s=>(A3 v=true->VRC X (Pl.tmp 0) v h/\c8 v=false)/\CRs X r s
 | _,_=>False
theorem bW {X:Cx} {q:Nat->Nat->Pl} {v:WV} {h:HV} (r:VR X q v h) (ok:A3 v=true) (ho:y7 v=false):VRC X (q 0) v h/\c8 v=false:=
 vP r (gZ ok).1 (gZ ok).2 ho
theorem zc9 {X:Cx} {w:WFr} {W:q8} {fr:Fr} (s:SR X w W fr):∀ (rs:List IRes) {vs:List WV},D6 w W rs=some vs->∃ hs,B8 fr X.H rs=some hs/\CRs X vs hs:=by
 intro rs;induction rs with
 | nil=>intro vs h;injection h with h;subst h;exact ⟨[],rfl,trivial⟩
 | cons a rs ih=>
   intro vs h;cases a with
   | tmp t=>
     simp only [D6] at h;split at h
     . rename_i l hl;injection h with h;subst h;obtain ⟨hs,i1,i2⟩:=ih hl;refine ⟨r7 (fr.env t)::hs,by simp only [B8,i1],?_,i2⟩;intro ok;have r:=(s.fr.env t).rd (q':=Pl.tmp);have e:peek (Pl.sl t) (O9 (w.env t))=i7 (Pl.sl t 0) (O9 (w.env t)):=by
        revert ok
        cases O9 (w.env t) with
        | tup vs=>intro ok;cases ok
        | _=>intro _;rfl
       rw [e] at r;exact bW r ok (by have:=aS (Pl.sl t) (w.env t);rw [e] at this;exact this)
     . cases h
   | cell b ek=>
     simp only [D6] at h;split at h
     . rename_i v l hv hl;injection h with h;subst h;obtain ⟨hs,i1,i2⟩:=ih hl;have key:∃ y,((∃ x1,fr.env b=.lbox ek x1/\y=x1)\/(o9 (fr.env b)=false/\m9 ek (fr.env b) X.H=some y))/\(A3 v=true->VRC X (Pl.tmp 0) v y/\c8 v=false):=by
        have r:=s.fr.env b;by_cases hb:∃ ek' x,w.env b=.lbox ek' x
        . obtain ⟨ek',x,hb⟩:=hb;rw [hb] at r hv;obtain ⟨x1,r1,r2⟩:=r;simp only at hv;split at hv
          . rename_i he;injection hv with hv;subst hv;exact ⟨x1,.inl ⟨x1,by rw [r1,he],rfl⟩,fun ok=>⟨r2.peek,xI _ _⟩⟩
          . cases hv
        . have nb:o9 (fr.env b)=false:=by
           rw [<-r.lbox_iff];cases hw:w.env b with
           | lbox ek' x=>exact (hb ⟨_,_,hw⟩).elim
           | _=>rfl
          have hv':J6 ek (peek (Pl.sl b) (w.env b)) W=some v:=by
           revert hv
           cases hw:w.env b with
           | lbox ek' x=>exact (hb ⟨_,_,hw⟩).elim
           | _=>exact fun h=>h
          have ew:O9 (w.env b)=w.env b:=by
           cases hw:w.env b with
           | lbox ek' x=>exact (hb ⟨_,_,hw⟩).elim
           | _=>rfl
          have eh:r7 (fr.env b)=fr.env b:=by
           revert nb
           cases fr.env b with
           | lbox=>intro h;cases h
           | _=>intro _;rfl
          have r2:=r.rd (q':=Pl.tmp);rw [ew,eh] at r2;obtain ⟨y,k1,k2,k3⟩:=q16 s r2 hv';exact ⟨y,.inr ⟨nb,k1⟩,fun ok=>bW k2 ok k3⟩
       obtain ⟨y,k1,k2⟩:=key;refine ⟨y::hs,?_,k2,i2⟩;simp only [B8];rcases k1 with ⟨x1,e1,e2⟩ | ⟨e1,e2⟩
       . subst e2;rw [e1];simp only [if_true,i1]
       . revert e1 e2
         cases fr.env b with
         | lbox=>intro h;cases h
         | _=>intro _ e2;simp only [e2,i1]
     . cases h
theorem fA {n:Nat} {v:WV} (h:∀ p∈A7 v,F7 n p=false):leave1 n v=v:=by
 cases v with
 | view p b off e ek xs=>simp only [leave1,h p (by simp [A7]),Bool.false_eq_true,if_false]
 | _=>rfl
theorem zn2 {n:Nat} {v:WV} (h:∀ p∈l6 v,F7 n p=false):F8 n v=v:=by
 cases v with
 | agg cs=>
   simp only [F8];congr 1;rw [List.map_congr_left (g:=id)]
   . simp
   . intro x hx;exact fA (fun p hp=>h p (by simp only [l6,yT,List.mem_flatMap];exact ⟨x,hx,hp⟩))
 | _=>(simp only [F8];exact fA h)
theorem mV {n:Nat} {v:WV} (ok:P0 v=true) (h:∀ p∈A7 v,F7 n p=true):leave1 n v=B6 v:=by
 cases v with
 | view p b off e ek xs=>simp only [leave1,h p (by simp [A7]),if_true,B6]
 | eptr=>cases ok
 | _=>rfl
theorem zn0 {n:Nat} {v:WV} (ok:A3 v=true) (h:∀ p∈l6 v,F7 n p=true):F8 n v=j6 v:=by
 cases v with
 | agg cs=>
   simp only [F8,j6];congr 1;apply List.map_congr_left;intro x hx;exact mV (List.all_eq_true.1 ok x hx) (fun p hp=>h p (by simp only [l6,yT,List.mem_flatMap];exact ⟨x,hx,hp⟩))
 | _=>(simp only [F8,j6];exact mV ok h)
theorem CRs.tup {X:Cx}:∀ {l:List WV} {s:List HV} {k:Nat},CRs X l s->l.all A3=true->VRT X Pl.tmp k l s/\l.any c8=false:=by
 intro l;induction l with
 | nil=>intro s k r _;cases s with
   | nil=>exact ⟨trivial,rfl⟩
   | cons=>exact r.elim
 | cons v l ih=>
   intro s k r h;cases s with
   | nil=>exact r.elim
   | cons a s=>
     simp only [List.all_cons,Bool.and_eq_true] at h;obtain ⟨i1,i2⟩:=ih (k:=k+1) r.2 h.2;obtain ⟨r1,r2⟩:=r.1 h.1;exact ⟨⟨r1.any r2,i1⟩,by simp only [List.any_cons,r2,i2,Bool.or_self]⟩
theorem sZ {vs:List WV} (h:∀ v,vs≠[v]):f4 vs=.tup vs:=by
 match vs,h with
 | [],_=>rfl
 | [v],h=>exact (h v rfl).elim
 | _::_::_,_=>rfl
theorem zk4 {vs:List HV} (h:∀ v,vs≠[v]):oneOf vs=.tup vs:=by
 match vs,h with
 | [],_=>rfl
 | [v],h=>exact (h v rfl).elim
 | _::_::_,_=>rfl
theorem pV:∀ l:List WV,f9 l=A5 l:=by
 intro l;induction l with
 | nil=>rfl
 | cons v l ih=>simp only [f9,A5,ih]
theorem CRs.one {X:Cx} {vs:List WV} {hs:List HV} (r:CRs X vs hs) (ok:vs.all A3=true) :
 VR X Pl.tmp (f4 vs) (oneOf hs)/\y7 (f4 vs)=false/\(∀ ek w,f4 vs≠.lbox ek w)/\u4 (f4 vs)=f9 vs/\wR (f4 vs)=true /\
  f4 (vs.map j6)=s4 (f4 vs)/\f4 vs=f4 vs:=by
 by_cases h1:∃ v,vs=[v]
 . obtain ⟨v,rfl⟩:=h1;cases hs with
   | nil=>exact r.elim
   | cons a s=>
     cases s with
     | cons=>exact r.2.elim
     | nil=>
       simp only [List.all_cons,List.all_nil,Bool.and_true] at ok;obtain ⟨r1,r2⟩:=r.1 ok;obtain ⟨c1,c2⟩:=gZ ok;refine ⟨N9 (q:=Pl.tmp) r1,?_,c2,?_,?_,?_,rfl⟩
       . show y7 v=false;cases v with
         | tup=>exact (c1 _ rfl).elim
         | lbox=>exact (c2 _ _ rfl).elim
         | _=>exact r2
       . show u4 v=l6 v++[];rw [List.append_nil];cases v with
         | tup=>exact (c1 _ rfl).elim
         | _=>rfl
       . show wR v=true;cases v with
         | tup=>exact (c1 _ rfl).elim
         | _=>exact ok
       . show j6 v=s4 v;cases v with
         | tup=>exact (c1 _ rfl).elim
         | _=>rfl
 . have n1:∀ v,vs≠[v]:=fun v e=>h1 ⟨v,e⟩;have n2:∀ v,hs≠[v]:=by
    intro v e;subst e;cases vs with
    | nil=>exact r.elim
    | cons a s=>
      cases s with
      | nil=>exact n1 a rfl
      | cons=>exact r.2.elim
   have n3:∀ v,vs.map j6≠[v]:=by
    intro v e;cases vs with
    | nil=>cases e
    | cons a s=>
      cases s with
      | nil=>exact n1 a rfl
      | cons=>cases e
   rw [sZ n1,zk4 n2,sZ n3];obtain ⟨r1,r2⟩:=r.tup (k:=0) ok;exact ⟨⟨hs,rfl,r1⟩,r2,fun _ _ e=>(by cases e),by rw [pV];rfl,ok,rfl,rfl⟩
theorem zu6 (r:WV):((a7 []).putD 0 r).env=(a7 [r]).env:=by
 funext t;have h0:∀ K,hit K false (Pl.sl t) (.undef)=.undef:=fun K=>rfl;simp only [WFr.putD,a7,D9];split
 . simp only [WFr.put1,b8,upd,o0,h0]
 . simp only [WFr.put1,upd,o0]
theorem zw4 (r:WV):((a7 []).putD 0 r).al=x6:=by
 funext t;simp only [WFr.putD];split<;>(simp only [WFr.put1,b8,upd,a7,x6];split<;>rfl)
theorem sE (r:HV):(o8 []).put (some 0) r=o8 [r]:=by
 have h1:((o8 []).put (some 0) r).env=(o8 [r]).env:=by
  funext t;simp only [Fr.put,o8,upd,binds,t8]
 have h2:((o8 []).put (some 0) r).al=(o8 [r]).al:=by
  funext t;simp only [Fr.put,o8,upd,x6];split<;>rfl
 have e:∀ a b:Fr,a.env=b.env->a.al=b.al->a=b:=by
  intro a b h1 h2;cases a;cases b;simp only at h1 h2;rw [h1,h2]
 exact e _ _ h1 h2
theorem mF (r:WV):(a7 []).putD 0 r=a7 [r]:=by
 have e:∀ a b:WFr,a.env=b.env->a.al=b.al->a=b:=by
  intro a b h1 h2;cases a;cases b;simp only at h1 h2;rw [h1,h2]
 exact e _ _ (zu6 r) (zw4 r)
theorem sJ (X:Cx):FrR X (a7 []) (o8 []):=⟨rfl,fun s=>(rfl:o9 .undef=false)⟩
theorem zf7 {X:Cx} {w:WFr} {W W':q8} {fr:Fr} (s:SR X w W fr) {n:Nat} {vs:List WV} {hs:List HV} (r:CRs X vs hs) {v:WV} (h:X8 n vs W=some (v,W')) :
 ∃ Y,SR Y (a7 [v]) W' (o8 [oneOf hs])/\WStp X Y/\Y.H=X.H/\xO v:=by
 unfold X8 at h;split at h
 . rename_i hc;obtain ⟨hn,ok,hor⟩:=hc;injection h with h;injection h with h1 h2;subst h1;subst h2;obtain ⟨r1,r2,r3,r4,r5,r6,_⟩:=r.one ok;rcases hor with hnone | hall
   . -- nothing leaves its place
     have hk:∀ p∈f9 vs,F7 n p=false:=by
      intro p hp;cases hl:F7 n p with
      | false=>rfl
      | true=>
        have:p∈(f9 vs).filter (F7 n):=List.mem_filter.2 ⟨hp,hl⟩;rw [hnone] at this;cases this
     have hmap:vs.map (F8 n)=vs:=by
      rw [List.map_congr_left (g:=id)]
      . simp
      . intro x hx;refine zn2 (fun p hp=>hk p ?_);rw [pV,vT];exact List.mem_flatMap.2 ⟨x,hx,hp⟩
     rw [hnone,hmap];simp only [c6];have s0:SR X (a7 []) W (o8 []):=⟨s.ok,sJ X,s.hp,s.ht⟩;have s1:=s0.put (dst:=some 0) r1 r2;have e1:(a7 []).put (some 0) (f4 vs)=a7 [f4 vs]:=mF _;rw [e1,sE] at s1;refine ⟨X,s1,WStp.refl X,rfl,r5,fun ho=>(by rw [r2] at ho;cases ho),r3,?_⟩;intro p hp;rw [r4] at hp;have:=hk p hp;cases p with
     | hp=>rfl
     | sl=>cases this
     | tmp=>cases this
   . -- all leave
     have hf:(f9 vs).filter (F7 n)=f9 vs:=by
      rw [List.filter_eq_self];exact fun p hp=>List.all_eq_true.1 hall p hp
     rw [hf] at hn ⊢;have hmap:vs.map (F8 n)=vs.map j6:=by
      apply List.map_congr_left;intro x hx;refine zn0 (List.all_eq_true.1 ok x hx) (fun p hp=>List.all_eq_true.1 hall p ?_);rw [pV,vT];exact List.mem_flatMap.2 ⟨x,hx,hp⟩
     rw [hmap,r6,<-r4];obtain ⟨Y,hY,st,hH,hv,hnv,_⟩:=s.take r1 r2 r3 (by rw [r4];exact hn);have hY0:Hand Y (a7 []) (c6 false (u4 (f4 vs)) W) (o8 []) (s4 (f4 vs)) (oneOf hs):=⟨hY.ok,sJ _,hY.hp,hY.vo,hY.vf⟩;obtain ⟨Z,hZ,st',hH'⟩:=hY0.putD 0;rw [mF,sE] at hZ;refine ⟨Z,hZ,st.trans st',by rw [hH',hH],?_,fun _=>hnv,?_,?_⟩
     . have o1:∀ v,P0 v=true->P0 (B6 v)=true:=by
        intro v hv;cases v with
        | eptr=>cases hv
        | _=>exact hv
       have oC:∀ v,A3 v=true->A3 (j6 v)=true:=by
        intro v hv;cases v with
        | agg cs=>
          simp only [A3,j6,List.all_map,List.all_eq_true] at hv ⊢;exact fun x hx=>o1 x (hv x hx)
        | view=>rfl
        | _=>first | exact hv | cases hv
       revert r5 r3
       cases f4 vs with
       | tup ws=>
         intro _ r5;simp only [wR,s4,List.all_map,List.all_eq_true] at r5 ⊢;exact fun x hx=>oC x (r5 x hx)
       | lbox ek w=>intro r3 _;exact (r3 _ _ rfl).elim
       | agg cs=>intro _ r5;exact oC (.agg cs) r5
       | view p b off e ek xs=>intro _ _;rfl
       | eptr=>intro _ r5;cases r5
       | _=>intro _ r5;exact r5
     . revert r3
       cases f4 vs with
       | lbox ek w=>intro r3;exact (r3 _ _ rfl).elim
       | _=>intro _ ek w e;cases e
     . intro p hp;exfalso;have n1:∀ v,A7 (B6 v)=[]:=by intro v;cases v<;>rfl
       have nL:∀ l:List WV,J2 (l.map B6)=[]:=by
        intro l;induction l with
        | nil=>rfl
        | cons v l ih=>simp only [List.map_cons,J2,n1,ih,List.append_nil]
       have nC:∀ v,l6 (j6 v)=[]:=by
        intro v;cases v with
        | agg cs=>exact nL cs
        | _=>rfl
       have nT:∀ l:List WV,A5 (l.map j6)=[]:=by
        intro l;induction l with
        | nil=>rfl
        | cons v l ih=>simp only [List.map_cons,A5,nC,ih,List.append_nil]
       have nn:u4 (s4 (f4 vs))=[]:=by
        cases f4 vs with
        | tup ws=>exact nT ws
        | agg cs=>exact nL cs
        | _=>rfl
       rw [nn] at hp;cases hp
 . cases h
theorem zp0 {X:Cx}:∀ (us:List CV) (i:Nat) (args1:List HV),args1.length=us.length->(∀ s,i<=s->VR X (Pl.sl s) (o0 (D9 i (us.map .c)) s) (t8 (binds i args1) s))->args1=us.map .c:=by
 intro us;induction us with
 | nil=>intro i args1 hl _;exact List.length_eq_zero_iff.1 hl
 | cons u us ih=>
   intro i args1 hl h;cases args1 with
   | nil=>simp at hl
   | cons a r=>
     have h0:=h i (Nat.le_refl _);have h0':a=.c u:=by
      simp only [List.map_cons,D9,binds,o0,t8,if_true] at h0;exact h0
     have:=ih (i+1) r (by simpa using hl) (fun s hs=>by
      have:=h s (by omega);simp only [List.map_cons,D9,binds,o0,t8,if_neg (show ¬ s=i by omega)] at this;exact this)
     rw [this,h0'];rfl
theorem zg5:∀ {l:List WV} {xs:List CV},B7 l=some xs->l=xs.map .c:=by
 intro l;induction l with
 | nil=>intro xs h;simp only [B7,Option.some.injEq] at h;subst h;rfl
 | cons v l ih=>
   intro xs h;unfold B7 at h;split at h
   . rename_i e;cases e
   . rename_i u r' e;injection e with e1 e2;subst e1;subst e2;split at h
     . rename_i l' hl;injection h with h;subst h;rw [ih hl];rfl
     . cases h
   . cases h
theorem q17:∀ (us:List CV),d6 (us.map .c)=some us:=by
 intro us;induction us with
 | nil=>rfl
 | cons u us ih=>simp only [List.map_cons,d6,ih]
theorem zv0 {X:Cx}:∀ (us:List CV) (i:Nat),VRT X (Pl.sl 0) i (us.map .c) (us.map .c):=by
 intro us;induction us with
 | nil=>intro i;trivial
 | cons u us ih=>intro i;exact ⟨(rfl:HV.c u=.c u),ih (i+1)⟩
theorem ze1 {o:Option (List CV->Option (List CV))} {args:List WV} {W W':q8} {r:WV} (h:wQ args W o=some (r,W')) {X:Cx} {args1:List HV} (hlen:args1.length=args.length) (s:SR X (a7 args) W (o8 args1)) :
 ∃ r1 Y,wB args1 X.H o=some (r1,Y.H)/\SR Y (a7 [r]) W' (o8 [r1])/\WStp X Y/\xO r:=by
 unfold wQ at h;split at h
 . cases h
 . rename_i g;split at h
   . rename_i xs hxs;split at h
     . rename_i us hus;injection h with h;injection h with z1 z2;subst z1;subst z2;have ha:=zg5 hxs;subst ha;have ha1:args1=xs.map .c:=zp0 xs 0 args1 (by simpa using hlen) (fun t _=>s.fr.env t);subst ha1;refine ⟨oneOf (us.map .c),X,by simp only [wB,q17,hus],⟨s.ok,⟨rfl,fun t=>?_⟩,s.hp,s.ht⟩,WStp.refl X,?_⟩
       . show VR X (Pl.sl t) (if t=0 then f4 (us.map .c) else .undef) (if t=0 then oneOf (us.map .c) else .undef);by_cases ht:t=0
         . subst ht;simp only [if_true];match us with
           | []=>exact ⟨_,rfl,trivial⟩
           | [u]=>exact (rfl:HV.c u=.c u)
           | u::u2::us'=>exact ⟨_,rfl,zv0 (u::u2::us') 0⟩
         . simp only [if_neg ht];exact (rfl:o9 .undef=false)
       . have hall:∀ us:List CV,(us.map WV.c).all A3=true/\(us.map WV.c).any c8=false/\A5 (us.map WV.c)=[]:=by
          intro us;induction us with
          | nil=>exact ⟨rfl,rfl,rfl⟩
          | cons u us ih=>exact ⟨by simp only [List.map_cons,List.all_cons,ih.1];rfl,by simp only [List.map_cons,List.any_cons,ih.2.1];rfl,by simp only [List.map_cons,A5,ih.2.2];rfl⟩
         match us with
         | []=>exact ⟨rfl,fun h=>(by cases h),fun _ _ h=>(by cases h),fun p hp=>(by cases hp)⟩
         | [u]=>exact ⟨rfl,fun h=>(by cases h),fun _ _ h=>(by cases h),fun p hp=>(by cases hp)⟩
         | u::u2::us'=>
           have:=hall (u::u2::us');refine ⟨this.1,fun h=>?_,fun _ _ h=>(by cases h),fun p hp=>?_⟩
           . have h':((u::u2::us').map WV.c).any c8=true:=h;rw [this.2.1] at h';cases h'
           . have hp':p∈A5 ((u::u2::us').map WV.c):=hp;rw [this.2.2] at hp';cases hp'
     . cases h
   . cases h
theorem fV {V:WEnv} {E:Env} (hE:EnvR V E) {cw:u5} {c:j8} (hc:I4 cw c) {it2:y0->y0} {it1:Run->Run} (hi:∀ a b,S8 a b->S8 (it2 a) (it1 b)):I4 (wFn V cw it2) (Q1 E c it1):=by
 intro f args W r W' h X args1 hlen s;unfold wFn at h;cases hf:V.fnA f args.length with
 | none=>
   rw [hf] at h;have hf':E.fnA f args1.length=none:=by rw [Env.fnA,<-hE.fn,<-hE.ar,hlen];exact hf
   unfold Q1;rw [hf'];exact ze1 (by rw [<-hE.ext];exact h) hlen s
 | some g=>
   rw [hf] at h;simp only at h;have hf':E.fnA f args1.length=some g:=by rw [Env.fnA,<-hE.fn,<-hE.ar,hlen];exact hf
   have fin:∀ e w1 W1,wC V cw it2 g.body (a7 args) W=some (e,w1,W1)->(e=.nrm\/e=.ret)->(match D6 w1 W1 g.res with
    | some vs=>X8 W.length vs W1
    | none=>none)=some (r,W')->∃ r1 Y,Q1 E c it1 f args1 X.H=some (r1,Y.H)/\SR Y (a7 [r]) W' (o8 [r1])/\WStp X Y/\xO r:=by
    intro e w1 W1 h1 he h2;obtain ⟨Y,fr1,k1,k2,k3⟩:=q12 hE hc hi g.body X _ W _ e w1 W1 s h1;split at h2
    . rename_i vs hvs;obtain ⟨hs,l1,l2⟩:=zc9 k2 g.res hvs;obtain ⟨Z,z1,z2,z3,z4⟩:=zf7 k2 l2 h2;refine ⟨oneOf hs,Z,?_,z1,k3.trans z2,z4⟩;unfold Q1;rw [hf'];simp only;have k1':evC E c it1 g.body { env:=t8 (binds 0 args1),al:=x6 } X.H=some (e,fr1,Y.H):=k1;rw [k1'];rcases he with he | he<;>subst he<;>simp only [l1,z3]
    . cases h2
   split at h
   . rename_i w1 W1 h1;exact fin _ w1 W1 h1 (.inl rfl) h
   . rename_i w1 W1 h1;exact fin _ w1 W1 h1 (.inr rfl) h
   . cases h
theorem z32 {V:WEnv} {E:Env} (hE:EnvR V E):∀ n,I4 (wF V n) (evF E n):=by
 intro n;induction n with
 | zero=>intro f args W r W' h;cases h
 | succ n ih=>
   have:=fV hE ih (it2:=m6 n) (it1:=itF n) (fun a b hab=>zf6 hab n);intro f args W r W' h;exact this f args W r W' h
theorem zu0 {V:WEnv} {E:Env} (hE:EnvR V E) {f:Nat} {us:List CV} {u:CV} {W':q8} (h:wv V f (us.map .c) []=some (.c u,W')):∃ H',ev E f (us.map .c) []=some (.c u,H'):=by
 obtain ⟨n,hn⟩:=wK h;obtain ⟨r1,Y,h1,h2,_⟩:=z32 hE n f _ _ _ _ hn _ _ (by simp) (lK us);have rr:=h2.fr.env 0;rw [bO,uG] at rr;have:r1=.c u:=rr;subst this;exact ⟨Y.H,zm9 h1⟩
end Go.Proofs.Lz
