/- Drawn regions: two operations that keep to classes which do not meet may change places. Nothing of the model is in sight here. -/
import Derived.Test.YtlimfobeoodkjaaGreatDoorLzComp
set_option linter.unusedVariables false
set_option linter.unusedSimpArgs false
namespace Go.Proofs.Lz
def isB:HV->Bool
 | .lbox _ _=>true
 | _=>false
def Fr.setD (fr:Fr) (dst:Option Nat) (r:HV×Option (Nat×Nat)):Fr:=
 match dst with
 | none=>fr
 | some d=>{ env:=upd fr.env d r.1,al:=upd fr.al d r.2 }
def Fr.setB (fr:Fr) (bx:Option (Nat×HV)):Fr:=
 match bx with
 | none=>fr
 | some (b,y)=>{ fr with env:=upd fr.env b y }
def Fr.unl (fr:Fr):Option Nat->Fr
 | none=>fr
 | some d=>{ fr with al:=unlink d fr.al }
def Fr.eff (fr:Fr) (bx:Option (Nat×HV)) (lb:Option Nat) (dst:Option Nat) (r:HV×Option (Nat×Nat)):Fr:=((fr.setB bx).unl lb).setD dst r
def Agr (R:List Nat) (fr fr':Fr):Prop:=∀ t∈R,fr.place (.t t)=fr'.place (.t t)/\r7 (fr.env t)=r7 (fr'.env t)
def AgrD (D:Option Nat) (fr fr':Fr):Prop:=∀ d,D=some d->isB (fr.env d)=isB (fr'.env d)
def AgrB (bo:Option Nat) (R:List Nat) (fr fr':Fr):Prop:=∀ t∈R,∀ b off,bo=some b->fr.place (.t t)=some (b,off)->fr.env b=fr'.env b
def W8 (fr:Fr):Prop:=∀ t,fr.al t≠none->isB (fr.env t)=false
theorem wV {v:HV} (h:isB v=true):∃ ek y,v=.lbox ek y:=by cases v<;>first | exact ⟨_,_,rfl⟩ | cases h
theorem bZ (fr:Fr) (t:Nat):fr.place (.t t)=match fr.al t with
 | some (b,off)=>if isB (fr.env b)=true then some (b,off) else none
 | none=>if isB (fr.env t)=true then some (t,0) else none:=by
 have key:∀ (b:Nat) (o:Option (Nat×Nat)),(match fr.env b with
  | .lbox _ _=>o
  | _=>none)=if isB (fr.env b)=true then o else none:=by
  intro b o;cases fr.env b<;>rfl
 simp only [Fr.place];cases fr.al t with
 | none=>exact key t _
 | some p=>exact key p.1 _
theorem pO {xs:List Opd} {fr fr':Fr} (h:Agr (l8 xs) fr fr'):∀ x∈xs,fr.opd x=fr'.opd x/\fr.place x=fr'.place x:=by
 induction xs with
 | nil=>intro x hx;simp at hx
 | cons y ys ih=>
   intro x hx;cases y with
   | k v=>
     rcases List.mem_cons.1 hx with rfl | hx
     . exact ⟨rfl,rfl⟩
     . exact ih h x hx
   | t i=>
     rcases List.mem_cons.1 hx with rfl | hx
     . obtain ⟨h1,h2⟩:=h i (by simp [l8]);exact ⟨h2,h1⟩
     . exact ih (fun t ht=>h t (by simp [l8,ht])) x hx
theorem l5 {xs:List Opd} {fr fr':Fr} (h:Agr (l8 xs) fr fr'):∀ x∈xs,fr'.opd x=fr.opd x/\fr'.place x=fr.place x:=
 fun x hx=>⟨(pO h x hx).1.symm,(pO h x hx).2.symm⟩
theorem zA {xs:List Opd} {fr:Fr} {x:Opd} {b off:Nat} (hx:x∈xs) (h:fr.place x=some (b,off)):∃ t∈l8 xs,∃ off,fr.place (.t t)=some (b,off):=by
 cases x with
 | k v=>simp [Fr.place] at h
 | t i=>
   refine ⟨i,?_,off,h⟩;induction xs with
   | nil=>simp at hx
   | cons y ys ih=>
     rcases List.mem_cons.1 hx with e | hx2
     . subst e;simp [l8]
     . cases y with
       | k v=>exact ih hx2
       | t j=>simp [l8,ih hx2]
theorem G1 (fr:Fr) (dst:Option Nat) (v:HV):fr.put dst v=fr.setD dst (v,none):=by cases dst<;>rfl
theorem pT (fr:Fr) (dst:Option Nat) (b off:Nat):fr.link dst b off=fr.setD dst (.undef,some (b,off)):=by cases dst<;>rfl
theorem ext_get {H:q7} {x:HO} {id:Nat} (ext:q7) (h:H[id]?=some x):(H++ext)[id]?=some x:=by
 rw [List.getElem?_append_left]
 . exact h
 . exact (gEs h).1
theorem gB {H:q7} (ext:q7) {v:HV} {u:CV} (h:t6 H v=some u):t6 (H++ext) v=some u:=by
 cases v with
 | sl id ver off len=>
   unfold t6 at h ⊢;dsimp only at h ⊢;cases hg:H[id]? with
   | none=>rw [hg] at h;cases h
   | some x=>rw [hg] at h;rw [ext_get ext hg];exact h
 | _=>exact h
theorem uV {H:q7} (ext:q7):∀ {vs:List HV} {us:List CV},m8 H vs=some us->m8 (H++ext) vs=some us:=by
 intro vs;induction vs with
 | nil=>intro us h;exact h
 | cons v vs ih=>
   intro us h;unfold m8 at h ⊢;cases h1:t6 H v with
   | none=>rw [h1] at h;cases h
   | some a=>
     cases h2:m8 H vs with
     | none=>rw [h1,h2] at h;cases h
     | some b=>rw [h1,h2] at h;rw [gB ext h1,ih h2];exact h
theorem nM {H:q7} (ext:q7) {v:HV} {u:CV} (h:u7 H v=some u):u7 (H++ext) v=some u:=by
 unfold u7 at h ⊢;split at h
 . rename_i cs;cases h1:m8 H cs with
   | none=>rw [h1] at h;cases h
   | some l=>rw [h1] at h;rw [uV ext h1];exact h
 . rename_i t cs;cases h1:m8 H cs with
   | none=>rw [h1] at h;cases h
   | some l=>rw [h1] at h;rw [uV ext h1];exact h
 . rename_i t v hn;cases h1:t6 H v with
   | none=>rw [h1] at h;cases h
   | some l=>rw [h1] at h;rw [gB ext h1];exact h
 . exact gB ext h
theorem mP {H:q7} (ext:q7) {v:HV} {u:CV} (h:H9 H v=some u):H9 (H++ext) v=some u:=by
 unfold H9 at h ⊢;split at h
 . rename_i id off;cases hg:H[id]? with
   | none=>rw [hg] at h;cases h
   | some x=>
     rw [hg] at h;rw [ext_get ext hg];cases x with
     | row fz e ek ver xs=>exact h
     | mp es ck=>exact h
     | var ek cs=>
       dsimp only at h ⊢;cases h1:m8 H cs with
       | none=>rw [h1] at h;cases h
       | some l=>rw [h1] at h;rw [uV ext h1];exact h
 . exact nM ext h
theorem rI {H:q7} (ext:q7):∀ {vs:List HV} {us:List CV},C4 H vs=some us->C4 (H++ext) vs=some us:=by
 intro vs;induction vs with
 | nil=>intro us h;exact h
 | cons v vs ih=>
   intro us h;unfold C4 at h ⊢;cases h1:H9 H v with
   | none=>rw [h1] at h;cases h
   | some a=>
     cases h2:C4 H vs with
     | none=>rw [h1,h2] at h;cases h
     | some b=>rw [h1,h2] at h;rw [mP ext h1,ih h2];exact h
theorem zy4 {H:q7} (ext:q7) {v:HV} {u:CV} (h:thaw H v=some u):thaw (H++ext) v=some u:=by
 unfold thaw at h ⊢;split at h
 . rename_i f first cap;cases h1:C4 H first with
   | none=>rw [h1] at h;cases h
   | some a=>
     cases h2:C4 H cap with
     | none=>rw [h1,h2] at h;cases h
     | some b=>rw [h1,h2] at h;rw [rI ext h1,rI ext h2];exact h
 . exact mP ext h
theorem z19 {H:q7} (ext:q7):∀ {vs us:List HV},a8 H vs=some us->a8 (H++ext) vs=some us:=by
 intro vs;induction vs with
 | nil=>intro us h;exact h
 | cons v vs ih=>
   intro us h;unfold a8 at h ⊢;cases h1:thaw H v with
   | none=>rw [h1] at h;cases h
   | some a=>
     cases h2:a8 H vs with
     | none=>rw [h1,h2] at h;cases h
     | some b=>rw [h1,h2] at h;rw [zy4 ext h1,ih h2];exact h
section
variable {E:Env} {call:j8} {W:q7->Prop}
theorem zq8:∀ {vs:List HV} (H:q7),vs.all isC=true->l7 vs H=H:=by
 intro vs;induction vs with
 | nil=>intro H _;rfl
 | cons v vs ih=>
   intro H h;rw [List.all_cons,Bool.and_eq_true] at h;cases v<;>first | (simp [isC] at h;done) | exact ih H h.2
theorem zc7:∀ {vs:List HV} (H:q7),vs.all zZ=true->E3 vs H=H/\vs.all M6=true:=by
 intro vs;induction vs with
 | nil=>intro H _;exact ⟨rfl,rfl⟩
 | cons v vs ih=>
   intro H h;rw [List.all_cons,Bool.and_eq_true] at h;obtain ⟨h1,h2⟩:=h;have hv:I3 v H=H/\M6 v=true:=by
    cases v<;>first | (simp [zZ,isC] at h1;done) | exact ⟨rfl,rfl⟩ | exact ⟨zq8 H (by simpa [zZ] using h1),rfl⟩
   unfold E3;rw [hv.1,(ih H h2).1];exact ⟨rfl,by rw [List.all_cons,hv.2,(ih H h2).2];rfl⟩
theorem tV {f:Nat} {args:List HV} {H H':q7} {v:HV} (hm:E.md f=.P) (h:l0 E call f args H=some (v,H')) (hn:noRef v=true\/args.all zZ=true) :
 H'=H/\∀ ext,l0 E call f args (H++ext)=some (v,H++ext):=by
 unfold l0 at h;rw [hm] at h;dsimp only at h;cases ha:a8 H args with
 | none=>rw [ha] at h;cases h
 | some a5=>
   rw [ha] at h;dsimp only at h;cases hc:call f a5 [] with
   | none=>rw [hc] at h;cases h
   | some p=>
     obtain ⟨r,H1⟩:=p;rw [hc] at h;dsimp only at h;cases hr:O6 H1 r with
     | none=>rw [hr] at h;cases h
     | some r'=>
       rw [hr] at h;dsimp only at h;have hv:v=r':=by
        split at h
        . injection h with h;injection h with h1 h2;exact h1.symm
        . split at h
          . injection h with h;injection h with h1 h2;exact h1.symm
          . cases h
       subst hv;have go:∀ H2,(if (args.all isC||noRef v)=true then some (v,H2) else if args.all M6=true then some (v,E3 args H2) else none)=some (v,H2):=by
        intro H2;rcases hn with hn | hn
        . rw [if_pos (by simp [hn])]
        . obtain ⟨e1,e2⟩:=zc7 H2 hn;split
          . rfl
          . first | rw [if_pos e2,e1] | rw [e1]
       rw [go] at h;injection h with h;injection h with h1 h2;refine ⟨h2.symm,fun ext=>?_⟩;unfold l0;rw [hm];dsimp only;rw [z19 ext ha];dsimp only;rw [hc];dsimp only;rw [hr];exact go _
theorem zv2 {o:IOp} {dst:Option Nat} {fr fr1:Fr} {H H1:q7} (hb:∀ fz e ek z n ps,o≠.bsl fz e ek z n ps) (h:doD E call .pure o dst fr H=some (fr1,H1)) :
 H1=H/\∃ r,fr1=fr.setD dst r/\(∀ b off,r.2=some (b,off)->∃ t∈l8 o.opds,∃ off,fr.place (.t t)=some (b,off))/\∀ fr',Agr (l8 o.opds) fr fr'->∀ H',doD E call .pure o dst fr' H'=some (fr'.setD dst r,H'):=by
 cases o
 case mv x | faddr off x | nck x=>
  simp only [doD,C9,q9,if_true,N6] at h
  (repeat' split at h)<;>first
    | (cases h;done)
    | (injection h with hh;injection hh with z1 z2;subst z1;subst z2;(first | refine ⟨rfl,_,G1 _ _ _,fun _ _ q=>(by cases q),fun fr' ha H'=>?_⟩ | refine ⟨rfl,_,pT _ _ _ _,fun _ _ q=>(by injection q with q;injection q with q1 q2;subst q1;exact zA (x:=x) (by simp [IOp.opds]) (by assumption)),fun fr' ha H'=>?_⟩);have hop:=l5 ha;simp_all [doD,q9,C9,IOp.opds,G1,N6,pT])
 case un | bin | eqs | eqb | pick | fld | cvs | fbox | six | aix | len | ext | isn | cvt | mx=>
  simp only [doD,C9,q9,if_true] at h
  (repeat' split at h)<;>first
    | (cases h;done)
    | (injection h with hh;injection hh with z1 z2;subst z1;subst z2;refine ⟨rfl,_,G1 _ _ _,fun _ _ q=>(by cases q),fun fr' ha H'=>?_⟩;have hop:=l5 ha;simp_all [doD,q9,C9,IOp.opds,G1,N6,pT])
 case build z ps=>
  simp only [doD,C9,q9,if_true] at h;split at h
  . rename_i cs hf;injection h with hh;injection hh with z1 z2;subst z1;subst z2;refine ⟨rfl,_,G1 _ _ _,fun _ _ q=>(by cases q),fun fr' ha H'=>?_⟩;have hop:=l5 ha;have:(ps.map fun p=>(p.1,p.2.1,fr'.opd p.2.2))=(ps.map fun p=>(p.1,p.2.1,fr.opd p.2.2)):=
     List.map_congr_left fun p hp=>by rw [(hop p.2.2 (by simp only [IOp.opds];exact List.mem_map_of_mem hp)).1]
    simp only [doD,C9,q9,if_true,this,hf,G1]
  . cases h
 case mxs b x ys=>
  simp only [doD,C9,q9,if_true] at h;cases hx:fr.opd x with
  | c xv=>
    rw [hx] at h;cases xv with
    | int k p=>
      dsimp only at h;cases hf:mxL b p (ys.map fr.opd) with
      | none=>rw [hf] at h;cases h
      | some r=>
        rw [hf] at h;injection h with hh;injection hh with z1 z2;subst z1;subst z2;refine ⟨rfl,_,G1 _ _ _,fun _ _ q=>(by cases q),fun fr' ha H'=>?_⟩;have hop:=l5 ha;have h1:ys.map fr'.opd=ys.map fr.opd:=List.map_congr_left fun x hx=>(hop x (by simp [IOp.opds,hx])).1;simp only [doD,C9,q9,if_true,h1,(hop x (by simp [IOp.opds])).1,hx,hf,G1]
    | _=>cases h
  | _=>rw [hx] at h;cases h
 case mkf f a5 bs=>
  simp only [doD,C9,q9,if_true] at h;injection h with hh;injection hh with z1 z2;subst z1;subst z2;refine ⟨rfl,_,G1 _ _ _,fun _ _ q=>(by cases q),fun fr' ha H'=>?_⟩;have hop:=l5 ha;have h1:a5.map fr'.opd=a5.map fr.opd:=List.map_congr_left fun x hx=>(hop x (by simp [IOp.opds,hx])).1;have h2:bs.map fr'.opd=bs.map fr.opd:=List.map_congr_left fun x hx=>(hop x (by simp [IOp.opds,hx])).1;simp only [doD,C9,q9,if_true,h1,h2,G1]
 case bsl fz e ek z n ps=>exact absurd rfl (hb fz e ek z n ps)
 all_goals simp [doD,C9] at h
theorem aG:∀ {vs:List HV} {us:List CV},m8 [] vs=some us->∀ H,l7 vs H=H:=by
 intro vs;induction vs with
 | nil=>intro us h H;rfl
 | cons v vs ih=>
   intro us h H;unfold m8 at h;cases h1:t6 [] v with
   | none=>rw [h1] at h;cases h
   | some a=>
     cases h2:m8 [] vs with
     | none=>rw [h1,h2] at h;cases h
     | some b=>
       cases v with
       | sl id ver off len=>simp [t6] at h1
       | _=>unfold l7;exact ih h2 H
theorem aZ {v:HV} {u:CV} (h:u7 [] v=some u) (H:q7):G9 v H=some (u,H):=by
 have h2:u7 H v=some u:=by have:=nM H h;simpa using this
 have h3:I3 v H=H:=by
  cases v with
  | sl id ver off len=>simp [u7,t6] at h
  | agg cs=>
    show l7 cs H=H;unfold u7 at h;dsimp only at h;cases h1:m8 [] cs with
    | none=>rw [h1] at h;cases h
    | some l=>exact aG h1 H
  | iface t x=>
    cases x with
    | sl id ver off len=>simp [u7,t6] at h
    | agg cs=>
      show l7 cs H=H;unfold u7 at h;dsimp only at h;cases h1:m8 [] cs with
      | none=>rw [h1] at h;cases h
      | some l=>exact aG h1 H
    | _=>rfl
  | _=>rfl
 unfold G9;split
 . simp [u7,t6] at h;rw [h]
 . rw [h2];dsimp only;rw [h3]
theorem aJ {ek:Option Nat}:∀ (ps:List (Nat×HV)) (xs:List CV) (H:q7) (ys:List CV) (H1:q7),(∀ p∈ps,(u7 [] p.2).isSome=true)->C5 ek xs H ps=some (ys,H1)->H1=H/\∀ H',C5 ek xs H' ps=some (ys,H'):=by
 intro ps;induction ps with
 | nil=>
   intro xs H ys H1 _ h;simp only [C5,Option.some.injEq,Prod.mk.injEq] at h;obtain ⟨rfl,rfl⟩:=h;exact ⟨rfl,fun _=>rfl⟩
 | cons p ps ih=>
   intro xs H ys H1 hp h;obtain ⟨i,v⟩:=p;obtain ⟨u,hu⟩:=Option.isSome_iff_exists.1 (hp (i,v) (by simp));unfold C5 at h;rw [aZ hu] at h;dsimp only at h;split at h
   . rename_i hc;obtain ⟨k1,k2⟩:=ih _ _ _ _ (fun q hq=>hp q (by simp [hq])) h;refine ⟨k1,fun H'=>?_⟩;unfold C5;rw [aZ hu];dsimp only;rw [if_pos hc];exact k2 H'
   . cases h
theorem zu8 {fz:Bool} {e:Nat} {ek:Option Nat} {z:List CV} {n:Nat} {ps:List (Nat×Opd)} {dst:Option Nat} {fr fr1:Fr} {H H1:q7} (h:doD E call .pure (.bsl fz e ek z n ps) dst fr H=some (fr1,H1)) :
 H1=H/\∃ r,fr1=fr.setD dst r/\(∀ b off,r.2=some (b,off)->∃ t∈l8 (IOp.bsl fz e ek z n ps).opds,∃ off,fr.place (.t t)=some (b,off))/\∀ fr',Agr (l8 (IOp.bsl fz e ek z n ps).opds) fr fr'->∀ H',doD E call .pure (.bsl fz e ek z n ps) dst fr' H'=some (fr'.setD dst r,H'):=by
 simp only [doD] at h;split at h
 . rename_i hc;obtain ⟨rfl,hps⟩:=hc;simp only [q9] at h;cases hz:A2 ek z with
   | none=>rw [hz] at h;cases h
   | some zz=>
     rw [hz] at h;dsimp only at h;split at h
     . rename_i hfit;cases hf:C5 ek (List.replicate n zz) H (ps.map fun p=>(p.1,fr.opd p.2)) with
       | none=>rw [hf] at h;cases h
       | some q=>
         obtain ⟨ys,H2⟩:=q;rw [hf] at h;simp only [if_true] at h;injection h with hh;injection hh with z1 z2;subst z1;subst z2;obtain ⟨k1,k2⟩:=aJ _ _ _ _ _ (by
          intro p hp;obtain ⟨q,hq,rfl⟩:=List.mem_map.1 hp;exact List.all_eq_true.1 hps q hq) hf
         refine ⟨k1,_,G1 _ _ _,fun _ _ q=>(by cases q),fun fr' ha H'=>?_⟩;have hop:=l5 ha;have e1:(ps.map fun p=>(p.1,fr'.opd p.2))=(ps.map fun p=>(p.1,fr.opd p.2)):=
          List.map_congr_left fun p hp=>by rw [(hop p.2 (by simp only [IOp.opds];exact List.mem_map_of_mem hp)).1]
         have e2:(ps.all fun p=>(u7 [] (fr'.opd p.2)).isSome)=true:=by
          rw [List.all_eq_true] at hps ⊢;intro p hp;rw [(hop p.2 (by simp only [IOp.opds];exact List.mem_map_of_mem hp)).1];exact hps p hp
         simp only [doD,e2,q9,e1,hz,hfit,k2 H',G1,if_true,and_self]
     . cases h
 . cases h
def Z0 (W:q7->Prop) (c:Cls) (H H1 H' H1':q7):Prop:=match c with
 | .pure | .rdb _ | .wrb _ | .lb=>H1'=H'
 | .rd=>(∃ ext,H'=H++ext)/\H1'=H'
 | .wr | .hb=>H'=H/\H1'=H1
 | .rdw=>W H/\W H'/\H1'=H'
def Q5:Cls->Option Nat
 | .rdb b | .wrb b=>some b
 | _=>none
def EffD (W:q7->Prop) (c:Cls) (R:List Nat) (dst:Option Nat) (fr:Fr) (H:q7) (fr1:Fr) (H1:q7) (step:Fr->q7->Option (Fr×q7)):Prop:=
 ((c≠.wr->c≠.hb->H1=H)/\(c=.hb->∃ ext,H1=H++ext)) /\
 ∃ (r:HV×Option (Nat×Nat)) (bx:Option (Nat×HV)) (lb:Option Nat),(∀ b y,bx=some (b,y)->isB (fr.env b)=true/\isB y=true/\∃ t∈R,∃ off,fr.place (.t t)=some (b,off))/\(∀ p,bx=some p->c=.wrb p.1)/\(bx≠none->dst=none) /\
  (c≠.lb->lb=none)/\(c=.lb->lb=none->isB r.1=false)/\(∀ d,lb=some d->dst=some d/\bx=none/\r.2=none)/\(∀ b off,r.2=some (b,off)->∃ t∈R,∃ off,fr.place (.t t)=some (b,off))/\fr1=fr.eff bx lb dst r /\
  ∀ fr',Agr R fr fr'->AgrD dst fr fr'->AgrB (Q5 c) R fr fr'->∀ H' H1',Z0 W c H H1 H' H1'->step fr' H'=some (fr'.eff bx lb dst r,H1')
theorem EffD.mono {W:q7->Prop} {c:Cls} {R R':List Nat} {dst:Option Nat} {fr fr1:Fr} {H H1:q7} {step:Fr->q7->Option (Fr×q7)} (h:EffD W c R dst fr H fr1 H1 step) (hR:∀ t∈R,t∈R'):EffD W c R' dst fr H fr1 H1 step:=by
 obtain ⟨h1,r,bx,lb,h2,h3,h4,h5,hx,h6,h7,h8,h9⟩:=h;exact ⟨h1,r,bx,lb,fun b y e=>⟨(h2 b y e).1,(h2 b y e).2.1,(h2 b y e).2.2.elim fun t q=>⟨t,hR t q.1,q.2⟩⟩,h3,h4,h5,hx,h6,fun b off e=>(h7 b off e).elim fun t q=>⟨t,hR t q.1,q.2⟩,h8,
  fun fr' ha hd hab=>h9 fr' (fun t ht=>ha t (hR t ht)) hd (fun t ht=>hab t (hR t ht))⟩
theorem Z9 {fr:Fr} {x:Opd} {b off:Nat} (h:fr.place x=some (b,off)):isB (fr.env b)=true:=by
 cases x with
 | k v=>simp [Fr.place] at h
 | t i=>
   simp only [Fr.place] at h;split at h
   . rename_i b' off' _;split at h
     . rename_i he;injection h with h;injection h with h1 h2;subst h1;rw [he];rfl
     . cases h
   . split at h
     . rename_i he;injection h with h;injection h with h1 h2;subst h1;rw [he];rfl
     . cases h
theorem iO {b0:Nat} {ek:Option Nat} {a:Opd} {dst:Option Nat} {fr fr1:Fr} {H H1:q7} (h:doD E call (.rdb b0) (.load ek a) dst fr H=some (fr1,H1)) :
 EffD W (.rdb b0) (l8 (IOp.load ek a).opds) dst fr H fr1 H1 (doD E call (.rdb b0) (.load ek a) dst):=by
 simp only [doD] at h;split at h
 . rename_i hp;simp only [q9] at h;cases hpl:fr.place a with
   | none=>rw [hpl] at hp;cases hp
   | some q=>
     obtain ⟨b,off⟩:=q;have hb0:b=b0:=by rw [hpl] at hp;simpa using hp
     subst hb0;rw [hpl] at h;dsimp only at h;obtain ⟨ek',y,hb⟩:=wV (Z9 hpl);rw [hb] at h;dsimp only at h;split at h
     . rename_i v hv;injection h with hh;injection hh with z1 z2;subst z1;subst z2;refine ⟨⟨fun _ _=>rfl,fun h=>by cases h⟩,(v,none),none,none,fun _ _ h=>(by cases h),fun _ h=>(by cases h),fun h=>absurd rfl h,fun _=>rfl,(fun h=>by cases h),fun _ h=>(by cases h),fun _ _ h=>(by cases h),G1 _ _ _,?_⟩;intro fr' ha had hab H' H1' hr;cases hr;have hop:=l5 ha a (by simp [IOp.opds]);have he:fr'.env b=.lbox ek' y:=by obtain ⟨t,ht,off',hp'⟩:=zA (xs:=(IOp.load ek a).opds) (x:=a) (by simp [IOp.opds]) hpl;rw [<-hab t ht b off' rfl hp'];exact hb
       simp only [doD,q9,hop.2,hpl,he,hv,G1,Option.map_some,if_true];rfl
     . cases h
 . cases h
theorem zx4 {b0:Nat} {ek:Option Nat} {a x:Opd} {dst:Option Nat} {fr fr1:Fr} {H H1:q7} (h:doD E call (.wrb b0) (.store ek a x) dst fr H=some (fr1,H1)) :
 EffD W (.wrb b0) (l8 (IOp.store ek a x).opds) dst fr H fr1 H1 (doD E call (.wrb b0) (.store ek a x) dst):=by
 simp only [doD] at h;split at h
 . rename_i hp;obtain ⟨hp,rfl⟩:=hp;simp only [q9] at h;cases hpl:fr.place a with
   | none=>rw [hpl] at hp;cases hp
   | some q=>
     obtain ⟨b,off⟩:=q;have hb0:b=b0:=by rw [hpl] at hp;simpa using hp
     subst hb0;rw [hpl] at h;dsimp only at h;have hbb:=Z9 hpl;obtain ⟨ek',y,hb⟩:=wV hbb;rw [hb] at h;dsimp only at h;split at h
     . rename_i hf;split at h
       . rename_i hc;injection h with hh;injection hh with z1 z2;subst z1;subst z2;refine ⟨⟨fun _ _=>rfl,fun h=>by cases h⟩,(.undef,none),some (b,.lbox ek' (fr.opd x)),none,fun b' y' h=>by injection h with h;injection h with e1 e2;subst e1;subst e2;exact ⟨hbb,rfl,zA (x:=a) (by simp [IOp.opds]) hpl⟩,fun p h=>(by injection h with h;subst h;rfl),fun _=>rfl,fun _=>rfl,(fun h=>by cases h),fun _ h=>(by cases h),fun _ _ h=>(by cases h),rfl,?_⟩;intro fr' ha had hab H' H1' hr;cases hr;have hop:=l5 ha;have h1:=hop a (by simp [IOp.opds]);have h2:=hop x (by simp [IOp.opds]);have he:fr'.env b=.lbox ek' y:=by obtain ⟨t,ht,off',hp'⟩:=zA (xs:=(IOp.store ek a x).opds) (x:=a) (by simp [IOp.opds]) hpl;rw [<-hab t ht b off' rfl hp'];exact hb
         simp only [doD,q9,h1.2,hpl,he,h2.1,hf,Option.map_some,if_true,and_self];rw [if_pos hc];rfl
       . rename_i hc;split at h
         . rename_i hl;split at h
           . rename_i x' hu;split at h
             . rename_i hf2;injection h with hh;injection hh with z1 z2;subst z1;subst z2;refine ⟨⟨fun _ _=>rfl,fun h=>by cases h⟩,(.undef,none),some (b,.lbox ek' x'),none,fun b' y' h=>by injection h with h;injection h with e1 e2;subst e1;subst e2;exact ⟨hbb,rfl,zA (x:=a) (by simp [IOp.opds]) hpl⟩,fun p h=>(by injection h with h;subst h;rfl),fun _=>rfl,fun _=>rfl,(fun h=>by cases h),fun _ h=>(by cases h),fun _ _ h=>(by cases h),rfl,?_⟩;intro fr' ha had hab H' H1' hr;cases hr;have hop:=l5 ha;have h1:=hop a (by simp [IOp.opds]);have h2:=hop x (by simp [IOp.opds]);have he:fr'.env b=.lbox ek' y:=by obtain ⟨t,ht,off',hp'⟩:=zA (xs:=(IOp.store ek a x).opds) (x:=a) (by simp [IOp.opds]) hpl;rw [<-hab t ht b off' rfl hp'];exact hb
               simp only [doD,q9,h1.2,hpl,he,h2.1,hf,Option.map_some,if_true,and_self];rw [if_neg hc,if_pos hl,hu];dsimp only;rw [if_pos hf2];rfl
             . cases h
           . cases h
         . cases h
     . cases h
 . cases h
theorem zq4 {ek:Option Nat} {p v:HV} {H:q7} (ext:q7) (h:m9 ek p H=some v):m9 ek p (H++ext)=some v:=by
 unfold m9 at h ⊢;split at h
 . exact h
 . rename_i id off;cases hg:H[id]? with
   | none=>rw [hg] at h;cases h
   | some x=>rw [hg] at h;rw [ext_get ext hg];exact h
 . rename_i id ver i off;cases hg:H[id]? with
   | none=>rw [hg] at h;cases h
   | some x=>rw [hg] at h;rw [ext_get ext hg];exact h
 . cases h
theorem zd3 {ek:Option Nat} {p v:HV} {n:Int} {H:q7} (ext:q7) (h:ixH ek p n H=some v):ixH ek p n (H++ext)=some v:=by
 unfold ixH at h ⊢;split at h
 . exact h
 . rename_i id ver off len;cases hg:H[id]? with
   | none=>rw [hg] at h;cases h
   | some x=>rw [hg] at h;rw [ext_get ext hg];exact h
 . cases h
theorem zz6 {st:Bool} {ek:Option Nat} {p v:HV} {lo hi:Option Int} {H:q7} (ext:q7) (h:I0 st ek p lo hi H=some v):I0 st ek p lo hi (H++ext)=some v:=by
 unfold I0 at h ⊢;split at h
 . exact h
 . exact h
 . exact h
 . rename_i id ver off len;cases hg:H[id]? with
   | none=>rw [hg] at h;cases h
   | some x=>rw [hg] at h;rw [ext_get ext hg];exact h
 . cases h
theorem lF {x:HV} {es:List (CV×HV×Nat)} {H:q7} (ext:q7) (h:N4 x H=some es):N4 x (H++ext)=some es:=by
 unfold N4 at h ⊢;split at h
 . exact h
 . rename_i id;cases hg:H[id]? with
   | none=>rw [hg] at h;cases h
   | some x=>rw [hg] at h;rw [ext_get ext hg];exact h
 . cases h
theorem lI {fr fr':Fr} {o:Option Opd} (h:∀ x,o=some x->fr'.opd x=fr.opd x):C0 fr' o=C0 fr o:=by
 cases o with
 | none=>rfl
 | some x=>unfold C0;dsimp only;rw [h x rfl]
theorem E2 {c:Cls} {R:List Nat} {dst:Option Nat} {fr:Fr} {H H1:q7} {v:HV} {step:Fr->q7->Option (Fr×q7)} (hv:c=.lb->isB v=false) (hm:(c≠.wr->c≠.hb->H1=H)/\(c=.hb->∃ ext,H1=H++ext)) (h:∀ fr',Agr R fr fr'->AgrB (Q5 c) R fr fr'->∀ H' H1',Z0 W c H H1 H' H1'->step fr' H'=some (fr'.put dst v,H1')):EffD W c R dst fr H (fr.put dst v) H1 step:=by
 refine ⟨hm,(v,none),none,none,fun _ _ h=>(by cases h),fun _ h=>(by cases h),fun h=>absurd rfl h,fun _=>rfl,(fun h _=>hv h),fun _ h=>(by cases h),fun _ _ h=>(by cases h),G1 _ _ _,?_⟩;intro fr' ha had hab H' H1' hr;rw [h fr' ha hab H' H1' hr,G1];rfl
theorem zg1 {o:IOp} {dst:Option Nat} {fr fr1:Fr} {H H1:q7} (h:doD E call .lb o dst fr H=some (fr1,H1)):EffD W .lb (l8 o.opds) dst fr H fr1 H1 (doD E call .lb o dst):=by
 cases o with
 | lbox ek x=>
   cases dst with
   | none=>simp [doD,q9] at h
   | some d=>
     simp only [doD,q9] at h;split at h
     . rename_i hf;injection h with hh;injection hh with z1 z2;subst z1;subst z2;refine ⟨⟨fun _ _=>rfl,fun h=>by cases h⟩,(.lbox ek (fr.opd x),none),none,some d,fun _ _ h=>(by cases h),fun _ h=>(by cases h),fun h=>absurd rfl h,fun h=>absurd rfl h,(fun _ h=>by cases h),fun d' h=>(by injection h with h;subst h;exact ⟨rfl,rfl,rfl⟩),fun _ _ h=>(by cases h),?_,?_⟩
       . simp only [Fr.eff,Fr.setB,Fr.unl,Fr.setD];congr 1;funext t;simp only [upd,unlink];split<;>rfl
       . intro fr' ha had hab H' H1' hr;cases hr;have hop:=l5 ha x (by simp [IOp.opds]);simp only [doD,q9,hop.1,hf,if_true,Fr.eff,Fr.setB,Fr.unl,Fr.setD];congr 3;funext t;simp only [upd,unlink];split<;>rfl
     . cases h
 | _=>simp [doD] at h
theorem oP {o:IOp} {dst:Option Nat} {fr fr1:Fr} {H H1:q7} (h:doD E call .rd o dst fr H=some (fr1,H1)):EffD W .rd (l8 o.opds) dst fr H fr1 H1 (doD E call .rd o dst):=by
 cases o with
 | load ek a=>
   simp only [doD] at h;split at h
   . cases h
   . rename_i hp;simp only [q9] at h;cases hpl:fr.place a with
     | some q=>rw [hpl] at hp;simp at hp
     | none=>
       rw [hpl] at h;dsimp only at h;cases hl:m9 ek (fr.opd a) H with
       | none=>rw [hl] at h;cases h
       | some v=>
         rw [hl] at h;injection h with hh;injection hh with z1 z2;subst z1;subst z2;refine E2 (fun h=>by cases h) ⟨fun _ _=>rfl,fun h=>by cases h⟩ fun fr' ha hab H' H1' hr=>?_;obtain ⟨⟨ext,rfl⟩,rfl⟩:=hr;have hop:=l5 ha a (by simp [IOp.opds]);simp only [doD,q9,hop.2,hop.1,hpl,zq4 ext hl];rfl
 | ix ek x i=>
   simp only [doD,q9] at h;cases hi:K8 (fr.opd i) with
   | none=>rw [hi] at h;cases h
   | some n=>
     rw [hi] at h;dsimp only at h;cases hl:ixH ek (fr.opd x) n H with
     | none=>rw [hl] at h;cases h
     | some v=>
       rw [hl] at h;injection h with hh;injection hh with z1 z2;subst z1;subst z2;refine E2 (fun h=>by cases h) ⟨fun _ _=>rfl,fun h=>by cases h⟩ fun fr' ha hab H' H1' hr=>?_;obtain ⟨⟨ext,rfl⟩,rfl⟩:=hr;have hop:=l5 ha;simp only [doD,q9,(hop x (by simp [IOp.opds])).1,(hop i (by simp [IOp.opds])).1,hi,zd3 ext hl]
 | slc st ek x lo hi=>
   simp only [doD,q9] at h;cases h1:C0 fr lo with
   | none=>rw [h1] at h;cases h
   | some l=>
     cases h2:C0 fr hi with
     | none=>rw [h1,h2] at h;cases h
     | some u=>
       rw [h1,h2] at h;dsimp only at h;cases hl:I0 st ek (fr.opd x) l u H with
       | none=>rw [hl] at h;cases h
       | some v=>
         rw [hl] at h;injection h with hh;injection hh with z1 z2;subst z1;subst z2;refine E2 (fun h=>by cases h) ⟨fun _ _=>rfl,fun h=>by cases h⟩ fun fr' ha hab H' H1' hr=>?_;obtain ⟨⟨ext,rfl⟩,rfl⟩:=hr;have hop:=l5 ha;have e1:C0 fr' lo=C0 fr lo:=lI fun y hy=>(hop y (by simp [IOp.opds,hy])).1;have e2:C0 fr' hi=C0 fr hi:=lI fun y hy=>(hop y (by simp [IOp.opds,hy])).1;simp only [doD,q9,(hop x (by simp [IOp.opds])).1,e1,e2,h1,h2,zz6 ext hl]
 | mlen x=>
   simp only [doD,q9] at h;cases he:N4 (fr.opd x) H with
   | none=>rw [he] at h;cases h
   | some es=>
     rw [he] at h;injection h with hh;injection hh with z1 z2;subst z1;subst z2;refine E2 (fun h=>by cases h) ⟨fun _ _=>rfl,fun h=>by cases h⟩ fun fr' ha hab H' H1' hr=>?_;obtain ⟨⟨ext,rfl⟩,rfl⟩:=hr;have hop:=l5 ha;simp only [doD,q9,(hop x (by simp [IOp.opds])).1,lF ext he]
 | mget kd ok z x k=>
   simp only [doD,q9] at h;cases he:N4 (fr.opd x) H with
   | none=>rw [he] at h;cases h
   | some es=>
     rw [he] at h;cases hk:fr.opd k with
     | c key=>
       rw [hk] at h;dsimp only at h;cases hf:J9 kd key es 0 with
       | none=>rw [hf] at h;cases h
       | some r=>
         rw [hf] at h;rcases r with _ | ⟨i,v,b⟩ <;>
          (dsimp only at h
           injection h with hh;injection hh with z1 z2;subst z1;subst z2;refine E2 (fun h=>by cases h) ⟨fun _ _=>rfl,fun h=>by cases h⟩ fun fr' ha hab H' H1' hr=>?_;obtain ⟨⟨ext,rfl⟩,rfl⟩:=hr;have hop:=l5 ha;simp only [doD,q9,(hop x (by simp [IOp.opds])).1,(hop k (by simp [IOp.opds])).1,lF ext he,hk,hf])
     | _=>rw [hk] at h;cases h
 | call f args=>
   simp only [doD] at h;split at h
   . rename_i hm;cases hc:l0 E call f (args.map fr.opd) H with
     | none=>rw [hc] at h;cases h
     | some p=>
       obtain ⟨v,H2⟩:=p;rw [hc] at h;dsimp only at h;split at h
       . rename_i hn;injection h with hh;injection hh with z1 z2;subst z1;subst z2;refine E2 (fun h=>by cases h) ⟨fun _ _=>rfl,fun h=>by cases h⟩ fun fr' ha hab H' H1' hr=>?_;obtain ⟨⟨ext,rfl⟩,rfl⟩:=hr;have hop:=l5 ha;have e1:args.map fr'.opd=args.map fr.opd:=List.map_congr_left fun x hx=>(hop x (by simp [IOp.opds,hx])).1;have:=(tV hm hc hn).2 ext;simp only [doD,e1,this,hm,if_true];rw [if_pos hn]
       . cases h
   . cases h
 | _=>simp [doD] at h
theorem zc0 {o:IOp} {dst:Option Nat} {fr fr1:Fr} {H H1:q7} (h:doD E call .hb o dst fr H=some (fr1,H1)):EffD W .hb (l8 o.opds) dst fr H fr1 H1 (doD E call .hb o dst):=by
 cases o with
 | hbox ek x=>
   simp only [doD,q9] at h;split at h
   . rename_i hf;injection h with hh;injection hh with z1 z2;subst z1;subst z2;refine E2 (fun h=>by cases h) ⟨fun _ h=>absurd rfl h,fun _=>⟨_,rfl⟩⟩ fun fr' ha hab H' H1' hr=>?_;obtain ⟨rfl,rfl⟩:=hr;have hop:=l5 ha x (by simp [IOp.opds]);simp only [doD,q9,hop.1,hf,if_true]
   . cases h
 | bsl fz e ek z n ps=>
   simp only [doD] at h;split at h
   . rename_i hc;obtain ⟨rfl,hps⟩:=hc;simp only [q9] at h;cases hz:A2 ek z with
     | none=>rw [hz] at h;cases h
     | some zz=>
       rw [hz] at h;dsimp only at h;split at h
       . rename_i hfit;cases hf:C5 ek (List.replicate n zz) H (ps.map fun p=>(p.1,fr.opd p.2)) with
         | none=>rw [hf] at h;cases h
         | some q=>
           obtain ⟨ys,H2⟩:=q;rw [hf] at h;simp only [Bool.false_eq_true,if_false] at h;injection h with hh;injection hh with z1 z2;subst z1;subst z2;obtain ⟨k1,k2⟩:=aJ _ _ _ _ _ (by
            intro p hp;obtain ⟨q,hq,rfl⟩:=List.mem_map.1 hp;exact List.all_eq_true.1 hps q hq) hf
           subst k1;refine E2 (fun h=>by cases h) ⟨fun _ h=>absurd rfl h,fun _=>⟨_,rfl⟩⟩ fun fr' ha hab H' H1' hr=>?_;obtain ⟨rfl,rfl⟩:=hr;have hop:=l5 ha;have e1:(ps.map fun p=>(p.1,fr'.opd p.2))=(ps.map fun p=>(p.1,fr.opd p.2)):=
            List.map_congr_left fun p hp=>by rw [(hop p.2 (by simp only [IOp.opds];exact List.mem_map_of_mem hp)).1]
           have e2:(ps.all fun p=>(u7 [] (fr'.opd p.2)).isSome)=true:=by
            rw [List.all_eq_true] at hps ⊢;intro p hp;rw [(hop p.2 (by simp only [IOp.opds];exact List.mem_map_of_mem hp)).1];exact hps p hp
           simp only [doD,e2,q9,e1,hz,hfit,hf,if_true,and_self,Bool.false_eq_true,if_false]
       . cases h
   . cases h
 | _=>simp [doD] at h
def K3 (W:q7->Prop) (c:Cls) (o:IOp) (fr:Fr):Prop:=c=.rdw->∀ ek a,o=.load ek a->∃ v,∀ H,W H->m9 ek (fr.opd a) H=some v
theorem z69 {o:IOp} {dst:Option Nat} {fr fr1:Fr} {H H1:q7} (hst:K3 W .rdw o fr) (h:doD E call .rdw o dst fr H=some (fr1,H1)):EffD W .rdw (l8 o.opds) dst fr H fr1 H1 (doD E call .rdw o dst):=by
 cases o with
 | load ek a=>
   obtain ⟨v0,hv0⟩:=hst rfl ek a rfl;simp only [doD] at h;split at h
   . cases h
   . rename_i hp;simp only [q9] at h;cases hpl:fr.place a with
     | some q=>rw [hpl] at hp;simp at hp
     | none=>
       rw [hpl] at h;dsimp only at h;cases hl:m9 ek (fr.opd a) H with
       | none=>rw [hl] at h;cases h
       | some v=>
         rw [hl] at h;injection h with hh;injection hh with z1 z2;subst z1;subst z2;refine E2 (fun h=>by cases h) ⟨fun _ _=>rfl,fun h=>by cases h⟩ fun fr' ha hab H' H1' hr=>?_;obtain ⟨hr1,hr2,rfl⟩:=hr;have hop:=l5 ha a (by simp [IOp.opds]);have e1:v0=v:=by have:=hv0 _ hr1;rw [hl] at this;injection this with this;exact this.symm
         simp only [doD,q9,hop.2,hop.1,hpl,hv0 _ hr2,e1];rfl
 | _=>simp [doD] at h
theorem zi1 {o:IOp} {dst:Option Nat} {fr fr1:Fr} {H H1:q7} (h:doD E call .wr o dst fr H=some (fr1,H1)):EffD W .wr (l8 o.opds) dst fr H fr1 H1 (doD E call .wr o dst):=by
 have hm:(Cls.wr≠.wr->Cls.wr≠.hb->H1=H)/\(Cls.wr=.hb->∃ ext,H1=H++ext):=⟨fun h=>absurd rfl h,fun h=>by cases h⟩;cases o with
 | store ek a x=>
   simp only [doD] at h;split at h
   . cases h
   . rename_i hp;have hdst:dst=none:=by
      cases dst with
      | none=>rfl
      | some d=>exact absurd (.inr (by simp)) hp
     subst hdst;simp only [q9] at h;cases hpl:fr.place a with
     | some q=>rw [hpl] at hp;simp at hp
     | none=>
       rw [hpl] at h;dsimp only at h;cases hl:I7 ek (fr.opd a) (fr.opd x) H with
       | none=>rw [hl] at h;cases h
       | some H2=>
         rw [hl] at h;injection h with hh;injection hh with z1 z2;subst z1;subst z2;refine ⟨hm,(.undef,none),none,none,fun _ _ h=>(by cases h),fun _ h=>(by cases h),fun h=>absurd rfl h,fun _=>rfl,(fun h=>by cases h),fun _ h=>(by cases h),fun _ _ h=>(by cases h),rfl,?_⟩;intro fr' ha had hab H' H1' hr;obtain ⟨rfl,rfl⟩:=hr;have hop:=l5 ha;have h1:=hop a (by simp [IOp.opds]);have h2:=hop x (by simp [IOp.opds]);simp only [doD,q9,h1.1,h1.2,h2.1,hpl,hl];simp [Fr.setB,Fr.setD,Fr.eff,Fr.unl]
 | app e ek n s x=>
   simp only [doD,q9] at h;cases hl:appH e ek n (fr.opd s) (fr.opd x) H with
   | none=>rw [hl] at h;cases h
   | some q=>
     rw [hl] at h;injection h with hh;injection hh with z1 z2;subst z1;subst z2;refine E2 (fun h=>by cases h) hm fun fr' ha hab H' H1' hr=>?_;obtain ⟨rfl,rfl⟩:=hr;have hop:=l5 ha;simp only [doD,q9,(hop s (by simp [IOp.opds])).1,(hop x (by simp [IOp.opds])).1,hl]
 | mkm=>
   simp only [doD,q9] at h;injection h with hh;injection hh with z1 z2;subst z1;subst z2;refine E2 (fun h=>by cases h) hm fun fr' ha hab H' H1' hr=>?_;obtain ⟨rfl,rfl⟩:=hr;simp only [doD,q9]
 | ment kd z x k=>
   simp only [doD,q9] at h;split at h
   . rename_i id key hx hk;cases hg:H[id]? with
     | none=>rw [hg] at h;cases h
     | some ob=>
       rw [hg] at h;cases ob with
       | mp es ck=>
         dsimp only at h;cases hf:J9 kd key es 0 with
         | none=>rw [hf] at h;cases h
         | some r=>
           rw [hf] at h;rcases r with _ | ⟨i,v,b⟩ <;>
            (dsimp only at h
             injection h with hh;injection hh with z1 z2;subst z1;subst z2;refine E2 (fun h=>by cases h) hm fun fr' ha hab H' H1' hr=>?_;obtain ⟨rfl,rfl⟩:=hr;have hop:=l5 ha;simp only [doD,q9,(hop x (by simp [IOp.opds])).1,(hop k (by simp [IOp.opds])).1,hx,hk,hg,hf])
       | _=>cases h
   . cases h
 | mset kd x k v=>
   simp only [doD,q9] at h;split at h
   . rename_i id key hx hk;cases hg:H[id]? with
     | none=>rw [hg] at h;cases h
     | some ob=>
       rw [hg] at h;cases ob with
       | mp es ck=>
         dsimp only at h;cases hf:J9 kd key es 0 with
         | none=>rw [hf] at h;cases h
         | some r=>
           rw [hf] at h;rcases r with _ | ⟨i,v',b⟩ <;>
            (dsimp only at h
             injection h with hh;injection hh with z1 z2;subst z1;subst z2;refine ⟨hm,(.undef,none),none,none,fun _ _ h=>(by cases h),fun _ h=>(by cases h),fun h=>absurd rfl h,fun _=>rfl,(fun h=>by cases h),fun _ h=>(by cases h),fun _ _ h=>(by cases h),rfl,?_⟩;intro fr' ha had hab H' H1' hr;obtain ⟨rfl,rfl⟩:=hr;have hop:=l5 ha;simp only [doD,q9,(hop x (by simp [IOp.opds])).1,(hop k (by simp [IOp.opds])).1,(hop v (by simp [IOp.opds])).1,hx,hk,hg,hf];simp [Fr.setB,Fr.setD,Fr.eff,Fr.unl])
       | _=>cases h
   . cases h
 | msto x k v=>
   simp only [doD,q9] at h;split at h
   . rename_i id key n hx hk;cases hg:H[id]? with
     | none=>rw [hg] at h;cases h
     | some ob=>
       rw [hg] at h;cases ob with
       | mp es ck=>
         dsimp only at h;cases hf:X3 n es 0 with
         | none=>rw [hf] at h;cases h
         | some r=>
           rw [hf] at h;obtain ⟨i,k',b⟩:=r;dsimp only at h;injection h with hh;injection hh with z1 z2;subst z1;subst z2;refine ⟨hm,(.undef,none),none,none,fun _ _ h=>(by cases h),fun _ h=>(by cases h),fun h=>absurd rfl h,fun _=>rfl,(fun h=>by cases h),fun _ h=>(by cases h),fun _ _ h=>(by cases h),rfl,?_⟩;intro fr' ha had hab H' H1' hr;obtain ⟨rfl,rfl⟩:=hr;have hop:=l5 ha;simp only [doD,q9,(hop x (by simp [IOp.opds])).1,(hop k (by simp [IOp.opds])).1,(hop v (by simp [IOp.opds])).1,hx,hk,hg,hf];simp [Fr.setB,Fr.setD,Fr.eff,Fr.unl]
       | _=>cases h
   . cases h
 | bsl fz e ek z n ps=>
   simp only [doD,q9] at h;cases hz:A2 ek z with
   | none=>rw [hz] at h;cases h
   | some zz=>
     rw [hz] at h;dsimp only at h;split at h
     . rename_i hfit;cases hf:C5 ek (List.replicate n zz) H (ps.map fun p=>(p.1,fr.opd p.2)) with
       | none=>rw [hf] at h;cases h
       | some q=>
         obtain ⟨ys,H2⟩:=q;rw [hf] at h;dsimp only at h;have e1:∀ fr',Agr (l8 (IOp.bsl fz e ek z n ps).opds) fr fr'->(ps.map fun p=>(p.1,fr'.opd p.2))=(ps.map fun p=>(p.1,fr.opd p.2)):=
          fun fr' ha=>List.map_congr_left fun p hp=>by rw [(l5 ha p.2 (by simp only [IOp.opds];exact List.mem_map_of_mem hp)).1]
         split at h
         . rename_i hfz;injection h with hh;injection hh with z1 z2;subst z1;subst z2;refine E2 (fun h=>by cases h) hm fun fr' ha hab H' H1' hr=>?_;obtain ⟨rfl,rfl⟩:=hr;simp only [doD,q9,hz,hfit,e1 fr' ha,hf,hfz,if_true]
         . rename_i hfz;injection h with hh;injection hh with z1 z2;subst z1;subst z2;refine E2 (fun h=>by cases h) hm fun fr' ha hab H' H1' hr=>?_;obtain ⟨rfl,rfl⟩:=hr;simp only [doD,q9,hz,hfit,e1 fr' ha,hf,if_true];rw [if_neg hfz]
     . cases h
 | call f args=>
   simp only [doD,f8,F4] at h;cases hc:l0 E call f (args.map fr.opd) H with
   | none=>rw [hc] at h;cases h
   | some p=>
     obtain ⟨v,H2⟩:=p;rw [hc] at h;injection h with hh;injection hh with z1 z2;subst z1;subst z2;refine E2 (fun h=>by cases h) hm fun fr' ha hab H' H1' hr=>?_;obtain ⟨rfl,rfl⟩:=hr;have hop:=l5 ha;have e1:args.map fr'.opd=args.map fr.opd:=List.map_congr_left fun x hx=>(hop x (by simp [IOp.opds,hx])).1;simp only [doD,f8,F4,e1,hc]
 | callv x args=>
   simp only [doD,f8,F4] at h;cases ht:Z1 (fr.opd x) (args.map fr.opd) with
   | none=>rw [ht] at h;cases h
   | some q=>
     rw [ht] at h;dsimp only at h;cases hc:l0 E call q.1 q.2 H with
     | none=>rw [hc] at h;cases h
     | some p=>
       obtain ⟨v,H2⟩:=p;rw [hc] at h;injection h with hh;injection hh with z1 z2;subst z1;subst z2;refine E2 (fun h=>by cases h) hm fun fr' ha hab H' H1' hr=>?_;obtain ⟨rfl,rfl⟩:=hr;have hop:=l5 ha;have e1:args.map fr'.opd=args.map fr.opd:=List.map_congr_left fun x hx=>(hop x (by simp [IOp.opds,hx])).1;simp only [doD,f8,F4,e1,(hop x (by simp [IOp.opds])).1,ht,hc]
 | _=>simp [doD] at h
theorem fJ {c:Cls} {o:IOp} {dst:Option Nat} {fr fr1:Fr} {H H1:q7} (hst:K3 W c o fr) (h:doD E call c o dst fr H=some (fr1,H1)):EffD W c (l8 o.opds) dst fr H fr1 H1 (doD E call c o dst):=by
 cases c with
 | pure=>
   have key:H1=H/\∃ r,fr1=fr.setD dst r/\(∀ b off,r.2=some (b,off)->∃ t∈l8 o.opds,∃ off,fr.place (.t t)=some (b,off))/\∀ fr',Agr (l8 o.opds) fr fr'->∀ H',doD E call .pure o dst fr' H'=some (fr'.setD dst r,H'):=by
    cases o with
    | bsl fz e ek z n ps=>exact zu8 h
    | _=>exact zv2 (by intros;simp) h
   obtain ⟨k1,r,k2,kl,k3⟩:=key;refine ⟨⟨fun _ _=>k1,fun h=>by cases h⟩,r,none,none,fun _ _ h=>(by cases h),fun _ h=>(by cases h),fun h=>absurd rfl h,fun _=>rfl,(fun h=>by cases h),fun _ h=>(by cases h),kl,k2,?_⟩;intro fr' ha had hab H' H1' hr;cases hr;exact k3 fr' ha H'
 | rdb b0=>cases o<;>first | exact iO h | simp [doD] at h
 | wrb b0=>cases o<;>first | exact zx4 h | simp [doD] at h
 | rd=>exact oP h
 | wr=>exact zi1 h
 | hb=>exact zc0 h
 | lb=>exact zg1 h
 | rdw=>exact z69 hst h
end
end Go.Proofs.Lz
