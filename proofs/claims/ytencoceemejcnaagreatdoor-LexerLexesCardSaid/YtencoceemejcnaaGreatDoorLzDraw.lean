/- Drawn regions: two operations that keep to classes which do not meet may change places. Nothing of the model is in sight here. -/
import Derived.Test.YtencoceemejcnaaGreatDoorLzOm
set_option linter.unusedVariables false
set_option linter.unusedSimpArgs false
namespace Go.Proofs.Lz
def isB:HV->Bool
 | .lbox _ _=>true
 | _=>false
def Fr.setD (fr:Fr) (dst:Option Nat) (r:HV×Option (Nat×Nat)):Fr:=
 match dst with
 | none=>fr
 | some d=>{ env:=upd fr.env d r.1,al:=upd fr.al d r.2 }
def Fr.setB (fr:Fr) (bx:Option (Nat×HV)):Fr:=
 match bx with
 | none=>fr
 | some (b,y)=>{ fr with env:=upd fr.env b y }
def Fr.unl (fr:Fr):Option Nat->Fr
 | none=>fr
 | some d=>{ fr with al:=unlink d fr.al }
def Fr.eff (fr:Fr) (bx:Option (Nat×HV)) (lb:Option Nat) (dst:Option Nat) (r:HV×Option (Nat×Nat)):Fr:=((fr.setB bx).unl lb).setD dst r
def Agr (R:List Nat) (fr fr':Fr):Prop:=∀ t∈R,fr.place (.t t)=fr'.place (.t t)/\B9 (fr.env t)=B9 (fr'.env t)
def AgrD (D:Option Nat) (fr fr':Fr):Prop:=∀ d,D=some d->isB (fr.env d)=isB (fr'.env d)
def AgrB (R:List Nat) (fr fr':Fr):Prop:=∀ t∈R,∀ b off,fr.place (.t t)=some (b,off)->fr.env b=fr'.env b
def vA (fr:Fr):Prop:=∀ t,fr.al t≠none->isB (fr.env t)=false
theorem pU {v:HV} (h:isB v=true):∃ ek y,v=.lbox ek y:=by cases v<;>first | exact ⟨_,_,rfl⟩ | cases h
theorem z44 (fr:Fr) (t:Nat):fr.place (.t t)=match fr.al t with
 | some (b,off)=>if isB (fr.env b)=true then some (b,off) else none
 | none=>if isB (fr.env t)=true then some (t,0) else none:=by
 have key:∀ (b:Nat) (o:Option (Nat×Nat)),(match fr.env b with
  | .lbox _ _=>o
  | _=>none)=if isB (fr.env b)=true then o else none:=by
  intro b o;cases fr.env b<;>rfl
 simp only [Fr.place];cases fr.al t with
 | none=>exact key t _
 | some p=>exact key p.1 _
theorem oJ {xs:List Opd} {fr fr':Fr} (h:Agr (H8 xs) fr fr'):∀ x∈xs,fr.opd x=fr'.opd x/\fr.place x=fr'.place x:=by
 induction xs with
 | nil=>intro x hx;simp at hx
 | cons y ys ih=>
   intro x hx;cases y with
   | k v=>
     rcases List.mem_cons.1 hx with rfl | hx
     . exact ⟨rfl,rfl⟩
     . exact ih h x hx
   | t i=>
     rcases List.mem_cons.1 hx with rfl | hx
     . obtain ⟨h1,h2⟩:=h i (by simp [H8]);exact ⟨h2,h1⟩
     . exact ih (fun t ht=>h t (by simp [H8,ht])) x hx
theorem N6 {xs:List Opd} {fr fr':Fr} (h:Agr (H8 xs) fr fr'):∀ x∈xs,fr'.opd x=fr.opd x/\fr'.place x=fr.place x:=
 fun x hx=>⟨(oJ h x hx).1.symm,(oJ h x hx).2.symm⟩
theorem uG {xs:List Opd} {fr:Fr} {x:Opd} {b off:Nat} (hx:x∈xs) (h:fr.place x=some (b,off)):∃ t∈H8 xs,∃ off,fr.place (.t t)=some (b,off):=by
 cases x with
 | k v=>simp [Fr.place] at h
 | t i=>
   refine ⟨i,?_,off,h⟩;induction xs with
   | nil=>simp at hx
   | cons y ys ih=>
     rcases List.mem_cons.1 hx with e | hx2
     . subst e;simp [H8]
     . cases y with
       | k v=>exact ih hx2
       | t j=>simp [H8,ih hx2]
theorem U7 (fr:Fr) (dst:Option Nat) (v:HV):fr.put dst v=fr.setD dst (v,none):=by cases dst<;>rfl
theorem sB (fr:Fr) (dst:Option Nat) (b off:Nat):fr.link dst b off=fr.setD dst (.undef,some (b,off)):=by cases dst<;>rfl
theorem ext_get {H:j6} {x:HO} {id:Nat} (ext:j6) (h:H[id]?=some x):(H++ext)[id]?=some x:=by
 rw [List.getElem?_append_left]
 . exact h
 . exact (gEs h).1
theorem sD {H:j6} (ext:j6) {v:HV} {u:CV} (h:F4 H v=some u):F4 (H++ext) v=some u:=by
 cases v with
 | sl id ver off len=>
   unfold F4 at h ⊢;dsimp only at h ⊢;cases hg:H[id]? with
   | none=>rw [hg] at h;cases h
   | some x=>rw [hg] at h;rw [ext_get ext hg];exact h
 | _=>exact h
theorem rD {H:j6} (ext:j6):∀ {vs:List HV} {us:List CV},F6 H vs=some us->F6 (H++ext) vs=some us:=by
 intro vs;induction vs with
 | nil=>intro us h;exact h
 | cons v vs ih=>
   intro us h;unfold F6 at h ⊢;cases h1:F4 H v with
   | none=>rw [h1] at h;cases h
   | some a=>
     cases h2:F6 H vs with
     | none=>rw [h1,h2] at h;cases h
     | some b=>rw [h1,h2] at h;rw [sD ext h1,ih h2];exact h
theorem hM {H:j6} (ext:j6) {v:HV} {u:CV} (h:D2 H v=some u):D2 (H++ext) v=some u:=by
 unfold D2 at h ⊢;split at h
 . rename_i cs;cases h1:F6 H cs with
   | none=>rw [h1] at h;cases h
   | some l=>rw [h1] at h;rw [rD ext h1];exact h
 . rename_i t cs;cases h1:F6 H cs with
   | none=>rw [h1] at h;cases h
   | some l=>rw [h1] at h;rw [rD ext h1];exact h
 . rename_i t v hn;cases h1:F4 H v with
   | none=>rw [h1] at h;cases h
   | some l=>rw [h1] at h;rw [sD ext h1];exact h
 . exact sD ext h
theorem oN {H:j6} (ext:j6) {v:HV} {u:CV} (h:U5 H v=some u):U5 (H++ext) v=some u:=by
 unfold U5 at h ⊢;split at h
 . rename_i id off;cases hg:H[id]? with
   | none=>rw [hg] at h;cases h
   | some x=>
     rw [hg] at h;rw [ext_get ext hg];cases x with
     | row fz e ek ver xs=>exact h
     | var ek cs=>
       dsimp only at h ⊢;cases h1:F6 H cs with
       | none=>rw [h1] at h;cases h
       | some l=>rw [h1] at h;rw [rD ext h1];exact h
 . exact hM ext h
theorem eQ {H:j6} (ext:j6):∀ {vs:List HV} {us:List CV},O8 H vs=some us->O8 (H++ext) vs=some us:=by
 intro vs;induction vs with
 | nil=>intro us h;exact h
 | cons v vs ih=>
   intro us h;unfold O8 at h ⊢;cases h1:U5 H v with
   | none=>rw [h1] at h;cases h
   | some a=>
     cases h2:O8 H vs with
     | none=>rw [h1,h2] at h;cases h
     | some b=>rw [h1,h2] at h;rw [oN ext h1,ih h2];exact h
theorem ja3 {H:j6} (ext:j6) {v:HV} {u:CV} (h:thaw H v=some u):thaw (H++ext) v=some u:=by
 unfold thaw at h ⊢;split at h
 . rename_i f first cap;cases h1:O8 H first with
   | none=>rw [h1] at h;cases h
   | some a=>
     cases h2:O8 H cap with
     | none=>rw [h1,h2] at h;cases h
     | some b=>rw [h1,h2] at h;rw [eQ ext h1,eQ ext h2];exact h
 . exact oN ext h
theorem qp4 {H:j6} (ext:j6):∀ {vs us:List HV},J0 H vs=some us->J0 (H++ext) vs=some us:=by
 intro vs;induction vs with
 | nil=>intro us h;exact h
 | cons v vs ih=>
   intro us h;unfold J0 at h ⊢;cases h1:thaw H v with
   | none=>rw [h1] at h;cases h
   | some a=>
     cases h2:J0 H vs with
     | none=>rw [h1,h2] at h;cases h
     | some b=>rw [h1,h2] at h;rw [ja3 ext h1,ih h2];exact h
section
variable {E:Env} {call:f7}
theorem za7 {f:Nat} {args:List HV} {H H':j6} {v:HV} (hm:E.md f=.P) (h:G6 E call f args H=some (v,H')) (hn:noRef v=true\/args.all isC=true) :
 H'=H/\∀ ext,G6 E call f args (H++ext)=some (v,H++ext):=by
 unfold G6 at h;rw [hm] at h;dsimp only at h;cases ha:J0 H args with
 | none=>rw [ha] at h;cases h
 | some a5=>
   rw [ha] at h;dsimp only at h;cases hc:call f a5 [] with
   | none=>rw [hc] at h;cases h
   | some p=>
     obtain ⟨r,H1⟩:=p;rw [hc] at h;dsimp only at h;cases hr:qD H1 r with
     | none=>rw [hr] at h;cases h
     | some r'=>
       rw [hr] at h;dsimp only at h;have hv:v=r':=by
        split at h
        . injection h with h;injection h with h1 h2;exact h1.symm
        . split at h
          . injection h with h;injection h with h1 h2;exact h1.symm
          . cases h
       subst hv;have hcond:(args.all isC||noRef v)=true:=by
        rcases hn with hn | hn
        . simp [hn]
        . simp [hn]
       rw [if_pos hcond] at h;injection h with h;injection h with h1 h2;refine ⟨h2.symm,fun ext=>?_⟩;unfold G6;rw [hm];dsimp only;rw [qp4 ext ha];dsimp only;rw [hc];dsimp only;rw [hr];dsimp only;rw [if_pos hcond]
theorem qw5 {o:IOp} {dst:Option Nat} {fr fr1:Fr} {H H1:j6} (hb:∀ fz e ek z n ps,o≠.bsl fz e ek z n ps) (h:doD E call .pure o dst fr H=some (fr1,H1)) :
 H1=H/\∃ r,fr1=fr.setD dst r/\(∀ b off,r.2=some (b,off)->∃ t∈H8 o.opds,∃ off,fr.place (.t t)=some (b,off))/\∀ fr',Agr (H8 o.opds) fr fr'->∀ H',doD E call .pure o dst fr' H'=some (fr'.setD dst r,H'):=by
 cases o
 case mv x | faddr off x | nck x=>
  simp only [doD,Q5,x4,if_true,zG] at h
  (repeat' split at h)<;>first
    | (cases h;done)
    | (injection h with hh;injection hh with z1 z2;subst z1;subst z2;(first | refine ⟨rfl,_,U7 _ _ _,fun _ _ q=>(by cases q),fun fr' ha H'=>?_⟩ | refine ⟨rfl,_,sB _ _ _ _,fun _ _ q=>(by injection q with q;injection q with q1 q2;subst q1;exact uG (x:=x) (by simp [IOp.opds]) (by assumption)),fun fr' ha H'=>?_⟩);have hop:=N6 ha;simp_all [doD,x4,Q5,IOp.opds,U7,zG,sB])
 case un | bin | eqs | eqb | pick | fld | cvs | fbox | six | len | ext | isn | cvt | mx=>
  simp only [doD,Q5,x4,if_true] at h
  (repeat' split at h)<;>first
    | (cases h;done)
    | (injection h with hh;injection hh with z1 z2;subst z1;subst z2;refine ⟨rfl,_,U7 _ _ _,fun _ _ q=>(by cases q),fun fr' ha H'=>?_⟩;have hop:=N6 ha;simp_all [doD,x4,Q5,IOp.opds,U7,zG,sB])
 case build z ps=>
  simp only [doD,Q5,x4,if_true] at h;split at h
  . rename_i cs hf;injection h with hh;injection hh with z1 z2;subst z1;subst z2;refine ⟨rfl,_,U7 _ _ _,fun _ _ q=>(by cases q),fun fr' ha H'=>?_⟩;have hop:=N6 ha;have:(ps.map fun p=>(p.1,p.2.1,fr'.opd p.2.2))=(ps.map fun p=>(p.1,p.2.1,fr.opd p.2.2)):=
     List.map_congr_left fun p hp=>by rw [(hop p.2.2 (by simp only [IOp.opds];exact List.mem_map_of_mem hp)).1]
    simp only [doD,Q5,x4,if_true,this,hf,U7]
  . cases h
 case mkf f a5 bs=>
  simp only [doD,Q5,x4,if_true] at h;injection h with hh;injection hh with z1 z2;subst z1;subst z2;refine ⟨rfl,_,U7 _ _ _,fun _ _ q=>(by cases q),fun fr' ha H'=>?_⟩;have hop:=N6 ha;have h1:a5.map fr'.opd=a5.map fr.opd:=List.map_congr_left fun x hx=>(hop x (by simp [IOp.opds,hx])).1;have h2:bs.map fr'.opd=bs.map fr.opd:=List.map_congr_left fun x hx=>(hop x (by simp [IOp.opds,hx])).1;simp only [doD,Q5,x4,if_true,h1,h2,U7]
 case bsl fz e ek z n ps=>exact absurd rfl (hb fz e ek z n ps)
 all_goals simp [doD,Q5] at h
theorem zb9:∀ {vs:List HV} {us:List CV},F6 [] vs=some us->∀ H,G5 vs H=H:=by
 intro vs;induction vs with
 | nil=>intro us h H;rfl
 | cons v vs ih=>
   intro us h H;unfold F6 at h;cases h1:F4 [] v with
   | none=>rw [h1] at h;cases h
   | some a=>
     cases h2:F6 [] vs with
     | none=>rw [h1,h2] at h;cases h
     | some b=>
       cases v with
       | sl id ver off len=>simp [F4] at h1
       | _=>unfold G5;exact ih h2 H
theorem zd7 {v:HV} {u:CV} (h:D2 [] v=some u) (H:j6):P1 v H=some (u,H):=by
 have h2:D2 H v=some u:=by have:=hM H h;simpa using this
 have h3:U0 v H=H:=by
  cases v with
  | sl id ver off len=>simp [D2,F4] at h
  | agg cs=>
    show G5 cs H=H;unfold D2 at h;dsimp only at h;cases h1:F6 [] cs with
    | none=>rw [h1] at h;cases h
    | some l=>exact zb9 h1 H
  | iface t x=>
    cases x with
    | sl id ver off len=>simp [D2,F4] at h
    | agg cs=>
      show G5 cs H=H;unfold D2 at h;dsimp only at h;cases h1:F6 [] cs with
      | none=>rw [h1] at h;cases h
      | some l=>exact zb9 h1 H
    | _=>rfl
  | _=>rfl
 unfold P1;split
 . simp [D2,F4] at h;rw [h]
 . rw [h2];dsimp only;rw [h3]
theorem qb2 {ek:Option Nat}:∀ (ps:List (Nat×HV)) (xs:List CV) (H:j6) (ys:List CV) (H1:j6),(∀ p∈ps,(D2 [] p.2).isSome=true)->N9 ek xs H ps=some (ys,H1)->H1=H/\∀ H',N9 ek xs H' ps=some (ys,H'):=by
 intro ps;induction ps with
 | nil=>
   intro xs H ys H1 _ h;simp only [N9,Option.some.injEq,Prod.mk.injEq] at h;obtain ⟨rfl,rfl⟩:=h;exact ⟨rfl,fun _=>rfl⟩
 | cons p ps ih=>
   intro xs H ys H1 hp h;obtain ⟨i,v⟩:=p;obtain ⟨u,hu⟩:=Option.isSome_iff_exists.1 (hp (i,v) (by simp));unfold N9 at h;rw [zd7 hu] at h;dsimp only at h;split at h
   . rename_i hc;obtain ⟨k1,k2⟩:=ih _ _ _ _ (fun q hq=>hp q (by simp [hq])) h;refine ⟨k1,fun H'=>?_⟩;unfold N9;rw [zd7 hu];dsimp only;rw [if_pos hc];exact k2 H'
   . cases h
theorem j69 {fz:Bool} {e:Nat} {ek:Option Nat} {z:List CV} {n:Nat} {ps:List (Nat×Opd)} {dst:Option Nat} {fr fr1:Fr} {H H1:j6} (h:doD E call .pure (.bsl fz e ek z n ps) dst fr H=some (fr1,H1)) :
 H1=H/\∃ r,fr1=fr.setD dst r/\(∀ b off,r.2=some (b,off)->∃ t∈H8 (IOp.bsl fz e ek z n ps).opds,∃ off,fr.place (.t t)=some (b,off))/\∀ fr',Agr (H8 (IOp.bsl fz e ek z n ps).opds) fr fr'->∀ H',doD E call .pure (.bsl fz e ek z n ps) dst fr' H'=some (fr'.setD dst r,H'):=by
 simp only [doD] at h;split at h
 . rename_i hc;obtain ⟨rfl,hps⟩:=hc;simp only [x4] at h;cases hz:J1 ek z with
   | none=>rw [hz] at h;cases h
   | some zz=>
     rw [hz] at h;dsimp only at h;split at h
     . rename_i hfit;cases hf:N9 ek (List.replicate n zz) H (ps.map fun p=>(p.1,fr.opd p.2)) with
       | none=>rw [hf] at h;cases h
       | some q=>
         obtain ⟨ys,H2⟩:=q;rw [hf] at h;simp only [if_true] at h;injection h with hh;injection hh with z1 z2;subst z1;subst z2;obtain ⟨k1,k2⟩:=qb2 _ _ _ _ _ (by
          intro p hp;obtain ⟨q,hq,rfl⟩:=List.mem_map.1 hp;exact List.all_eq_true.1 hps q hq) hf
         refine ⟨k1,_,U7 _ _ _,fun _ _ q=>(by cases q),fun fr' ha H'=>?_⟩;have hop:=N6 ha;have e1:(ps.map fun p=>(p.1,fr'.opd p.2))=(ps.map fun p=>(p.1,fr.opd p.2)):=
          List.map_congr_left fun p hp=>by rw [(hop p.2 (by simp only [IOp.opds];exact List.mem_map_of_mem hp)).1]
         have e2:(ps.all fun p=>(D2 [] (fr'.opd p.2)).isSome)=true:=by
          rw [List.all_eq_true] at hps ⊢;intro p hp;rw [(hop p.2 (by simp only [IOp.opds];exact List.mem_map_of_mem hp)).1];exact hps p hp
         simp only [doD,e2,x4,e1,hz,hfit,k2 H',U7,if_true,and_self]
     . cases h
 . cases h
def vF (c:Cls) (H H1 H' H1':j6):Prop:=match c with
 | .pure | .rdb | .wrb | .lb=>H1'=H'
 | .rd=>(∃ ext,H'=H++ext)/\H1'=H'
 | .wr | .hb=>H'=H/\H1'=H1
def vK:Cls->Bool
 | .rdb | .wrb=>true
 | _=>false
def EffD (c:Cls) (R:List Nat) (dst:Option Nat) (fr:Fr) (H:j6) (fr1:Fr) (H1:j6) (step:Fr->j6->Option (Fr×j6)):Prop:=
 ((c≠.wr->c≠.hb->H1=H)/\(c=.hb->∃ ext,H1=H++ext)) /\
 ∃ (r:HV×Option (Nat×Nat)) (bx:Option (Nat×HV)) (lb:Option Nat),(∀ b y,bx=some (b,y)->isB (fr.env b)=true/\isB y=true/\∃ t∈R,∃ off,fr.place (.t t)=some (b,off))/\(c≠.wrb->bx=none)/\(bx≠none->dst=none) /\
  (c≠.lb->lb=none)/\(c=.lb->lb=none->isB r.1=false)/\(∀ d,lb=some d->dst=some d/\bx=none/\r.2=none)/\(∀ b off,r.2=some (b,off)->∃ t∈R,∃ off,fr.place (.t t)=some (b,off))/\fr1=fr.eff bx lb dst r /\
  ∀ fr',Agr R fr fr'->AgrD dst fr fr'->(vK c=true->AgrB R fr fr')->∀ H' H1',vF c H H1 H' H1'->step fr' H'=some (fr'.eff bx lb dst r,H1')
theorem EffD.mono {c:Cls} {R R':List Nat} {dst:Option Nat} {fr fr1:Fr} {H H1:j6} {step:Fr->j6->Option (Fr×j6)} (h:EffD c R dst fr H fr1 H1 step) (hR:∀ t∈R,t∈R'):EffD c R' dst fr H fr1 H1 step:=by
 obtain ⟨h1,r,bx,lb,h2,h3,h4,h5,hx,h6,h7,h8,h9⟩:=h;exact ⟨h1,r,bx,lb,fun b y e=>⟨(h2 b y e).1,(h2 b y e).2.1,(h2 b y e).2.2.elim fun t q=>⟨t,hR t q.1,q.2⟩⟩,h3,h4,h5,hx,h6,fun b off e=>(h7 b off e).elim fun t q=>⟨t,hR t q.1,q.2⟩,h8,
  fun fr' ha hd hab=>h9 fr' (fun t ht=>ha t (hR t ht)) hd (fun hc t ht=>hab hc t (hR t ht))⟩
theorem uT {fr:Fr} {x:Opd} {b off:Nat} (h:fr.place x=some (b,off)):isB (fr.env b)=true:=by
 cases x with
 | k v=>simp [Fr.place] at h
 | t i=>
   simp only [Fr.place] at h;split at h
   . rename_i b' off' _;split at h
     . rename_i he;injection h with h;injection h with h1 h2;subst h1;rw [he];rfl
     . cases h
   . split at h
     . rename_i he;injection h with h;injection h with h1 h2;subst h1;rw [he];rfl
     . cases h
theorem qh0 {ek:Option Nat} {a:Opd} {dst:Option Nat} {fr fr1:Fr} {H H1:j6} (h:doD E call .rdb (.load ek a) dst fr H=some (fr1,H1)) :
 EffD .rdb (H8 (IOp.load ek a).opds) dst fr H fr1 H1 (doD E call .rdb (.load ek a) dst):=by
 simp only [doD] at h;split at h
 . rename_i hp;simp only [x4] at h;cases hpl:fr.place a with
   | none=>rw [hpl] at hp;cases hp
   | some q=>
     obtain ⟨b,off⟩:=q;rw [hpl] at h;dsimp only at h;obtain ⟨ek',y,hb⟩:=pU (uT hpl);rw [hb] at h;dsimp only at h;split at h
     . rename_i v hv;injection h with hh;injection hh with z1 z2;subst z1;subst z2;refine ⟨⟨fun _ _=>rfl,fun h=>by cases h⟩,(v,none),none,none,fun _ _ h=>(by cases h),fun _=>rfl,fun h=>absurd rfl h,fun _=>rfl,(fun h=>by cases h),fun _ h=>(by cases h),fun _ _ h=>(by cases h),U7 _ _ _,?_⟩;intro fr' ha had hab H' H1' hr;cases hr;have hop:=N6 ha a (by simp [IOp.opds]);have he:fr'.env b=.lbox ek' y:=by obtain ⟨t,ht,off',hp'⟩:=uG (xs:=(IOp.load ek a).opds) (x:=a) (by simp [IOp.opds]) hpl;rw [<-hab rfl t ht b off' hp'];exact hb
       simp only [doD,x4,hop.2,hpl,he,hv,U7,Option.isSome_some,if_true];rfl
     . cases h
 . cases h
theorem qs1 {ek:Option Nat} {a x:Opd} {dst:Option Nat} {fr fr1:Fr} {H H1:j6} (h:doD E call .wrb (.store ek a x) dst fr H=some (fr1,H1)) :
 EffD .wrb (H8 (IOp.store ek a x).opds) dst fr H fr1 H1 (doD E call .wrb (.store ek a x) dst):=by
 simp only [doD] at h;split at h
 . rename_i hp;obtain ⟨hp,rfl⟩:=hp;simp only [x4] at h;cases hpl:fr.place a with
   | none=>rw [hpl] at hp;cases hp
   | some q=>
     obtain ⟨b,off⟩:=q;rw [hpl] at h;dsimp only at h;have hbb:=uT hpl;obtain ⟨ek',y,hb⟩:=pU hbb;rw [hb] at h;dsimp only at h;split at h
     . rename_i hf;split at h
       . rename_i hc;injection h with hh;injection hh with z1 z2;subst z1;subst z2;refine ⟨⟨fun _ _=>rfl,fun h=>by cases h⟩,(.undef,none),some (b,.lbox ek' (fr.opd x)),none,fun b' y' h=>by injection h with h;injection h with e1 e2;subst e1;subst e2;exact ⟨hbb,rfl,uG (x:=a) (by simp [IOp.opds]) hpl⟩,fun h=>absurd rfl h,fun _=>rfl,fun _=>rfl,(fun h=>by cases h),fun _ h=>(by cases h),fun _ _ h=>(by cases h),rfl,?_⟩;intro fr' ha had hab H' H1' hr;cases hr;have hop:=N6 ha;have h1:=hop a (by simp [IOp.opds]);have h2:=hop x (by simp [IOp.opds]);have he:fr'.env b=.lbox ek' y:=by obtain ⟨t,ht,off',hp'⟩:=uG (xs:=(IOp.store ek a x).opds) (x:=a) (by simp [IOp.opds]) hpl;rw [<-hab rfl t ht b off' hp'];exact hb
         simp only [doD,x4,h1.2,hpl,he,h2.1,hf,Option.isSome_some,if_true,and_self];rw [if_pos hc];rfl
       . rename_i hc;split at h
         . rename_i hl;split at h
           . rename_i x' hu;split at h
             . rename_i hf2;injection h with hh;injection hh with z1 z2;subst z1;subst z2;refine ⟨⟨fun _ _=>rfl,fun h=>by cases h⟩,(.undef,none),some (b,.lbox ek' x'),none,fun b' y' h=>by injection h with h;injection h with e1 e2;subst e1;subst e2;exact ⟨hbb,rfl,uG (x:=a) (by simp [IOp.opds]) hpl⟩,fun h=>absurd rfl h,fun _=>rfl,fun _=>rfl,(fun h=>by cases h),fun _ h=>(by cases h),fun _ _ h=>(by cases h),rfl,?_⟩;intro fr' ha had hab H' H1' hr;cases hr;have hop:=N6 ha;have h1:=hop a (by simp [IOp.opds]);have h2:=hop x (by simp [IOp.opds]);have he:fr'.env b=.lbox ek' y:=by obtain ⟨t,ht,off',hp'⟩:=uG (xs:=(IOp.store ek a x).opds) (x:=a) (by simp [IOp.opds]) hpl;rw [<-hab rfl t ht b off' hp'];exact hb
               simp only [doD,x4,h1.2,hpl,he,h2.1,hf,Option.isSome_some,if_true,and_self];rw [if_neg hc,if_pos hl,hu];dsimp only;rw [if_pos hf2];rfl
             . cases h
           . cases h
         . cases h
     . cases h
 . cases h
theorem j11 {ek:Option Nat} {p v:HV} {H:j6} (ext:j6) (h:B7 ek p H=some v):B7 ek p (H++ext)=some v:=by
 unfold B7 at h ⊢;split at h
 . exact h
 . rename_i id off;cases hg:H[id]? with
   | none=>rw [hg] at h;cases h
   | some x=>rw [hg] at h;rw [ext_get ext hg];exact h
 . rename_i id ver i off;cases hg:H[id]? with
   | none=>rw [hg] at h;cases h
   | some x=>rw [hg] at h;rw [ext_get ext hg];exact h
 . cases h
theorem qt6 {ek:Option Nat} {p v:HV} {n:Int} {H:j6} (ext:j6) (h:ixH ek p n H=some v):ixH ek p n (H++ext)=some v:=by
 unfold ixH at h ⊢;split at h
 . exact h
 . rename_i id ver off len;cases hg:H[id]? with
   | none=>rw [hg] at h;cases h
   | some x=>rw [hg] at h;rw [ext_get ext hg];exact h
 . cases h
theorem qe7 {st:Bool} {ek:Option Nat} {p v:HV} {lo hi:Option Int} {H:j6} (ext:j6) (h:U9 st ek p lo hi H=some v):U9 st ek p lo hi (H++ext)=some v:=by
 unfold U9 at h ⊢;split at h
 . exact h
 . exact h
 . exact h
 . rename_i id ver off len;cases hg:H[id]? with
   | none=>rw [hg] at h;cases h
   | some x=>rw [hg] at h;rw [ext_get ext hg];exact h
 . cases h
theorem eT {fr fr':Fr} {o:Option Opd} (h:∀ x,o=some x->fr'.opd x=fr.opd x):N8 fr' o=N8 fr o:=by
 cases o with
 | none=>rfl
 | some x=>unfold N8;dsimp only;rw [h x rfl]
theorem zB {c:Cls} {R:List Nat} {dst:Option Nat} {fr:Fr} {H H1:j6} {v:HV} {step:Fr->j6->Option (Fr×j6)} (hv:c=.lb->isB v=false) (hm:(c≠.wr->c≠.hb->H1=H)/\(c=.hb->∃ ext,H1=H++ext)) (h:∀ fr',Agr R fr fr'->(vK c=true->AgrB R fr fr')->∀ H' H1',vF c H H1 H' H1'->step fr' H'=some (fr'.put dst v,H1')):EffD c R dst fr H (fr.put dst v) H1 step:=by
 refine ⟨hm,(v,none),none,none,fun _ _ h=>(by cases h),fun _=>rfl,fun h=>absurd rfl h,fun _=>rfl,(fun h _=>hv h),fun _ h=>(by cases h),fun _ _ h=>(by cases h),U7 _ _ _,?_⟩;intro fr' ha had hab H' H1' hr;rw [h fr' ha hab H' H1' hr,U7];rfl
theorem j54 {o:IOp} {dst:Option Nat} {fr fr1:Fr} {H H1:j6} (h:doD E call .lb o dst fr H=some (fr1,H1)):EffD .lb (H8 o.opds) dst fr H fr1 H1 (doD E call .lb o dst):=by
 cases o with
 | lbox ek x=>
   cases dst with
   | none=>simp [doD,x4] at h
   | some d=>
     simp only [doD,x4] at h;split at h
     . rename_i hf;injection h with hh;injection hh with z1 z2;subst z1;subst z2;refine ⟨⟨fun _ _=>rfl,fun h=>by cases h⟩,(.lbox ek (fr.opd x),none),none,some d,fun _ _ h=>(by cases h),fun _=>rfl,fun h=>absurd rfl h,fun h=>absurd rfl h,(fun _ h=>by cases h),fun d' h=>(by injection h with h;subst h;exact ⟨rfl,rfl,rfl⟩),fun _ _ h=>(by cases h),?_,?_⟩
       . simp only [Fr.eff,Fr.setB,Fr.unl,Fr.setD];congr 1;funext t;simp only [upd,unlink];split<;>rfl
       . intro fr' ha had hab H' H1' hr;cases hr;have hop:=N6 ha x (by simp [IOp.opds]);simp only [doD,x4,hop.1,hf,if_true,Fr.eff,Fr.setB,Fr.unl,Fr.setD];congr 3;funext t;simp only [upd,unlink];split<;>rfl
     . cases h
 | _=>simp [doD] at h
theorem qk5 {o:IOp} {dst:Option Nat} {fr fr1:Fr} {H H1:j6} (h:doD E call .rd o dst fr H=some (fr1,H1)):EffD .rd (H8 o.opds) dst fr H fr1 H1 (doD E call .rd o dst):=by
 cases o with
 | load ek a=>
   simp only [doD] at h;split at h
   . cases h
   . rename_i hp;simp only [x4] at h;cases hpl:fr.place a with
     | some q=>rw [hpl] at hp;simp at hp
     | none=>
       rw [hpl] at h;dsimp only at h;cases hl:B7 ek (fr.opd a) H with
       | none=>rw [hl] at h;cases h
       | some v=>
         rw [hl] at h;injection h with hh;injection hh with z1 z2;subst z1;subst z2;refine zB (fun h=>by cases h) ⟨fun _ _=>rfl,fun h=>by cases h⟩ fun fr' ha hab H' H1' hr=>?_;obtain ⟨⟨ext,rfl⟩,rfl⟩:=hr;have hop:=N6 ha a (by simp [IOp.opds]);simp only [doD,x4,hop.2,hop.1,hpl,j11 ext hl];rfl
 | ix ek x i=>
   simp only [doD,x4] at h;cases hi:qI (fr.opd i) with
   | none=>rw [hi] at h;cases h
   | some n=>
     rw [hi] at h;dsimp only at h;cases hl:ixH ek (fr.opd x) n H with
     | none=>rw [hl] at h;cases h
     | some v=>
       rw [hl] at h;injection h with hh;injection hh with z1 z2;subst z1;subst z2;refine zB (fun h=>by cases h) ⟨fun _ _=>rfl,fun h=>by cases h⟩ fun fr' ha hab H' H1' hr=>?_;obtain ⟨⟨ext,rfl⟩,rfl⟩:=hr;have hop:=N6 ha;simp only [doD,x4,(hop x (by simp [IOp.opds])).1,(hop i (by simp [IOp.opds])).1,hi,qt6 ext hl]
 | slc st ek x lo hi=>
   simp only [doD,x4] at h;cases h1:N8 fr lo with
   | none=>rw [h1] at h;cases h
   | some l=>
     cases h2:N8 fr hi with
     | none=>rw [h1,h2] at h;cases h
     | some u=>
       rw [h1,h2] at h;dsimp only at h;cases hl:U9 st ek (fr.opd x) l u H with
       | none=>rw [hl] at h;cases h
       | some v=>
         rw [hl] at h;injection h with hh;injection hh with z1 z2;subst z1;subst z2;refine zB (fun h=>by cases h) ⟨fun _ _=>rfl,fun h=>by cases h⟩ fun fr' ha hab H' H1' hr=>?_;obtain ⟨⟨ext,rfl⟩,rfl⟩:=hr;have hop:=N6 ha;have e1:N8 fr' lo=N8 fr lo:=eT fun y hy=>(hop y (by simp [IOp.opds,hy])).1;have e2:N8 fr' hi=N8 fr hi:=eT fun y hy=>(hop y (by simp [IOp.opds,hy])).1;simp only [doD,x4,(hop x (by simp [IOp.opds])).1,e1,e2,h1,h2,qe7 ext hl]
 | call f args=>
   simp only [doD] at h;split at h
   . rename_i hm;cases hc:G6 E call f (args.map fr.opd) H with
     | none=>rw [hc] at h;cases h
     | some p=>
       obtain ⟨v,H2⟩:=p;rw [hc] at h;dsimp only at h;split at h
       . rename_i hn;injection h with hh;injection hh with z1 z2;subst z1;subst z2;refine zB (fun h=>by cases h) ⟨fun _ _=>rfl,fun h=>by cases h⟩ fun fr' ha hab H' H1' hr=>?_;obtain ⟨⟨ext,rfl⟩,rfl⟩:=hr;have hop:=N6 ha;have e1:args.map fr'.opd=args.map fr.opd:=List.map_congr_left fun x hx=>(hop x (by simp [IOp.opds,hx])).1;have:=(za7 hm hc hn).2 ext;simp only [doD,e1,this,hm,if_true];rw [if_pos hn]
       . cases h
   . cases h
 | _=>simp [doD] at h
theorem j07 {o:IOp} {dst:Option Nat} {fr fr1:Fr} {H H1:j6} (h:doD E call .hb o dst fr H=some (fr1,H1)):EffD .hb (H8 o.opds) dst fr H fr1 H1 (doD E call .hb o dst):=by
 cases o with
 | hbox ek x=>
   simp only [doD,x4] at h;split at h
   . rename_i hf;injection h with hh;injection hh with z1 z2;subst z1;subst z2;refine zB (fun h=>by cases h) ⟨fun _ h=>absurd rfl h,fun _=>⟨_,rfl⟩⟩ fun fr' ha hab H' H1' hr=>?_;obtain ⟨rfl,rfl⟩:=hr;have hop:=N6 ha x (by simp [IOp.opds]);simp only [doD,x4,hop.1,hf,if_true]
   . cases h
 | _=>simp [doD] at h
theorem qh5 {o:IOp} {dst:Option Nat} {fr fr1:Fr} {H H1:j6} (h:doD E call .wr o dst fr H=some (fr1,H1)):EffD .wr (H8 o.opds) dst fr H fr1 H1 (doD E call .wr o dst):=by
 have hm:(Cls.wr≠.wr->Cls.wr≠.hb->H1=H)/\(Cls.wr=.hb->∃ ext,H1=H++ext):=⟨fun h=>absurd rfl h,fun h=>by cases h⟩;cases o with
 | store ek a x=>
   simp only [doD] at h;split at h
   . cases h
   . rename_i hp;have hdst:dst=none:=by
      cases dst with
      | none=>rfl
      | some d=>exact absurd (.inr (by simp)) hp
     subst hdst;simp only [x4] at h;cases hpl:fr.place a with
     | some q=>rw [hpl] at hp;simp at hp
     | none=>
       rw [hpl] at h;dsimp only at h;cases hl:T0 ek (fr.opd a) (fr.opd x) H with
       | none=>rw [hl] at h;cases h
       | some H2=>
         rw [hl] at h;injection h with hh;injection hh with z1 z2;subst z1;subst z2;refine ⟨hm,(.undef,none),none,none,fun _ _ h=>(by cases h),fun _=>rfl,fun h=>absurd rfl h,fun _=>rfl,(fun h=>by cases h),fun _ h=>(by cases h),fun _ _ h=>(by cases h),rfl,?_⟩;intro fr' ha had hab H' H1' hr;obtain ⟨rfl,rfl⟩:=hr;have hop:=N6 ha;have h1:=hop a (by simp [IOp.opds]);have h2:=hop x (by simp [IOp.opds]);simp only [doD,x4,h1.1,h1.2,h2.1,hpl,hl];simp [Fr.setB,Fr.setD,Fr.eff,Fr.unl]
 | app e ek n s x=>
   simp only [doD,x4] at h;cases hl:appH e ek n (fr.opd s) (fr.opd x) H with
   | none=>rw [hl] at h;cases h
   | some q=>
     rw [hl] at h;injection h with hh;injection hh with z1 z2;subst z1;subst z2;refine zB (fun h=>by cases h) hm fun fr' ha hab H' H1' hr=>?_;obtain ⟨rfl,rfl⟩:=hr;have hop:=N6 ha;simp only [doD,x4,(hop s (by simp [IOp.opds])).1,(hop x (by simp [IOp.opds])).1,hl]
 | bsl fz e ek z n ps=>
   simp only [doD,x4] at h;cases hz:J1 ek z with
   | none=>rw [hz] at h;cases h
   | some zz=>
     rw [hz] at h;dsimp only at h;split at h
     . rename_i hfit;cases hf:N9 ek (List.replicate n zz) H (ps.map fun p=>(p.1,fr.opd p.2)) with
       | none=>rw [hf] at h;cases h
       | some q=>
         obtain ⟨ys,H2⟩:=q;rw [hf] at h;dsimp only at h;have e1:∀ fr',Agr (H8 (IOp.bsl fz e ek z n ps).opds) fr fr'->(ps.map fun p=>(p.1,fr'.opd p.2))=(ps.map fun p=>(p.1,fr.opd p.2)):=
          fun fr' ha=>List.map_congr_left fun p hp=>by rw [(N6 ha p.2 (by simp only [IOp.opds];exact List.mem_map_of_mem hp)).1]
         split at h
         . rename_i hfz;injection h with hh;injection hh with z1 z2;subst z1;subst z2;refine zB (fun h=>by cases h) hm fun fr' ha hab H' H1' hr=>?_;obtain ⟨rfl,rfl⟩:=hr;simp only [doD,x4,hz,hfit,e1 fr' ha,hf,hfz,if_true]
         . rename_i hfz;injection h with hh;injection hh with z1 z2;subst z1;subst z2;refine zB (fun h=>by cases h) hm fun fr' ha hab H' H1' hr=>?_;obtain ⟨rfl,rfl⟩:=hr;simp only [doD,x4,hz,hfit,e1 fr' ha,hf,if_true];rw [if_neg hfz]
     . cases h
 | call f args=>
   simp only [doD,i8,S2] at h;cases hc:G6 E call f (args.map fr.opd) H with
   | none=>rw [hc] at h;cases h
   | some p=>
     obtain ⟨v,H2⟩:=p;rw [hc] at h;injection h with hh;injection hh with z1 z2;subst z1;subst z2;refine zB (fun h=>by cases h) hm fun fr' ha hab H' H1' hr=>?_;obtain ⟨rfl,rfl⟩:=hr;have hop:=N6 ha;have e1:args.map fr'.opd=args.map fr.opd:=List.map_congr_left fun x hx=>(hop x (by simp [IOp.opds,hx])).1;simp only [doD,i8,S2,e1,hc]
 | callv x args=>
   simp only [doD,i8,S2] at h;cases ht:xQ (fr.opd x) (args.map fr.opd) with
   | none=>rw [ht] at h;cases h
   | some q=>
     rw [ht] at h;dsimp only at h;cases hc:G6 E call q.1 q.2 H with
     | none=>rw [hc] at h;cases h
     | some p=>
       obtain ⟨v,H2⟩:=p;rw [hc] at h;injection h with hh;injection hh with z1 z2;subst z1;subst z2;refine zB (fun h=>by cases h) hm fun fr' ha hab H' H1' hr=>?_;obtain ⟨rfl,rfl⟩:=hr;have hop:=N6 ha;have e1:args.map fr'.opd=args.map fr.opd:=List.map_congr_left fun x hx=>(hop x (by simp [IOp.opds,hx])).1;simp only [doD,i8,S2,e1,(hop x (by simp [IOp.opds])).1,ht,hc]
 | _=>simp [doD] at h
theorem z89 {c:Cls} {o:IOp} {dst:Option Nat} {fr fr1:Fr} {H H1:j6} (h:doD E call c o dst fr H=some (fr1,H1)):EffD c (H8 o.opds) dst fr H fr1 H1 (doD E call c o dst):=by
 cases c with
 | pure=>
   have key:H1=H/\∃ r,fr1=fr.setD dst r/\(∀ b off,r.2=some (b,off)->∃ t∈H8 o.opds,∃ off,fr.place (.t t)=some (b,off))/\∀ fr',Agr (H8 o.opds) fr fr'->∀ H',doD E call .pure o dst fr' H'=some (fr'.setD dst r,H'):=by
    cases o with
    | bsl fz e ek z n ps=>exact j69 h
    | _=>exact qw5 (by intros;simp) h
   obtain ⟨k1,r,k2,kl,k3⟩:=key;refine ⟨⟨fun _ _=>k1,fun h=>by cases h⟩,r,none,none,fun _ _ h=>(by cases h),fun _=>rfl,fun h=>absurd rfl h,fun _=>rfl,(fun h=>by cases h),fun _ h=>(by cases h),kl,k2,?_⟩;intro fr' ha had hab H' H1' hr;cases hr;exact k3 fr' ha H'
 | rdb=>cases o<;>first | exact qh0 h | simp [doD] at h
 | wrb=>cases o<;>first | exact qs1 h | simp [doD] at h
 | rd=>exact qk5 h
 | wr=>exact qh5 h
 | hb=>exact j07 h
 | lb=>exact j54 h
end
end Go.Proofs.Lz
