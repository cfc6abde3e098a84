/- Every order that a drawn region may be run in gives what the text's order gives. -/
import Derived.Test.YtencoceemejcnaaGreatDoorLzDraw
set_option linter.unusedVariables false
set_option linter.unusedSimpArgs false
namespace Go.Proofs.Lz
section
variable {E:Env} {call:f7}
theorem rZ {R:List Nat} {fr fr':Fr} (h:Agr R fr fr') {s:Nat} (hs:s∈R) (hb:B9 (fr.env s)=fr.env s) (hu:fr.env s≠.undef):fr'.env s=fr.env s:=by
 have h2:=(h s hs).2;rw [hb] at h2;cases he:fr'.env s with
 | lbox ek x=>rw [he] at h2;exact absurd h2 hu
 | _=>rw [he] at h2;rw [h2];rfl
theorem dstOk_iff {fr:Fr} {dst:Option Nat}:Z4 fr dst=true↔∀ d,dst=some d->isB (fr.env d)=false:=by
 cases dst with
 | none=>simp [Z4]
 | some d=>
   simp only [Z4,Option.some.injEq,forall_eq'];cases fr.env d<;>simp [isB]
theorem j58 {c:Cls} {o:IOper} {fr fr1:Fr} {H H1:j6} (h:M8 E call c o fr H=some (fr1,H1)):EffD c o.reads o.dst fr H fr1 H1 (M8 E call c o):=by
 unfold M8 at h;cases hg:o.guard with
 | none=>
   rw [hg] at h;have he:M8 E call c o=doD E call c o.op o.dst:=by funext fr H;unfold M8;rw [hg]
   rw [he];exact (z89 h).mono (by unfold IOper.reads;rw [hg];exact fun t ht=>ht)
 | some g=>
   obtain ⟨s,want⟩:=g;rw [hg] at h;dsimp only at h;have hsr:s∈o.reads:=by unfold IOper.reads;rw [hg];simp
   have skip:∀ (K:∀ fr',Agr o.reads fr fr'->∀ H',M8 E call c o fr' H'=some (fr'.put o.dst .skipv,H')),EffD c o.reads o.dst fr H (fr.put o.dst .skipv) H (M8 E call c o):=by
    intro K;refine zB (fun _=>rfl) ⟨fun _ _=>rfl,fun _=>⟨[],by simp⟩⟩ fun fr' ha hab H' H1' hr=>?_;rw [K fr' ha H'];have:H1'=H':=by
     cases c<;>simp only [vF] at hr
     . exact hr
     . exact hr
     . exact hr
     . exact hr.2
     . rw [hr.1];exact hr.2
     . rw [hr.1];exact hr.2
     . exact hr
    rw [this]
   cases he:fr.env s with
   | c v=>
     cases v with
     | bool b=>
       rw [he] at h;dsimp only at h;have hb:B9 (fr.env s)=fr.env s:=by rw [he];rfl
       have hu:fr.env s≠.undef:=by rw [he];simp
       by_cases hw:b=want
       . rw [if_pos hw] at h;obtain ⟨k1,r,bx,lb,k2,k3,k4,k5,kx,k6,k7,k8,k9⟩:=(z89 h).mono (R':=o.reads) (by unfold IOper.reads;rw [hg];exact fun t ht=>List.mem_cons_of_mem _ ht);refine ⟨k1,r,bx,lb,k2,k3,k4,k5,kx,k6,k7,k8,fun fr' ha had hab H' H1' hr=>?_⟩;rw [<-k9 fr' ha had hab H' H1' hr];unfold M8;rw [hg];dsimp only;rw [rZ ha hsr hb hu,he];dsimp only;rw [if_pos hw]
       . rw [if_neg hw] at h;injection h with hh;injection hh with z1 z2;subst z1;subst z2;refine skip fun fr' ha H'=>?_;unfold M8;rw [hg];dsimp only;rw [rZ ha hsr hb hu,he];dsimp only;rw [if_neg hw]
     | _=>rw [he] at h;cases h
   | skipv=>
     rw [he] at h;have hb:B9 (fr.env s)=fr.env s:=by rw [he];rfl
     have hu:fr.env s≠.undef:=by rw [he];simp
     injection h with hh;injection hh with z1 z2;subst z1;subst z2;refine skip fun fr' ha H'=>?_;unfold M8;rw [hg];dsimp only;rw [rZ ha hsr hb hu,he]
   | _=>rw [he] at h;cases h
structure Done (R:List Nat) (dst:Option Nat) (r:HV×Option (Nat×Nat)) (bx:Option (Nat×HV)) (lb:Option Nat) (fr:Fr):Prop where
 box:∀ b y,bx=some (b,y)->isB (fr.env b)=true/\isB y=true/\∃ t∈R,∃ off,fr.place (.t t)=some (b,off)
 one:bx≠none->dst=none
 res:∀ d,dst=some d->(lb=none->isB r.1=false)/\isB (fr.env d)=false
 lbd:∀ d,lb=some d->dst=some d/\bx=none/\r.2=none
 lnk:∀ b off,r.2=some (b,off)->∃ t∈R,∃ off,fr.place (.t t)=some (b,off)
theorem lT {fr:Fr} {bx:Option (Nat×HV)} {lb dst:Option Nat} {r:HV×Option (Nat×Nat)} (t:Nat) (ht:dst≠some t):(fr.eff bx lb dst r).env t=(fr.setB bx).env t:=by
 cases lb<;>cases dst with
  | none=>rfl
  | some d=>
    have hne:t≠d:=fun e=>ht (by rw [e]);simp only [Fr.eff,Fr.unl,Fr.setD,upd,if_neg hne]
theorem z55 {fr:Fr} {bx:Option (Nat×HV)} {lb dst:Option Nat} {r:HV×Option (Nat×Nat)} (t:Nat) (ht:dst≠some t):(fr.eff bx lb dst r).al t=(fr.unl lb).al t:=by
 have h:∀ fr':Fr,((fr'.setB bx).unl lb).al=(fr'.unl lb).al:=by
  intro fr';cases bx<;>cases lb<;>rfl
 cases dst with
 | none=>exact congrFun (h fr) t
 | some d=>
   have hne:t≠d:=fun e=>ht (by rw [e]);simp only [Fr.eff,Fr.setD,upd,if_neg hne];exact congrFun (h fr) t
theorem Done.isB {R:List Nat} {dst:Option Nat} {r:HV×Option (Nat×Nat)} {bx:Option (Nat×HV)} {lb:Option Nat} {fr:Fr} (h:Done R dst r bx lb fr) (b:Nat) (hl:lb=none\/dst≠some b):isB ((fr.eff bx lb dst r).env b)=isB (fr.env b):=by
 by_cases hd:dst=some b
 . have hl:lb=none:=by rcases hl with hl | hl;exact hl;exact absurd hd hl
   subst hl;obtain ⟨h1,h2⟩:=h.res b hd;rw [h2];subst hd;simp only [Fr.eff,Fr.unl,Fr.setD,upd,if_true];exact h1 rfl
 . rw [lT b hd];cases bx with
   | none=>rfl
   | some p=>
     obtain ⟨c,y⟩:=p;obtain ⟨h1,h2,_⟩:=h.box c y rfl;simp only [Fr.setB,upd];split
     . rename_i e;rw [e,h1,h2]
     . rfl
theorem Done.agr {R R':List Nat} {dst:Option Nat} {r:HV×Option (Nat×Nat)} {bx:Option (Nat×HV)} {lb:Option Nat} {fr:Fr} (hi:vA fr) (h:Done R dst r bx lb fr) (hR:∀ d,dst=some d->d ∉ R'):Agr R' fr (fr.eff bx lb dst r):=by
 intro t ht;have hdt:dst≠some t:=fun e=>hR t e ht;constructor
 . rw [z44,z44,z55 t hdt];have e1:Go.Proofs.Lz.isB ((fr.eff bx lb dst r).env t)=Go.Proofs.Lz.isB (fr.env t):=h.isB t (.inr hdt);cases hl:lb with
   | none=>
     subst hl;show _=match fr.al t with
      | some (b,off)=>_
      | none=>_
     cases ha:fr.al t with
     | none=>dsimp only;rw [e1]
     | some p=>dsimp only;rw [h.isB p.1 (.inl rfl)]
   | some d=>
     subst hl;obtain ⟨h1,h2,h3⟩:=h.lbd d rfl;have htd:t≠d:=fun e=>hdt (by rw [h1,e]);simp only [Fr.unl,unlink,if_neg htd];cases ha:fr.al t with
     | none=>dsimp only;rw [e1]
     | some p=>
       obtain ⟨b,off⟩:=p;dsimp only;by_cases hb:b=d
       . rw [if_pos hb];dsimp only;rw [e1,hi t (by rw [ha];simp),hb,(h.res d h1).2];rfl
       . rw [if_neg hb];dsimp only;rw [h.isB b (.inr (by rw [h1];intro e;injection e with e;exact hb e.symm))]
 . rw [lT t hdt];cases bx with
   | none=>rfl
   | some p=>
     obtain ⟨c,y⟩:=p;obtain ⟨h1,h2,_⟩:=h.box c y rfl;simp only [Fr.setB,upd];split
     . rename_i e;obtain ⟨_,_,e1⟩:=pU h2;obtain ⟨_,_,e2⟩:=pU h1;rw [e,e1,e2];rfl
     . rfl
theorem Agr.symm {R:List Nat} {fr fr':Fr} (h:Agr R fr fr'):Agr R fr' fr:=fun t ht=>⟨(h t ht).1.symm,(h t ht).2.symm⟩
theorem AgrD.symm {D:Option Nat} {fr fr':Fr} (h:AgrD D fr fr'):AgrD D fr' fr:=fun d hd=>(h d hd).symm
theorem Done.agrD {R:List Nat} {dst D:Option Nat} {r:HV×Option (Nat×Nat)} {bx:Option (Nat×HV)} {lb:Option Nat} {fr:Fr} (h:Done R dst r bx lb fr) (hD:∀ d,dst=some d->D≠some d):AgrD D fr (fr.eff bx lb dst r):=
 fun d hd=>(h.isB d (.inr fun e=>hD d e hd)).symm
theorem Done.agrB {R R':List Nat} {dst:Option Nat} {r:HV×Option (Nat×Nat)} {lb:Option Nat} {fr:Fr} (h:Done R dst r none lb fr):AgrB R' fr (fr.eff none lb dst r):=by
 intro t _ b off hp;have hb:=uT hp;rw [lT b (fun e=>by rw [(h.res b e).2] at hb;cases hb)];rfl
theorem AgrB.symm {R:List Nat} {fr fr':Fr} (h:AgrB R fr fr') (hi:Agr R fr fr'):AgrB R fr' fr:=fun t ht b off hp=>(h t ht b off (by rw [(hi t ht).1];exact hp)).symm
theorem Done.inv {R:List Nat} {dst:Option Nat} {r:HV×Option (Nat×Nat)} {bx:Option (Nat×HV)} {lb:Option Nat} {fr:Fr} (hi:vA fr) (h:Done R dst r bx lb fr):vA (fr.eff bx lb dst r):=by
 intro t ht;by_cases hd:dst=some t
 . cases hl:lb with
   | none=>
     subst hl;rw [h.isB t (.inl rfl)];exact (h.res t hd).2
   | some d=>
     subst hl;obtain ⟨h1,h2,h3⟩:=h.lbd d rfl;subst hd;simp only [Fr.eff,Fr.setD,upd,if_true,h3,ne_eq,not_true_eq_false] at ht
 . rw [h.isB t (.inr hd)];refine hi t ?_;rw [z55 t hd] at ht;intro e;apply ht;cases lb with
   | none=>exact e
   | some d=>simp only [Fr.unl,unlink,e,ite_self]
theorem lN {c:Cls} {o:IOper} {fr fr1:Fr} {H H1:j6} (h:I3 E call c o fr H=some (fr1,H1)) :
 ((c≠.wr->c≠.hb->H1=H)/\(c=.hb->∃ ext,H1=H++ext))/\∃ (r:HV×Option (Nat×Nat)) (bx:Option (Nat×HV)) (lb:Option Nat),Done o.reads o.dst r bx lb fr/\(c≠.wrb->bx=none)/\fr1=fr.eff bx lb o.dst r /\
   ∀ fr',Agr o.reads fr fr'->AgrD o.dst fr fr'->(vK c=true->AgrB o.reads fr fr')->∀ H' H1',vF c H H1 H' H1'->I3 E call c o fr' H'=some (fr'.eff bx lb o.dst r,H1'):=by
 unfold I3 at h;split at h
 . rename_i hd;cases hs:M8 E call c o fr H with
   | none=>rw [hs] at h;cases h
   | some p=>
     obtain ⟨fr2,H2⟩:=p;rw [hs] at h;dsimp only at h;split at h
     . rename_i hd2;injection h with hh;injection hh with z1 z2;subst z1;subst z2;obtain ⟨k1,r,bx,lb,k2,k3,k4,k5,kx,k6,k7,k8,k9⟩:=j58 hs;have key:∀ (f:Fr) d,o.dst=some d->((f.eff bx lb o.dst r).env d)=r.1:=by
        intro f d he;rw [he];simp [Fr.eff,Fr.setD,upd]
       by_cases hcl:c=.lb/\lb≠none
       . have hdone:Done o.reads o.dst r bx lb fr:=⟨k2,k4,fun d he=>⟨fun q=>absurd q hcl.2,dstOk_iff.1 hd d he⟩,k6,k7⟩;refine ⟨k1,r,bx,lb,hdone,k3,k8,fun fr' ha had hab H' H1' hr=>?_⟩;have h1:Z4 fr' o.dst=true:=dstOk_iff.2 fun d he=>by rw [<-had d he];exact dstOk_iff.1 hd d he
         unfold I3;rw [if_pos h1,k9 fr' ha had hab H' H1' hr];dsimp only;rw [if_pos (.inl hcl.1)]
       . have hlb:lb=none:=by
          by_cases hc:c=.lb
          . cases hl:lb with
            | none=>rfl
            | some d=>exact absurd ⟨hc,by rw [hl];simp⟩ hcl
          . exact k5 hc
         have hok2:Z4 fr2 o.dst=true:=by
          rcases hd2 with q | q
          . exact dstOk_iff.2 fun d he=>by rw [k8,key _ _ he];exact kx q hlb
          . exact q
         have hdone:Done o.reads o.dst r bx lb fr:=by
          refine ⟨k2,k4,fun d he=>⟨fun _=>?_,dstOk_iff.1 hd d he⟩,k6,k7⟩;have:=dstOk_iff.1 hok2 d he;rw [k8,key _ _ he] at this;exact this
         refine ⟨k1,r,bx,lb,hdone,k3,k8,fun fr' ha had hab H' H1' hr=>?_⟩;have h1:Z4 fr' o.dst=true:=dstOk_iff.2 fun d he=>by rw [<-had d he];exact dstOk_iff.1 hd d he
         have h2:Z4 (fr'.eff bx lb o.dst r) o.dst=true:=dstOk_iff.2 fun d he=>by
          rw [key _ _ he];exact (hdone.res d he).1 hlb
         unfold I3;rw [if_pos h1,k9 fr' ha had hab H' H1' hr];dsimp only;rw [if_pos (.inr h2)]
     . cases h
 . cases h
theorem q33 {a b:IOper} (h:pN a b=true):(∀ d,a.dst=some d->d ∉ b.reads)/\(∀ d,a.dst=some d->b.dst≠some d)/\(∀ d,b.dst=some d->d ∉ a.reads):=by
 refine ⟨fun d hd=>?_,fun d hd=>?_,fun d hd=>?_⟩<;>simp [pN,hd] at h
 . exact h.1.1
 . exact h.1.2
 . exact h.2
theorem ql1 {d t:Nat} {al:Nat->Option (Nat×Nat)} {x:Option (Nat×Nat)} (h:al t=x) (ht:t≠d) (hx:∀ off,x≠some (d,off)):unlink d al t=x:=by
 simp only [unlink,if_neg ht,h];cases x with
 | none=>rfl
 | some p=>
   obtain ⟨b,off⟩:=p;dsimp only;rw [if_neg (fun e=>hx off (by rw [e]))]
theorem jc6 (d d':Nat) (al:Nat->Option (Nat×Nat)):unlink d (unlink d' al)=unlink d' (unlink d al):=by
 funext t;have e:∀ (d:Nat) (al:Nat->Option (Nat×Nat)),unlink d al t=if t=d then none else (al t).bind fun p=>if p.1=d then none else some p:=by
  intro d al;simp only [unlink];cases al t<;>rfl
 rw [e,e,e,e];cases al t with
 | none=>simp
 | some p=>
   obtain ⟨b,off⟩:=p;by_cases h1:t=d<;>by_cases h2:t=d'<;>by_cases h3:b=d<;>by_cases h4:b=d'<;>simp_all
theorem mZ {d e:Nat} {al:Nat->Option (Nat×Nat)} {x:Option (Nat×Nat)} (hx:∀ off,x≠some (d,off)) (he:e≠d):unlink d (upd al e x)=upd (unlink d al) e x:=by
 funext t;by_cases h:t=e
 . subst h;rw [ql1 (x:=x) (by simp [upd]) he hx];simp [upd]
 . simp only [unlink,upd,if_neg h]
theorem qj0 {fr:Fr} {ba bi:Option (Nat×HV)} {la li da di:Option Nat} {ra ri:HV×Option (Nat×Nat)} (q1:∀ b y,ba=some (b,y)->di≠some b) (q2:∀ b y,bi=some (b,y)->da≠some b) (q3:∀ d off,la=some d->ri.2≠some (d,off)) (q4:∀ d off,li=some d->ra.2≠some (d,off))
 (q5:ba=none\/bi=none) (hd:∀ d,da=some d->di≠some d) (hla:∀ d,la=some d->da=some d) (hli:∀ d,li=some d->di=some d):(fr.eff bi li di ri).eff ba la da ra=(fr.eff ba la da ra).eff bi li di ri:=by
 have env:∀ (f:Fr) (b:Option (Nat×HV)) (l d:Option Nat) (r:HV×Option (Nat×Nat)),(f.eff b l d r).env=((f.setB b).setD d r).env:=by
  intro f b l d r;cases l<;>cases d<;>rfl
 have al:∀ (f:Fr) (b:Option (Nat×HV)) (l d:Option Nat) (r:HV×Option (Nat×Nat)),(f.eff b l d r).al=((f.unl l).setD d r).al:=by
  intro f b l d r;cases l<;>cases d<;>cases b<;>rfl
 have he:((fr.eff bi li di ri).eff ba la da ra).env=((fr.eff ba la da ra).eff bi li di ri).env:=by
  rw [env,env];funext t;cases ba with
  | none=>
    cases bi with
    | none=>cases da<;>cases di<;>simp only [Fr.setB,Fr.setD,env,upd] ;(rename_i d d';have:=hd d rfl;by_cases h1:t=d<;>by_cases h2:t=d'<;>simp_all)
    | some p=>
      obtain ⟨b,y⟩:=p;have hb:=q2 b y rfl;cases da<;>cases di<;>simp only [Fr.setB,Fr.setD,env,upd]<;>simp_all<;>(repeat' split)<;>simp_all
  | some q=>
    have:bi=none:=by rcases q5 with q | q;cases q;exact q
    subst this;obtain ⟨b,y⟩:=q;have hb:=q1 b y rfl;cases da<;>cases di<;>simp only [Fr.setB,Fr.setD,env,upd]<;>simp_all<;>(repeat' split)<;>simp_all
 have ha:((fr.eff bi li di ri).eff ba la da ra).al=((fr.eff ba la da ra).eff bi li di ri).al:=by
  rw [al,al];have e1:∀ (f:Fr) (b:Option (Nat×HV)) (l d:Option Nat) (r:HV×Option (Nat×Nat)) (l':Option Nat),((f.eff b l d r).unl l').al=(((f.unl l).setD d r).unl l').al:=by
   intro f b l d r l';cases l' with
   | none=>exact al f b l d r
   | some x=>simp only [Fr.unl];rw [al];cases l<;>rfl
  have e2:∀ (f g:Fr) (d:Option Nat) (r:HV×Option (Nat×Nat)),f.al=g.al->(f.setD d r).al=(g.setD d r).al:=by
   intro f g d r h;cases d<;>simp only [Fr.setD,h]
  rw [e2 _ _ _ _ (e1 ..),e2 _ _ _ _ (e1 ..)];have uc:∀ {d e:Nat} (al:Nat->Option (Nat×Nat)) (x y:Option (Nat×Nat)),d≠e->upd (upd al d x) e y=upd (upd al e y) d x:=by
   intro d e al x y h;funext t;simp only [upd];by_cases h1:t=d<;>by_cases h2:t=e<;>simp_all
  cases la with
  | none=>
    cases li with
    | none=>
      cases da with
      | none=>cases di<;>rfl
      | some d=>cases di with
        | none=>rfl
        | some e=>exact uc _ _ _ (fun h=>hd d rfl (by rw [h]))
    | some e=>
      have:=hli e rfl;subst this;cases da with
      | none=>rfl
      | some d=>
        have hne:d≠e:=fun h=>hd d rfl (by rw [h]);show upd (upd (unlink e fr.al) e ri.2) d ra.2=upd (unlink e (upd fr.al d ra.2)) e ri.2;rw [mZ (fun off=>q4 e off rfl) hne,uc _ _ _ (Ne.symm hne)]
  | some d=>
    have:=hla d rfl;subst this;cases li with
    | none=>
      cases di with
      | none=>rfl
      | some e=>
        have hne:d≠e:=fun h=>hd d rfl (by rw [h]);show upd (unlink d (upd fr.al e ri.2)) d ra.2=upd (upd (unlink d fr.al) d ra.2) e ri.2;rw [mZ (fun off=>q3 d off rfl) (Ne.symm hne),uc _ _ _ hne]
    | some e=>
      have:=hli e rfl;subst this;have hne:d≠e:=fun h=>hd d rfl (by rw [h]);show upd (unlink d (upd (unlink e fr.al) e ri.2)) d ra.2=upd (unlink e (upd (unlink d fr.al) d ra.2)) e ri.2;rw [mZ (fun off=>q3 d off rfl) (Ne.symm hne),mZ (fun off=>q4 e off rfl) hne,uc _ _ _ hne,jc6]
 generalize (fr.eff bi li di ri).eff ba la da ra=f at he ha;generalize (fr.eff ba la da ra).eff bi li di ri=g at he ha;cases f;cases g;cases he;cases ha;rfl
theorem za4 {c:Cls} {o:IOper} {fr fr1:Fr} {H H1:j6} (hi:vA fr) (h:I3 E call c o fr H=some (fr1,H1)):vA fr1:=by
 obtain ⟨_,r,bx,lb,hd,_,e,_⟩:=lN h;rw [e];exact hd.inv hi
theorem swap {ca ci:Cls} {a i:IOper} (hm:vQ ca ci=true) (hs:pN a i=true) {fr fr1 fr2:Fr} {H H1 H2:j6} (hi:vA fr) (h1:I3 E call ca a fr H=some (fr1,H1)) (h2:I3 E call ci i fr1 H1=some (fr2,H2)) :
 ∃ fr1' H1',I3 E call ci i fr H=some (fr1',H1')/\I3 E call ca a fr1' H1'=some (fr2,H2):=by
 obtain ⟨s1,s2,s3⟩:=q33 hs;obtain ⟨⟨ma,mha⟩,ra,ba,la,da,na,ea,ka⟩:=lN h1;obtain ⟨⟨mi,mhi⟩,ri,bi,li,di,ni,ei,ki⟩:=lN h2;have agr1:Agr i.reads fr fr1:=by rw [ea];exact da.agr hi s1
 have agrd1:AgrD i.dst fr fr1:=by rw [ea];exact da.agrD s2
 have bx1:vK ci=true->AgrB i.reads fr fr1:=by
  intro hb;have:ba=none:=na (by intro e;subst e;cases ci<;>simp [vK] at hb<;>simp [vQ] at hm);subst this;rw [ea];exact da.agrB
 have hh:∃ H1',vF ci H1 H2 H H1'/\vF ca H H1 H1' H2:=by
  cases ca<;>cases ci<;>simp [vQ] at hm<;>simp only [vF,ne_eq,reduceCtorEq,not_false_eq_true,not_true_eq_false,true_implies,false_implies,forall_const] at * <;>
   first
   | (subst ma;subst mi;exact ⟨_,rfl,rfl⟩)
   | (subst ma;subst mi;exact ⟨_,⟨⟨[],by simp⟩,rfl⟩,rfl⟩)
   | (subst ma;subst mi;exact ⟨_,rfl,⟨[],by simp⟩,rfl⟩)
   | (subst ma;subst mi;exact ⟨_,⟨⟨[],by simp⟩,rfl⟩,⟨[],by simp⟩,rfl⟩)
   | (subst ma;exact ⟨_,⟨rfl,rfl⟩,rfl⟩)
   | (subst ma;exact ⟨_,⟨rfl,rfl⟩,mhi,rfl⟩)
   | (subst mi;exact ⟨_,rfl,rfl,rfl⟩)
 obtain ⟨H1',hr1,hr2⟩:=hh;have g1:=ki fr agr1.symm agrd1.symm (fun hb=>(bx1 hb).symm agr1) H H1' hr1;have pl:∀ t∈i.reads,∀ b off,fr1.place (.t t)=some (b,off)->fr.place (.t t)=some (b,off):=fun t ht b off hp=>by rw [(agr1 t ht).1];exact hp
 have di':Done i.reads i.dst ri bi li fr:=by
  refine ⟨fun b y e=>?_,di.one,fun d e=>⟨(di.res d e).1,?_⟩,di.lbd,fun b off e=>?_⟩
  . obtain ⟨k1,k2,t,ht,off,hp⟩:=di.box b y e;exact ⟨uT (pl t ht b off hp),k2,t,ht,off,pl t ht b off hp⟩
  . rw [agrd1 d e];exact (di.res d e).2
  . obtain ⟨t,ht,off',hp⟩:=di.lnk b off e;exact ⟨t,ht,off',pl t ht b off' hp⟩
 refine ⟨_,H1',g1,?_⟩;have agr2:Agr a.reads fr (fr.eff bi li i.dst ri):=di'.agr hi s3;have agrd2:AgrD a.dst fr (fr.eff bi li i.dst ri):=di'.agrD fun d h1 h2=>s2 d h2 h1;have bx2:vK ca=true->AgrB a.reads fr (fr.eff bi li i.dst ri):=by
  intro hb;have:bi=none:=ni (by intro e;subst e;cases ca<;>simp [vK] at hb<;>simp [vQ] at hm);subst this;exact di'.agrB
 rw [ka _ agr2 agrd2 bx2 H1' H2 hr2,ei,ea];congr 1;congr 1;have q1:∀ b y,ba=some (b,y)->i.dst≠some b:=fun b y e h=>by
  have:=(da.box b y e).1;rw [(di'.res b h).2] at this;cases this
 have q2:∀ b y,bi=some (b,y)->a.dst≠some b:=fun b y e h=>by
  have:=(di'.box b y e).1;rw [(da.res b h).2] at this;cases this
 have q3:∀ d off,la=some d->ri.2≠some (d,off):=fun d off hl h=>by
  obtain ⟨t,ht,off',hp⟩:=di'.lnk d off h;have:=uT hp;rw [(da.res d (da.lbd d hl).1).2] at this;cases this
 have q4:∀ d off,li=some d->ra.2≠some (d,off):=fun d off hl h=>by
  obtain ⟨t,ht,off',hp⟩:=da.lnk d off h;have:=uT hp;rw [(di'.res d (di'.lbd d hl).1).2] at this;cases this
 have q5:ba=none\/bi=none:=by
  cases hba:ba with
  | none=>exact .inl rfl
  | some q=>
    refine .inr (ni ?_);intro e;subst e;have:ca=.wrb:=by
     cases ca<;>first | rfl | (have:=na (by simp);rw [hba] at this;cases this)
    subst this;simp [vQ] at hm
 exact qj0 q1 q2 q3 q4 q5 s2 (fun d e=>(da.lbd d e).1) (fun d e=>(di.lbd d e).1)
end
end Go.Proofs.Lz
namespace Go.Proofs.Lz
section
variable {E:Env} {call:f7}
theorem zh4 {c:Cls} {o:IOp} {dst:Option Nat} {fr:Fr} {H:j6} {p:Fr×j6} (h:doD E call c o dst fr H=some p):i8 E call o dst fr H=some p:=by
 have key:∀ {b:Prop} [Decidable b] {x:Option (Fr×j6)},(if b then x else none)=some p->x=some p:=by
  intro b _ x h;split at h
  . exact h
  . cases h
 have key':∀ {b:Prop} [Decidable b] {x:Option (Fr×j6)},(if b then none else x)=some p->x=some p:=by
  intro b _ x h;split at h
  . cases h
  . exact h
 cases c with
 | pure=>cases o<;>first | exact key h | (simp only [doD,Q5,if_true] at h;exact h) | (simp [doD,Q5] at h;done)
 | rdb=>cases o<;>first | exact key h | (simp [doD] at h;done)
 | wrb=>cases o<;>first | exact key h | (simp [doD] at h;done)
 | wr=>cases o<;>first | exact key' h | exact h | (simp [doD] at h;done)
 | hb=>cases o<;>first | exact h | (simp [doD] at h;done)
 | lb=>cases o<;>first | exact h | (simp [doD] at h;done)
 | rd=>
   cases o with
   | load ek a=>exact key' h
   | ix ek x i=>exact h
   | slc st ek x lo hi=>exact h
   | call f args=>
     simp only [doD] at h;have h:=key h;rename_i h0;have hm:E.md f=.P:=by
      split at h0
      . assumption
      . cases h0
     cases hc:G6 E call f (args.map fr.opd) H with
     | none=>rw [hc] at h;cases h
     | some q=>
       obtain ⟨v,H'⟩:=q;rw [hc] at h;dsimp only at h;split at h
       . rename_i hn;obtain ⟨rfl,_⟩:=za7 hm hc hn;simp only [i8,S2,hc];exact h
       . cases h
   | _=>simp [doD] at h
theorem qy9 {c:Cls} {o:IOper} {fr:Fr} {H:j6} {p:Fr×j6} (h:I3 E call c o fr H=some p):stp E call o fr H=some p:=by
 unfold I3 at h;split at h
 . cases hs:M8 E call c o fr H with
   | none=>rw [hs] at h;cases h
   | some q=>
     rw [hs] at h;obtain ⟨f1,h1⟩:=q;dsimp only at h;split at h
     . injection h with h;subst h;unfold M8 at hs;unfold stp;cases hg:o.guard with
       | none=>rw [hg] at hs;exact zh4 hs
       | some g=>
         obtain ⟨s,want⟩:=g;rw [hg] at hs;dsimp only at hs ⊢;cases he:fr.env s with
         | c v=>
           cases v with
           | bool b=>
             rw [he] at hs;dsimp only at hs ⊢;by_cases hw:b=want
             . rw [if_pos hw] at hs ⊢;exact zh4 hs
             . rw [if_neg hw] at hs ⊢;exact hs
           | _=>rw [he] at hs;cases hs
         | skipv=>rw [he] at hs;exact hs
         | _=>rw [he] at hs;cases hs
     . cases h
 . cases h
def X3 (E:Env) (call:f7) (l:List (Cls×IOper)):List Nat->Fr->j6->Option (Fr×j6)
 | [],fr,H=>some (fr,H)
 | i::r,fr,H=>match l[i]? with
   | none=>X3 E call l r fr H
   | some x=>match I3 E call x.1 x.2 fr H with
     | some (fr',H')=>X3 E call l r fr' H'
     | none=>none
theorem qu7:∀ (done rest:List (Cls×IOper)) (fr:Fr) (H:j6),X3 E call (done++rest) ((List.range rest.length).map (done.length+·)) fr H=X5 E call rest fr H:=by
 intro done rest;induction rest generalizing done with
 | nil=>intro fr H;rfl
 | cons o rest ih=>
   intro fr H;obtain ⟨c,o⟩:=o;simp only [List.length_cons,List.range_succ_eq_map,List.map_cons,List.map_map,Nat.add_zero];unfold X3 X5;have h1:(done++(c,o)::rest)[done.length]?=some (c,o):=by simp
   rw [h1];dsimp only;cases hs:I3 E call c o fr H with
   | none=>rfl
   | some p=>
     dsimp only;have:=ih (done++[(c,o)]) p.1 p.2;simp only [List.append_assoc,List.singleton_append,List.length_append,List.length_singleton] at this;rw [<-this];congr 1;apply List.map_congr_left;intro x _;simp only [Function.comp];omega
def zg2 (l:List (Cls×IOper)) (a i:Nat):Prop:=∀ x y,l[a]?=some x->l[i]?=some y->vQ x.1 y.1=true/\pN x.2 y.2=true
theorem qk1 {l:List (Cls×IOper)} {i:Nat} {y:Cls×IOper} (hy:l[i]?=some y):∀ (A B:List Nat) {fr:Fr} {H:j6} {res:Fr×j6},vA fr->(∀ a∈A,zg2 l a i)->X3 E call l (A++i::B) fr H=some res ->
 ∃ fr1 H1,I3 E call y.1 y.2 fr H=some (fr1,H1)/\X3 E call l (A++B) fr1 H1=some res:=by
 intro A;induction A with
 | nil=>
   intro B fr H res _ _ h;simp only [List.nil_append] at h ⊢;unfold X3 at h;rw [hy] at h;dsimp only at h;cases hs:I3 E call y.1 y.2 fr H with
   | none=>rw [hs] at h;cases h
   | some p=>rw [hs] at h;exact ⟨p.1,p.2,rfl,h⟩
 | cons a A ih=>
   intro B fr H res hi hp h;simp only [List.cons_append] at h ⊢;unfold X3 at h;cases hx:l[a]? with
   | none=>
     rw [hx] at h;dsimp only at h;obtain ⟨fr1,H1,k1,k2⟩:=ih B hi (fun b hb=>hp b (List.mem_cons_of_mem _ hb)) h;refine ⟨fr1,H1,k1,?_⟩;unfold X3;rw [hx];exact k2
   | some x=>
     rw [hx] at h;dsimp only at h;cases hs:I3 E call x.1 x.2 fr H with
     | none=>rw [hs] at h;cases h
     | some p=>
       obtain ⟨fr',H'⟩:=p;rw [hs] at h;dsimp only at h;obtain ⟨fr1,H1,k1,k2⟩:=ih B (za4 hi hs) (fun b hb=>hp b (List.mem_cons_of_mem _ hb)) h;obtain ⟨q1,q2⟩:=hp a (by simp) x y hx hy;obtain ⟨fr2,H2,m1,m2⟩:=swap q1 q2 hi hs k1;refine ⟨fr2,H2,m1,?_⟩;unfold X3;rw [hx];dsimp only;rw [m2];exact k2
end
def aB (ops:List Oper) (L:Nat->Prop):Prop:=∀ j o,L j->ops[j]?=some o->∀ e∈o.after.toList,Region.binds .any e=true->L e.on
def sT (ops:List Oper) (L:Nat->Prop) (j:Nat):Prop:=∀ o,ops[j]?=some o->∀ e∈o.after.toList,Region.binds .any e=true->L e.on
def GoodAt (ops:List Oper) (j a:Nat):Prop:=∀ L,aB ops L->sT ops L j->L a
theorem qj9 {acc:List Nat}:∀ {es:List Edge} {a:Nat},(qQ acc es).testBit a=true->∃ e∈es,Region.binds .any e=true/\(e.on=a\/(acc.getD e.on 0).testBit a=true):=by
 intro es;induction es with
 | nil=>intro a h;simp [qQ] at h
 | cons e es ih=>
   intro a h;unfold qQ at h;split at h
   . rename_i hb;rw [Nat.testBit_or,Nat.testBit_or,Bool.or_eq_true,Bool.or_eq_true] at h;rcases h with (h | h) | h
     . exact ⟨e,by simp,hb,.inl (by rw [Nat.testBit_two_pow] at h;simpa using h)⟩
     . exact ⟨e,by simp,hb,.inr h⟩
     . obtain ⟨e',h1,h2⟩:=ih h;exact ⟨e',List.mem_cons_of_mem _ h1,h2⟩
   . obtain ⟨e',h1,h2⟩:=ih h;exact ⟨e',List.mem_cons_of_mem _ h1,h2⟩
theorem qm7 (ops:List Oper):∀ (rest done:List Oper) (acc:List Nat),done++rest=ops->acc.length=done.length->(∀ j a,(acc.getD j 0).testBit a=true->GoodAt ops j a)->∀ j a,((anc rest acc).getD j 0).testBit a=true->GoodAt ops j a:=by
 intro rest;induction rest with
 | nil=>intro done acc _ _ h;exact h
 | cons o rest ih=>
   intro done acc hd hl h;refine ih (done++[o]) _ (by simpa using hd) (by simp [hl]) ?_;intro j a hb;by_cases hj:j<acc.length
   . have:(acc++[qQ acc o.after.toList]).getD j 0=acc.getD j 0:=by
      rw [List.getD_eq_getElem?_getD,List.getD_eq_getElem?_getD,List.getElem?_append_left hj]
     rw [this] at hb;exact h j a hb
   . by_cases hj2:j=acc.length
     . subst hj2;have:(acc++[qQ acc o.after.toList]).getD acc.length 0=qQ acc o.after.toList:=by
        rw [List.getD_eq_getElem?_getD];simp
       rw [this] at hb;obtain ⟨e,he,hbi,hq⟩:=qj9 hb;have ho:ops[acc.length]?=some o:=by rw [<-hd,hl];simp
       intro L hcl hpr;have h1:L e.on:=hpr o ho e he hbi;rcases hq with hq | hq
       . rw [<-hq];exact h1
       . refine h e.on a hq L hcl ?_;intro o' ho' e' he' hb';exact hcl e.on o' h1 ho' e' he' hb'
     . have:(acc++[qQ acc o.after.toList]).getD j 0=0:=by
        rw [List.getD_eq_getElem?_getD,List.getElem?_eq_none (by simp;omega)];rfl
       rw [this] at hb;simp at hb
theorem j96:∀ (ops:List Oper) (k:Nat),nM k ops=true->∀ j o,ops[j]?=some o->∀ e∈o.after.toList,Region.binds .any e=true->e.on<k+j:=by
 intro ops;induction ops with
 | nil=>intro k _ j o h;simp at h
 | cons x ops ih=>
   intro k hk j o hj e he hb;unfold nM at hk;rw [Bool.and_eq_true,List.all_eq_true] at hk;cases j with
   | zero=>
     simp at hj;subst hj;have:=hk.1 e he;simp [hb] at this;omega
   | succ j=>
     simp only [List.getElem?_cons_succ] at hj;have:=ih (k+1) hk.2 j o hj e he hb;omega
theorem j90 {p:Nat->Bool} {i:Nat}:∀ (L:List Nat),L.Pairwise (·<·)->i∈L->p i=true->∃ A B,L.filter p=A++i::B/\L.filter (fun k=>p k&&k != i)=A++B/\∀ a∈A,a<i/\p a=true:=by
 intro L;induction L with
 | nil=>intro _ h;simp at h
 | cons x xs ih=>
   intro hp hi hpi;rw [List.pairwise_cons] at hp;by_cases hx:x=i
   . subst hx;refine ⟨[],xs.filter p,by simp [hpi],?_,by simp⟩;simp only [List.nil_append,List.filter_cons,hpi,bne_self_eq_false,Bool.and_false,Bool.false_eq_true,if_false];apply List.filter_congr;intro y hy;have:=hp.1 y hy;have:(y != x)=true:=by simp;omega
     rw [this,Bool.and_true]
   . have hi':i∈xs:=by
      rcases List.mem_cons.1 hi with h | h
      . exact absurd h.symm hx
      . exact h
     obtain ⟨A,B,h1,h2,h3⟩:=ih hp.2 hi' hpi;have hlt:=hp.1 i hi';by_cases hpx:p x=true
     . refine ⟨x::A,B,by simp [hpx,h1],?_,?_⟩
       . have:(x != i)=true:=by simp [hx]
         simp only [List.filter_cons,hpx,this,Bool.and_self,if_true,h2,List.cons_append]
       . intro a ha;rcases List.mem_cons.1 ha with rfl | ha
         . exact ⟨hlt,hpx⟩
         . exact h3 a ha
     . refine ⟨A,B,by simp [hpx,h1],?_,h3⟩;simp only [List.filter_cons,hpx,Bool.false_and,Bool.false_eq_true,if_false,h2]
end Go.Proofs.Lz
