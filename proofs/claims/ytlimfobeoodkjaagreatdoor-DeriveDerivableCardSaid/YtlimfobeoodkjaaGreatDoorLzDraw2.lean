/- Two operations of a drawn region change places; one goes ahead of all before it. -/
import Derived.Test.YtlimfobeoodkjaaGreatDoorLzDraw
set_option linter.unusedVariables false
set_option linter.unusedSimpArgs false
namespace Go.Proofs.Lz
section
variable {E:Env} {call:j8} {W:q7->Prop}
theorem kJ {R:List Nat} {fr fr':Fr} (h:Agr R fr fr') {s:Nat} (hs:s∈R) (hb:r7 (fr.env s)=fr.env s) (hu:fr.env s≠.undef):fr'.env s=fr.env s:=by
 have h2:=(h s hs).2;rw [hb] at h2;cases he:fr'.env s with
 | lbox ek x=>rw [he] at h2;exact absurd h2 hu
 | _=>rw [he] at h2;rw [h2];rfl
theorem dstOk_iff {fr:Fr} {dst:Option Nat}:M8 fr dst=true↔∀ d,dst=some d->isB (fr.env d)=false:=by
 cases dst with
 | none=>simp [M8]
 | some d=>
   simp only [M8,Option.some.injEq,forall_eq'];cases fr.env d<;>simp [isB]
theorem z23 {c:Cls} {o:IOper} {fr fr1:Fr} {H H1:q7} (hst:K3 W c o.op fr) (h:B2 E call c o fr H=some (fr1,H1)):EffD W c o.reads o.dst fr H fr1 H1 (B2 E call c o):=by
 unfold B2 at h;cases hg:o.guard with
 | none=>
   rw [hg] at h;have he:B2 E call c o=doD E call c o.op o.dst:=by funext fr H;unfold B2;rw [hg]
   rw [he];exact (fJ hst h).mono (by unfold IOper.reads;rw [hg];exact fun t ht=>ht)
 | some g=>
   obtain ⟨s,want⟩:=g;rw [hg] at h;dsimp only at h;have hsr:s∈o.reads:=by unfold IOper.reads;rw [hg];simp
   have skip:∀ (K:∀ fr',Agr o.reads fr fr'->∀ H',B2 E call c o fr' H'=some (fr'.put o.dst .skipv,H')),EffD W c o.reads o.dst fr H (fr.put o.dst .skipv) H (B2 E call c o):=by
    intro K;refine E2 (fun _=>rfl) ⟨fun _ _=>rfl,fun _=>⟨[],by simp⟩⟩ fun fr' ha hab H' H1' hr=>?_;rw [K fr' ha H'];have:H1'=H':=by
     cases c<;>simp only [Z0] at hr
     . exact hr
     . exact hr
     . exact hr
     . exact hr.2
     . rw [hr.1];exact hr.2
     . rw [hr.1];exact hr.2
     . exact hr
     . exact hr.2.2
    rw [this]
   cases he:fr.env s with
   | c v=>
     cases v with
     | bool b=>
       rw [he] at h;dsimp only at h;have hb:r7 (fr.env s)=fr.env s:=by rw [he];rfl
       have hu:fr.env s≠.undef:=by rw [he];simp
       by_cases hw:b=want
       . rw [if_pos hw] at h;obtain ⟨k1,r,bx,lb,k2,k3,k4,k5,kx,k6,k7,k8,k9⟩:=(fJ hst h).mono (R':=o.reads) (by unfold IOper.reads;rw [hg];exact fun t ht=>List.mem_cons_of_mem _ ht);refine ⟨k1,r,bx,lb,k2,k3,k4,k5,kx,k6,k7,k8,fun fr' ha had hab H' H1' hr=>?_⟩;rw [<-k9 fr' ha had hab H' H1' hr];unfold B2;rw [hg];dsimp only;rw [kJ ha hsr hb hu,he];dsimp only;rw [if_pos hw]
       . rw [if_neg hw] at h;injection h with hh;injection hh with z1 z2;subst z1;subst z2;refine skip fun fr' ha H'=>?_;unfold B2;rw [hg];dsimp only;rw [kJ ha hsr hb hu,he];dsimp only;rw [if_neg hw]
     | _=>rw [he] at h;cases h
   | skipv=>
     rw [he] at h;have hb:r7 (fr.env s)=fr.env s:=by rw [he];rfl
     have hu:fr.env s≠.undef:=by rw [he];simp
     injection h with hh;injection hh with z1 z2;subst z1;subst z2;refine skip fun fr' ha H'=>?_;unfold B2;rw [hg];dsimp only;rw [kJ ha hsr hb hu,he]
   | _=>rw [he] at h;cases h
structure Done (R:List Nat) (dst:Option Nat) (r:HV×Option (Nat×Nat)) (bx:Option (Nat×HV)) (lb:Option Nat) (fr:Fr):Prop where
 box:∀ b y,bx=some (b,y)->isB (fr.env b)=true/\isB y=true/\∃ t∈R,∃ off,fr.place (.t t)=some (b,off)
 one:bx≠none->dst=none
 res:∀ d,dst=some d->(lb=none->isB r.1=false)/\isB (fr.env d)=false
 lbd:∀ d,lb=some d->dst=some d/\bx=none/\r.2=none
 lnk:∀ b off,r.2=some (b,off)->∃ t∈R,∃ off,fr.place (.t t)=some (b,off)
theorem uR {fr:Fr} {bx:Option (Nat×HV)} {lb dst:Option Nat} {r:HV×Option (Nat×Nat)} (t:Nat) (ht:dst≠some t):(fr.eff bx lb dst r).env t=(fr.setB bx).env t:=by
 cases lb<;>cases dst with
  | none=>rfl
  | some d=>
    have hne:t≠d:=fun e=>ht (by rw [e]);simp only [Fr.eff,Fr.unl,Fr.setD,upd,if_neg hne]
theorem lL {fr:Fr} {bx:Option (Nat×HV)} {lb dst:Option Nat} {r:HV×Option (Nat×Nat)} (t:Nat) (ht:dst≠some t):(fr.eff bx lb dst r).al t=(fr.unl lb).al t:=by
 have h:∀ fr':Fr,((fr'.setB bx).unl lb).al=(fr'.unl lb).al:=by
  intro fr';cases bx<;>cases lb<;>rfl
 cases dst with
 | none=>exact congrFun (h fr) t
 | some d=>
   have hne:t≠d:=fun e=>ht (by rw [e]);simp only [Fr.eff,Fr.setD,upd,if_neg hne];exact congrFun (h fr) t
theorem Done.isB {R:List Nat} {dst:Option Nat} {r:HV×Option (Nat×Nat)} {bx:Option (Nat×HV)} {lb:Option Nat} {fr:Fr} (h:Done R dst r bx lb fr) (b:Nat) (hl:lb=none\/dst≠some b):isB ((fr.eff bx lb dst r).env b)=isB (fr.env b):=by
 by_cases hd:dst=some b
 . have hl:lb=none:=by rcases hl with hl | hl;exact hl;exact absurd hd hl
   subst hl;obtain ⟨h1,h2⟩:=h.res b hd;rw [h2];subst hd;simp only [Fr.eff,Fr.unl,Fr.setD,upd,if_true];exact h1 rfl
 . rw [uR b hd];cases bx with
   | none=>rfl
   | some p=>
     obtain ⟨c,y⟩:=p;obtain ⟨h1,h2,_⟩:=h.box c y rfl;simp only [Fr.setB,upd];split
     . rename_i e;rw [e,h1,h2]
     . rfl
theorem Done.agr {R R':List Nat} {dst:Option Nat} {r:HV×Option (Nat×Nat)} {bx:Option (Nat×HV)} {lb:Option Nat} {fr:Fr} (hi:W8 fr) (h:Done R dst r bx lb fr) (hR:∀ d,dst=some d->d ∉ R'):Agr R' fr (fr.eff bx lb dst r):=by
 intro t ht;have hdt:dst≠some t:=fun e=>hR t e ht;constructor
 . rw [bZ,bZ,lL t hdt];have e1:Go.Proofs.Lz.isB ((fr.eff bx lb dst r).env t)=Go.Proofs.Lz.isB (fr.env t):=h.isB t (.inr hdt);cases hl:lb with
   | none=>
     subst hl;show _=match fr.al t with
      | some (b,off)=>_
      | none=>_
     cases ha:fr.al t with
     | none=>dsimp only;rw [e1]
     | some p=>dsimp only;rw [h.isB p.1 (.inl rfl)]
   | some d=>
     subst hl;obtain ⟨h1,h2,h3⟩:=h.lbd d rfl;have htd:t≠d:=fun e=>hdt (by rw [h1,e]);simp only [Fr.unl,unlink,if_neg htd];cases ha:fr.al t with
     | none=>dsimp only;rw [e1]
     | some p=>
       obtain ⟨b,off⟩:=p;dsimp only;by_cases hb:b=d
       . rw [if_pos hb];dsimp only;rw [e1,hi t (by rw [ha];simp),hb,(h.res d h1).2];rfl
       . rw [if_neg hb];dsimp only;rw [h.isB b (.inr (by rw [h1];intro e;injection e with e;exact hb e.symm))]
 . rw [uR t hdt];cases bx with
   | none=>rfl
   | some p=>
     obtain ⟨c,y⟩:=p;obtain ⟨h1,h2,_⟩:=h.box c y rfl;simp only [Fr.setB,upd];split
     . rename_i e;obtain ⟨_,_,e1⟩:=wV h2;obtain ⟨_,_,e2⟩:=wV h1;rw [e,e1,e2];rfl
     . rfl
theorem Agr.symm {R:List Nat} {fr fr':Fr} (h:Agr R fr fr'):Agr R fr' fr:=fun t ht=>⟨(h t ht).1.symm,(h t ht).2.symm⟩
theorem AgrD.symm {D:Option Nat} {fr fr':Fr} (h:AgrD D fr fr'):AgrD D fr' fr:=fun d hd=>(h d hd).symm
theorem Done.agrD {R:List Nat} {dst D:Option Nat} {r:HV×Option (Nat×Nat)} {bx:Option (Nat×HV)} {lb:Option Nat} {fr:Fr} (h:Done R dst r bx lb fr) (hD:∀ d,dst=some d->D≠some d):AgrD D fr (fr.eff bx lb dst r):=
 fun d hd=>(h.isB d (.inr fun e=>hD d e hd)).symm
theorem Done.agrB {R R':List Nat} {dst:Option Nat} {r:HV×Option (Nat×Nat)} {bx:Option (Nat×HV)} {lb:Option Nat} {fr:Fr} {bo:Option Nat} (h:Done R dst r bx lb fr) (hb0:∀ p,bx=some p->bo≠some p.1):AgrB bo R' fr (fr.eff bx lb dst r):=by
 intro t _ b off hbo hp;have hb:=Z9 hp;rw [uR b (fun e=>by rw [(h.res b e).2] at hb;cases hb)];cases bx with
 | none=>rfl
 | some p=>
   obtain ⟨c,y⟩:=p;have hne:b≠c:=fun e=>hb0 _ rfl (by rw [hbo,e]);simp only [Fr.setB,upd,if_neg hne]
theorem AgrB.symm {bo:Option Nat} {R:List Nat} {fr fr':Fr} (h:AgrB bo R fr fr') (hi:Agr R fr fr'):AgrB bo R fr' fr:=fun t ht b off hb hp=>(h t ht b off hb (by rw [(hi t ht).1];exact hp)).symm
theorem Done.inv {R:List Nat} {dst:Option Nat} {r:HV×Option (Nat×Nat)} {bx:Option (Nat×HV)} {lb:Option Nat} {fr:Fr} (hi:W8 fr) (h:Done R dst r bx lb fr):W8 (fr.eff bx lb dst r):=by
 intro t ht;by_cases hd:dst=some t
 . cases hl:lb with
   | none=>
     subst hl;rw [h.isB t (.inl rfl)];exact (h.res t hd).2
   | some d=>
     subst hl;obtain ⟨h1,h2,h3⟩:=h.lbd d rfl;subst hd;simp only [Fr.eff,Fr.setD,upd,if_true,h3,ne_eq,not_true_eq_false] at ht
 . rw [h.isB t (.inr hd)];refine hi t ?_;rw [lL t hd] at ht;intro e;apply ht;cases lb with
   | none=>exact e
   | some d=>simp only [Fr.unl,unlink,e,ite_self]
theorem gW {c:Cls} {o:IOper} {fr fr1:Fr} {H H1:q7} (hst:K3 W c o.op fr) (h:c7 E call c o fr H=some (fr1,H1)) :
 ((c≠.wr->c≠.hb->H1=H)/\(c=.hb->∃ ext,H1=H++ext))/\∃ (r:HV×Option (Nat×Nat)) (bx:Option (Nat×HV)) (lb:Option Nat),Done o.reads o.dst r bx lb fr/\(∀ p,bx=some p->c=.wrb p.1)/\fr1=fr.eff bx lb o.dst r /\
   ∀ fr',Agr o.reads fr fr'->AgrD o.dst fr fr'->AgrB (Q5 c) o.reads fr fr'->∀ H' H1',Z0 W c H H1 H' H1'->c7 E call c o fr' H'=some (fr'.eff bx lb o.dst r,H1'):=by
 unfold c7 at h;split at h
 . rename_i hd;cases hs:B2 E call c o fr H with
   | none=>rw [hs] at h;cases h
   | some p=>
     obtain ⟨fr2,H2⟩:=p;rw [hs] at h;dsimp only at h;split at h
     . rename_i hd2;injection h with hh;injection hh with z1 z2;subst z1;subst z2;obtain ⟨k1,r,bx,lb,k2,k3,k4,k5,kx,k6,k7,k8,k9⟩:=z23 hst hs;have key:∀ (f:Fr) d,o.dst=some d->((f.eff bx lb o.dst r).env d)=r.1:=by
        intro f d he;rw [he];simp [Fr.eff,Fr.setD,upd]
       by_cases hcl:c=.lb/\lb≠none
       . have hdone:Done o.reads o.dst r bx lb fr:=⟨k2,k4,fun d he=>⟨fun q=>absurd q hcl.2,dstOk_iff.1 hd d he⟩,k6,k7⟩;refine ⟨k1,r,bx,lb,hdone,k3,k8,fun fr' ha had hab H' H1' hr=>?_⟩;have h1:M8 fr' o.dst=true:=dstOk_iff.2 fun d he=>by rw [<-had d he];exact dstOk_iff.1 hd d he
         unfold c7;rw [if_pos h1,k9 fr' ha had hab H' H1' hr];dsimp only;rw [if_pos (.inl hcl.1)]
       . have hlb:lb=none:=by
          by_cases hc:c=.lb
          . cases hl:lb with
            | none=>rfl
            | some d=>exact absurd ⟨hc,by rw [hl];simp⟩ hcl
          . exact k5 hc
         have hok2:M8 fr2 o.dst=true:=by
          rcases hd2 with q | q
          . exact dstOk_iff.2 fun d he=>by rw [k8,key _ _ he];exact kx q hlb
          . exact q
         have hdone:Done o.reads o.dst r bx lb fr:=by
          refine ⟨k2,k4,fun d he=>⟨fun _=>?_,dstOk_iff.1 hd d he⟩,k6,k7⟩;have:=dstOk_iff.1 hok2 d he;rw [k8,key _ _ he] at this;exact this
         refine ⟨k1,r,bx,lb,hdone,k3,k8,fun fr' ha had hab H' H1' hr=>?_⟩;have h1:M8 fr' o.dst=true:=dstOk_iff.2 fun d he=>by rw [<-had d he];exact dstOk_iff.1 hd d he
         have h2:M8 (fr'.eff bx lb o.dst r) o.dst=true:=dstOk_iff.2 fun d he=>by
          rw [key _ _ he];exact (hdone.res d he).1 hlb
         unfold c7;rw [if_pos h1,k9 fr' ha had hab H' H1' hr];dsimp only;rw [if_pos (.inr h2)]
     . cases h
 . cases h
theorem z50 {a b:IOper} (h:jJ a b=true):(∀ d,a.dst=some d->d ∉ b.reads)/\(∀ d,a.dst=some d->b.dst≠some d)/\(∀ d,b.dst=some d->d ∉ a.reads):=by
 refine ⟨fun d hd=>?_,fun d hd=>?_,fun d hd=>?_⟩<;>simp [jJ,hd] at h
 . exact h.1.1
 . exact h.1.2
 . exact h.2
theorem oR {d t:Nat} {al:Nat->Option (Nat×Nat)} {x:Option (Nat×Nat)} (h:al t=x) (ht:t≠d) (hx:∀ off,x≠some (d,off)):unlink d al t=x:=by
 simp only [unlink,if_neg ht,h];cases x with
 | none=>rfl
 | some p=>
   obtain ⟨b,off⟩:=p;dsimp only;rw [if_neg (fun e=>hx off (by rw [e]))]
theorem zu7 (d d':Nat) (al:Nat->Option (Nat×Nat)):unlink d (unlink d' al)=unlink d' (unlink d al):=by
 funext t;have e:∀ (d:Nat) (al:Nat->Option (Nat×Nat)),unlink d al t=if t=d then none else (al t).bind fun p=>if p.1=d then none else some p:=by
  intro d al;simp only [unlink];cases al t<;>rfl
 rw [e,e,e,e];cases al t with
 | none=>simp
 | some p=>
   obtain ⟨b,off⟩:=p;by_cases h1:t=d<;>by_cases h2:t=d'<;>by_cases h3:b=d<;>by_cases h4:b=d'<;>simp_all
theorem yS {d e:Nat} {al:Nat->Option (Nat×Nat)} {x:Option (Nat×Nat)} (hx:∀ off,x≠some (d,off)) (he:e≠d):unlink d (upd al e x)=upd (unlink d al) e x:=by
 funext t;by_cases h:t=e
 . subst h;rw [oR (x:=x) (by simp [upd]) he hx];simp [upd]
 . simp only [unlink,upd,if_neg h]
theorem q31 {fr:Fr} {ba bi:Option (Nat×HV)} {la li da di:Option Nat} {ra ri:HV×Option (Nat×Nat)} (q1:∀ b y,ba=some (b,y)->di≠some b) (q2:∀ b y,bi=some (b,y)->da≠some b) (q3:∀ d off,la=some d->ri.2≠some (d,off)) (q4:∀ d off,li=some d->ra.2≠some (d,off))
 (q5:ba=none\/bi=none) (hd:∀ d,da=some d->di≠some d) (hla:∀ d,la=some d->da=some d) (hli:∀ d,li=some d->di=some d):(fr.eff bi li di ri).eff ba la da ra=(fr.eff ba la da ra).eff bi li di ri:=by
 have env:∀ (f:Fr) (b:Option (Nat×HV)) (l d:Option Nat) (r:HV×Option (Nat×Nat)),(f.eff b l d r).env=((f.setB b).setD d r).env:=by
  intro f b l d r;cases l<;>cases d<;>rfl
 have al:∀ (f:Fr) (b:Option (Nat×HV)) (l d:Option Nat) (r:HV×Option (Nat×Nat)),(f.eff b l d r).al=((f.unl l).setD d r).al:=by
  intro f b l d r;cases l<;>cases d<;>cases b<;>rfl
 have he:((fr.eff bi li di ri).eff ba la da ra).env=((fr.eff ba la da ra).eff bi li di ri).env:=by
  rw [env,env];funext t;cases ba with
  | none=>
    cases bi with
    | none=>cases da<;>cases di<;>simp only [Fr.setB,Fr.setD,env,upd] ;(rename_i d d';have:=hd d rfl;by_cases h1:t=d<;>by_cases h2:t=d'<;>simp_all)
    | some p=>
      obtain ⟨b,y⟩:=p;have hb:=q2 b y rfl;cases da<;>cases di<;>simp only [Fr.setB,Fr.setD,env,upd]<;>simp_all<;>(repeat' split)<;>simp_all
  | some q=>
    have:bi=none:=by rcases q5 with q | q;cases q;exact q
    subst this;obtain ⟨b,y⟩:=q;have hb:=q1 b y rfl;cases da<;>cases di<;>simp only [Fr.setB,Fr.setD,env,upd]<;>simp_all<;>(repeat' split)<;>simp_all
 have ha:((fr.eff bi li di ri).eff ba la da ra).al=((fr.eff ba la da ra).eff bi li di ri).al:=by
  rw [al,al];have e1:∀ (f:Fr) (b:Option (Nat×HV)) (l d:Option Nat) (r:HV×Option (Nat×Nat)) (l':Option Nat),((f.eff b l d r).unl l').al=(((f.unl l).setD d r).unl l').al:=by
   intro f b l d r l';cases l' with
   | none=>exact al f b l d r
   | some x=>simp only [Fr.unl];rw [al];cases l<;>rfl
  have e2:∀ (f g:Fr) (d:Option Nat) (r:HV×Option (Nat×Nat)),f.al=g.al->(f.setD d r).al=(g.setD d r).al:=by
   intro f g d r h;cases d<;>simp only [Fr.setD,h]
  rw [e2 _ _ _ _ (e1 ..),e2 _ _ _ _ (e1 ..)];have uc:∀ {d e:Nat} (al:Nat->Option (Nat×Nat)) (x y:Option (Nat×Nat)),d≠e->upd (upd al d x) e y=upd (upd al e y) d x:=by
   intro d e al x y h;funext t;simp only [upd];by_cases h1:t=d<;>by_cases h2:t=e<;>simp_all
  cases la with
  | none=>
    cases li with
    | none=>
      cases da with
      | none=>cases di<;>rfl
      | some d=>cases di with
        | none=>rfl
        | some e=>exact uc _ _ _ (fun h=>hd d rfl (by rw [h]))
    | some e=>
      have:=hli e rfl;subst this;cases da with
      | none=>rfl
      | some d=>
        have hne:d≠e:=fun h=>hd d rfl (by rw [h]);show upd (upd (unlink e fr.al) e ri.2) d ra.2=upd (unlink e (upd fr.al d ra.2)) e ri.2;rw [yS (fun off=>q4 e off rfl) hne,uc _ _ _ (Ne.symm hne)]
  | some d=>
    have:=hla d rfl;subst this;cases li with
    | none=>
      cases di with
      | none=>rfl
      | some e=>
        have hne:d≠e:=fun h=>hd d rfl (by rw [h]);show upd (unlink d (upd fr.al e ri.2)) d ra.2=upd (upd (unlink d fr.al) d ra.2) e ri.2;rw [yS (fun off=>q3 d off rfl) (Ne.symm hne),uc _ _ _ hne]
    | some e=>
      have:=hli e rfl;subst this;have hne:d≠e:=fun h=>hd d rfl (by rw [h]);show upd (unlink d (upd (unlink e fr.al) e ri.2)) d ra.2=upd (unlink e (upd (unlink d fr.al) d ra.2)) e ri.2;rw [yS (fun off=>q3 d off rfl) (Ne.symm hne),yS (fun off=>q4 e off rfl) hne,uc _ _ _ hne,zu7]
 generalize (fr.eff bi li di ri).eff ba la da ra=f at he ha;generalize (fr.eff ba la da ra).eff bi li di ri=g at he ha;cases f;cases g;cases he;cases ha;rfl
theorem sQ {c:Cls} {o:IOper} {fr fr1:Fr} {H H1:q7} (hst:K3 W c o.op fr) (hi:W8 fr) (h:c7 E call c o fr H=some (fr1,H1)):W8 fr1:=by
 obtain ⟨_,r,bx,lb,hd,_,e,_⟩:=gW hst h;rw [e];exact hd.inv hi
theorem rC {o:IOper} {ek:Option Nat} {x:Opd} (h:o.op=.load ek x):x∈o.op.opds:=by rw [h];simp [IOp.opds]
theorem fR {o:IOper} {fr fr':Fr} (h:Agr o.reads fr fr'):∀ x∈o.op.opds,fr.opd x=fr'.opd x/\fr.place x=fr'.place x:=
 pO (fun t ht=>h t (by
  unfold IOper.reads;split
  . exact ht
  . exact List.mem_cons_of_mem _ ht))
theorem swap {ca ci:Cls} {a i:IOper} (hm:Q4 ca ci=true) (hs:jJ a i=true) {fr fr1 fr2:Fr} {H H1 H2:q7} (hsa:K3 W ca a.op fr) (hsi:K3 W ci i.op fr1) (wH:W H) (wH1:W H1) (wH2:W H2) (hi:W8 fr) (h1:c7 E call ca a fr H=some (fr1,H1)) (h2:c7 E call ci i fr1 H1=some (fr2,H2)) :
 ∃ fr1' H1',c7 E call ci i fr H=some (fr1',H1')/\c7 E call ca a fr1' H1'=some (fr2,H2)/\W H1'/\K3 W ci i.op fr/\K3 W ca a.op fr1':=by
 obtain ⟨s1,s2,s3⟩:=z50 hs;obtain ⟨⟨ma,mha⟩,ra,ba,la,da,na,ea,ka⟩:=gW hsa h1;obtain ⟨⟨mi,mhi⟩,ri,bi,li,di,ni,ei,ki⟩:=gW hsi h2;have agr1:Agr i.reads fr fr1:=by rw [ea];exact da.agr hi s1
 have agrd1:AgrD i.dst fr fr1:=by rw [ea];exact da.agrD s2
 have hbb:∀ {c c':Cls} {p:Nat×HV},Q4 c c'=true->c=.wrb p.1->Q5 c'≠some p.1:=by
  intro c c' p hm e hb;subst e;cases c'<;>simp [Q5] at hb<;>subst hb<;>simp [Q4] at hm
 have hbb':∀ {c c':Cls} {p:Nat×HV},Q4 c c'=true->c'=.wrb p.1->Q5 c≠some p.1:=by
  intro c c' p hm e hb;subst e;cases c<;>simp [Q5] at hb<;>subst hb<;>simp [Q4] at hm
 have bx1:AgrB (Q5 ci) i.reads fr fr1:=by
  rw [ea];exact da.agrB fun p hp=>hbb hm (na p hp)
 have hh:∃ H1',Z0 W ci H1 H2 H H1'/\Z0 W ca H H1 H1' H2/\W H1':=by
  cases ca<;>cases ci<;>simp [Q4] at hm<;>simp only [Z0,ne_eq,reduceCtorEq,not_false_eq_true,not_true_eq_false,true_implies,false_implies,forall_const] at * <;>
   first
   | (subst ma;subst mi;exact ⟨_,rfl,rfl,by assumption⟩)
   | (subst ma;subst mi;exact ⟨_,⟨⟨[],by simp⟩,rfl⟩,rfl,by assumption⟩)
   | (subst ma;subst mi;exact ⟨_,rfl,⟨⟨[],by simp⟩,rfl⟩,by assumption⟩)
   | (subst ma;subst mi;exact ⟨_,⟨⟨[],by simp⟩,rfl⟩,⟨⟨[],by simp⟩,rfl⟩,by assumption⟩)
   | (subst ma;exact ⟨_,⟨rfl,rfl⟩,rfl,by assumption⟩)
   | (subst ma;exact ⟨_,⟨rfl,rfl⟩,⟨mhi,rfl⟩,by assumption⟩)
   | (subst mi;exact ⟨_,rfl,⟨rfl,rfl⟩,by assumption⟩)
   | (subst ma;subst mi;exact ⟨_,⟨by assumption,by assumption,rfl⟩,rfl,by assumption⟩)
   | (subst ma;subst mi;exact ⟨_,rfl,⟨by assumption,by assumption,rfl⟩,by assumption⟩)
   | (subst ma;subst mi;exact ⟨_,⟨by assumption,by assumption,rfl⟩,⟨⟨[],by simp⟩,rfl⟩,by assumption⟩)
   | (subst ma;subst mi;exact ⟨_,⟨⟨[],by simp⟩,rfl⟩,⟨by assumption,by assumption,rfl⟩,by assumption⟩)
   | (subst ma;subst mi;exact ⟨_,⟨by assumption,by assumption,rfl⟩,⟨by assumption,by assumption,rfl⟩,by assumption⟩)
   | (subst ma;exact ⟨_,⟨rfl,rfl⟩,⟨by assumption,by assumption,rfl⟩,by assumption⟩)
   | (subst mi;exact ⟨_,⟨by assumption,by assumption,rfl⟩,⟨rfl,rfl⟩,by assumption⟩)
 obtain ⟨H1',hr1,hr2,hw1⟩:=hh;have g1:=ki fr agr1.symm agrd1.symm (bx1.symm agr1) H H1' hr1;have pl:∀ t∈i.reads,∀ b off,fr1.place (.t t)=some (b,off)->fr.place (.t t)=some (b,off):=fun t ht b off hp=>by rw [(agr1 t ht).1];exact hp
 have di':Done i.reads i.dst ri bi li fr:=by
  refine ⟨fun b y e=>?_,di.one,fun d e=>⟨(di.res d e).1,?_⟩,di.lbd,fun b off e=>?_⟩
  . obtain ⟨k1,k2,t,ht,off,hp⟩:=di.box b y e;exact ⟨Z9 (pl t ht b off hp),k2,t,ht,off,pl t ht b off hp⟩
  . rw [agrd1 d e];exact (di.res d e).2
  . obtain ⟨t,ht,off',hp⟩:=di.lnk b off e;exact ⟨t,ht,off',pl t ht b off' hp⟩
 have hsi':K3 W ci i.op fr:=fun hc ek x hx=>by
  obtain ⟨v,hv⟩:=hsi hc ek x hx;refine ⟨v,fun H wh=>?_⟩;rw [(fR agr1 x (rC hx)).1];exact hv H wh
 refine ⟨_,H1',g1,?_,hw1,hsi',?_⟩;rotate_left
 . intro hc ek x hx;obtain ⟨v,hv⟩:=hsa hc ek x hx;refine ⟨v,fun H wh=>?_⟩;rw [<-(fR (di'.agr hi s3:Agr a.reads fr _) x (rC hx)).1];exact hv H wh
 have agr2:Agr a.reads fr (fr.eff bi li i.dst ri):=di'.agr hi s3;have agrd2:AgrD a.dst fr (fr.eff bi li i.dst ri):=di'.agrD fun d h1 h2=>s2 d h2 h1;have bx2:AgrB (Q5 ca) a.reads fr (fr.eff bi li i.dst ri):=di'.agrB fun p hp=>hbb' hm (ni p hp);rw [ka _ agr2 agrd2 bx2 H1' H2 hr2,ei,ea];congr 1;congr 1;have q1:∀ b y,ba=some (b,y)->i.dst≠some b:=fun b y e h=>by
  have:=(da.box b y e).1;rw [(di'.res b h).2] at this;cases this
 have q2:∀ b y,bi=some (b,y)->a.dst≠some b:=fun b y e h=>by
  have:=(di'.box b y e).1;rw [(da.res b h).2] at this;cases this
 have q3:∀ d off,la=some d->ri.2≠some (d,off):=fun d off hl h=>by
  obtain ⟨t,ht,off',hp⟩:=di'.lnk d off h;have:=Z9 hp;rw [(da.res d (da.lbd d hl).1).2] at this;cases this
 have q4:∀ d off,li=some d->ra.2≠some (d,off):=fun d off hl h=>by
  obtain ⟨t,ht,off',hp⟩:=da.lnk d off h;have:=Z9 hp;rw [(di'.res d (di'.lbd d hl).1).2] at this;cases this
 have q5:ba=none\/bi=none:=by
  cases hba:ba with
  | none=>exact .inl rfl
  | some q=>
    right;cases hbi:bi with
    | none=>rfl
    | some q'=>
      have e1:=na q hba;have e2:=ni q' hbi;subst e1;subst e2;simp [Q4] at hm
 exact q31 q1 q2 q3 q4 q5 s2 (fun d e=>(da.lbd d e).1) (fun d e=>(di.lbd d e).1)
end
end Go.Proofs.Lz
