/- The live memory and the frame: how they stand to the evaluator's, and how they go on. -/
import Derived.Test.YtlimfobeoodkjaaGreatDoorLzCode12
import Derived.Below
import Derived.Deep.MidRow
import Derived.Laws.AppendOwn
import Derived.Test.YtlimfobeoodkjaaGreatDoorLzComp
import Derived.Calls
set_option linter.unusedVariables false
namespace Go.Proofs.Lz
def Shape:Option Nat->Value->Prop
 | none,v=>v.oneCell'=true
 | some n,v=>∃ vs:List Value,v=.agg vs.toArray/\vs.length=n/\∀ u∈vs,u.oneCell'=true
mutual
def RC (w:World) (F:Nat->Prop):CV->Value->Prop
 | .bool b,v=>v=.bool b
 | .int k n,v=>v=.int k n
 | .str s,v=>v=.string ⟨s.toArray⟩
 | .agg cs,v=>∃ vs:List Value,v=.agg vs.toArray/\RCs w F cs vs/\∀ u∈vs,u.oneCell'=true
 | .frz ek xs,v=>∃ a cap,v=.slice a xs.length cap/\xs.length<=cap/\(xs≠[]->∃ b off vs,a=some ⟨b,off,none⟩/\F b/\w.rangeAt b off vs/\RRow w F ek xs vs)
 | .fptr ek x off,v=>∃ b o u,v=.pointer (some ⟨b,o+off,none⟩)/\F b/\Shape ek u/\w.rangeAt b o u.cells.toList/\RC w F x u
 | .fn f first cap,v=>∃ vs us:List Value,v=.func (.func f) vs.toArray us.toArray/\RCs w F first vs/\RCs w F cap us
 | .iface t x,v=>∃ u,v=.iface t u/\RC w F x u
 | .nili,v=>v=.nilIface
 | .nilp,v=>v=.pointer none
 | .nilfn,v=>v=.nilFunc
 | .opq,v=>∃ t u,v=.iface t u
 | .nilm,v=>v=.map none
 | .nes,v=>∃ ad cap,v=.slice (some ad) 0 cap
 | .nln,v=>∃ cap,v=.slice none 0 cap
def RCs (w:World) (F:Nat->Prop):List CV->List Value->Prop
 | [],vs=>vs=[]
 | c::r,vs=>∃ v us,vs=v::us/\RC w F c v/\RCs w F r us
def RRow (w:World) (F:Nat->Prop) (ek:Option Nat):List CV->List Value->Prop
 | [],vs=>vs=[]
 | c::r,vs=>∃ v us,vs=v.cells.toList++us/\Shape ek v/\RC w F c v/\RRow w F ek r us
end
def Keeps (F F':Nat->Prop) (w w':World):Prop:=(∀ b,F b->F' b)/\∀ b,F b->∀ off,w'.cell? ⟨b,off,none⟩=w.cell? ⟨b,off,none⟩
theorem Keeps.of {F F':Nat->Prop} {w w':World} (h1:∀ b,F b->F' b) (h2:∀ b,F b->w'.heap[b]?=w.heap[b]?):Keeps F F' w w':=⟨h1,fun b hb off=>World.cell?_of_block (a:=⟨b,off,none⟩) (h2 b hb)⟩
class GlobTab where
 tab:List (Nat×(List Value->Prop))
def Glob [GlobTab] (w:World) (F:Nat->Prop):Prop:=∀ p∈GlobTab.tab,F p.1/\∃ vs,vs≠[]/\(∀ off,w.cell? ⟨p.1,off,none⟩=vs[off]?)/\p.2 vs
theorem Glob.keep [GlobTab] {F F':Nat->Prop} {w w':World} (h:Glob w F) (k:Keeps F F' w w'):Glob w' F':=fun p hp=>⟨k.1 _ (h p hp).1,(h p hp).2.imp fun v q=>⟨q.1,fun off=>(k.2 _ (h p hp).1 _).trans (q.2.1 off),q.2.2⟩⟩
theorem Glob.more [GlobTab] {F F':Nat->Prop} {w:World} (h:Glob w F) (k:∀ b,F b->F' b):Glob w F':=fun p hp=>⟨k _ (h p hp).1,(h p hp).2⟩
theorem nX {w:World} {b:Nat} {vs:List Value} (h0:vs≠[]) (h:∀ off,w.cell? ⟨b,off,none⟩=vs[off]?):∃ t q,w.heap[b]?=some (.cells vs.toArray t q):=by
 obtain ⟨v,r,rfl⟩:∃ v r,vs=v::r:=by
  cases vs with
  | nil=>exact absurd rfl h0
  | cons v r=>exact ⟨v,r,rfl⟩
 have h1:=h 0;simp only [World.cell?] at h h1;cases hb:w.heap[b]? with
 | none=>rw [hb] at h1;simp at h1
 | some o=>
   rw [hb] at h h1;cases o with
   | cells cs t q=>
     refine ⟨t,q,?_⟩;have:cs=(v::r).toArray:=by
      apply Array.ext_getElem?;intro i;have:=h i;simpa using this
     rw [this]
   | _=>simp at h1
theorem Keeps.refl (F:Nat->Prop) (w:World):Keeps F F w w:=⟨fun _ h=>h,fun _ _ _=>rfl⟩
theorem Keeps.trans {F F' F'':Nat->Prop} {w w' w'':World} (h:Keeps F F' w w') (k:Keeps F' F'' w' w''):Keeps F F'' w w'':=
 ⟨fun b hb=>k.1 b (h.1 b hb),fun b hb off=>(k.2 b (h.1 b hb) off).trans (h.2 b hb off)⟩
theorem cB {w w':World} {b o:Nat} {vs:List Value} (h:w.rangeAt b o vs) (hb:∀ off,w'.cell? ⟨b,off,none⟩=w.cell? ⟨b,off,none⟩):w'.rangeAt b o vs:=by
 intro j v hv;rw [hb (o+j)];exact h j v hv
mutual
theorem RC.keep {w w':World} {F F':Nat->Prop} (k:Keeps F F' w w'):∀ (x:CV) (v:Value),RC w F x v->RC w' F' x v
 | .bool _,_,h=>by unfold RC at h ⊢;exact h
 | .int _ _,_,h=>by unfold RC at h ⊢;exact h
 | .str _,_,h=>by unfold RC at h ⊢;exact h
 | .agg cs,_,h=>by
   unfold RC at h ⊢;obtain ⟨vs,h1,h2,h3⟩:=h;exact ⟨vs,h1,RCs.keep k cs vs h2,h3⟩
 | .frz ek xs,_,h=>by
   unfold RC at h ⊢;obtain ⟨a,cap,h1,hc,h2⟩:=h;refine ⟨a,cap,h1,hc,fun hne=>?_⟩;obtain ⟨b,off,vs,e,hF,hr,hrow⟩:=h2 hne;exact ⟨b,off,vs,e,k.1 b hF,cB hr (k.2 b hF),RRow.keep k ek xs vs hrow⟩
 | .fptr ek x off,_,h=>by
   unfold RC at h ⊢;obtain ⟨b,o,u,h1,hF,hs,hr,hx⟩:=h;exact ⟨b,o,u,h1,k.1 b hF,hs,cB hr (k.2 b hF),RC.keep k x u hx⟩
 | .fn f first cap,_,h=>by
   unfold RC at h ⊢;obtain ⟨vs,us,h1,h2,h3⟩:=h;exact ⟨vs,us,h1,RCs.keep k first vs h2,RCs.keep k cap us h3⟩
 | .iface t x,_,h=>by
   unfold RC at h ⊢;obtain ⟨u,h1,h2⟩:=h;exact ⟨u,h1,RC.keep k x u h2⟩
 | .nili,_,h=>by unfold RC at h ⊢;exact h
 | .nilp,_,h=>by unfold RC at h ⊢;exact h
 | .nilfn,_,h=>by unfold RC at h ⊢;exact h
 | .opq,_,h=>by unfold RC at h ⊢;exact h
 | .nilm,_,h=>by unfold RC at h ⊢;exact h
 | .nes,_,h=>by unfold RC at h ⊢;exact h
 | .nln,_,h=>by unfold RC at h ⊢;exact h
theorem RCs.keep {w w':World} {F F':Nat->Prop} (k:Keeps F F' w w'):∀ (xs:List CV) (vs:List Value),RCs w F xs vs->RCs w' F' xs vs
 | [],_,h=>by unfold RCs at h ⊢;exact h
 | c::r,_,h=>by
   unfold RCs at h ⊢;obtain ⟨v,us,h1,h2,h3⟩:=h;exact ⟨v,us,h1,RC.keep k c v h2,RCs.keep k r us h3⟩
theorem RRow.keep {w w':World} {F F':Nat->Prop} (k:Keeps F F' w w') (ek:Option Nat):∀ (xs:List CV) (vs:List Value),RRow w F ek xs vs->RRow w' F' ek xs vs
 | [],_,h=>by unfold RRow at h ⊢;exact h
 | c::r,_,h=>by
   unfold RRow at h ⊢;obtain ⟨v,us,h1,h2,h3,h4⟩:=h;exact ⟨v,us,h1,h2,RC.keep k c v h3,RRow.keep k ek r us h4⟩
end
structure Loc where
 blk:Nat
 cap:Nat
abbrev j7:=Nat->Loc
mutual
def RH (w:World) (F:Nat->Prop) (H:q7) (m:j7):HV->Value->Prop
 | .c v,u=>RC w F v u
 | .agg cs,u=>∃ vs:List Value,u=.agg vs.toArray/\RHs w F H m cs vs/\∀ x∈vs,x.oneCell'=true
 | .tup cs,u=>∃ vs:List Value,u=.tuple vs.toArray/\RHs w F H m cs vs
 | .nils,u=>u=.slice none 0 0
 | .sl id ver off len,u=>∃ ad cap,u=.slice (some ad) len cap/\(∃ fz e ek ver' xs,H[id]?=some (.row fz e ek ver' xs)/\ver<=ver') /\
    ∀ fz e ek xs,H[id]?=some (.row fz e ek ver xs)->off+len<=xs.length/\off+cap=(m id).cap/\len<=cap/\(cap≠0\/off=0->ad=⟨(m id).blk,off * j0 ek,none⟩)
 | .ptr id off,u=>u=.pointer (some ⟨(m id).blk,off,none⟩)/\∃ ek cs,H[id]?=some (.var ek cs)
 | .eptr id ver i off,u=>∃ ad,u=.pointer (some ad)/\(∃ fz e ek ver' xs,H[id]?=some (.row fz e ek ver' xs)/\ver<=ver') /\
    ∀ fz e ek xs,H[id]?=some (.row fz e ek ver xs)->ad=⟨(m id).blk,i * j0 ek+off,none⟩
 | .lbox _ _,_=>False
 | .fn f first cap,u=>∃ vs us:List Value,u=.func (.func f) vs.toArray us.toArray/\RHs w F H m first vs/\RHs w F H m cap us
 | .iface t x,u=>∃ y,u=.iface t y/\RH w F H m x y
 | .mapr id,u=>u=.map (some (m id).blk)/\∃ es ck,H[id]?=some (.mp es ck)
 | .skipv,u=>u=.tuple #[]
 | .undef,_=>True
def RHs (w:World) (F:Nat->Prop) (H:q7) (m:j7):List HV->List Value->Prop
 | [],vs=>vs=[]
 | c::r,vs=>∃ v us,vs=v::us/\RH w F H m c v/\RHs w F H m r us
end
structure Grows (F F':Nat->Prop) (H H':q7) (m m':j7) (w w':World):Prop where
 keeps:Keeps F F' w w'
 var:∀ (id:Nat) (ek:Option Nat) (cs:List HV),H[id]?=some (.var ek cs)->(m' id).blk=(m id).blk/\∃ cs',H'[id]?=some (.var ek cs')/\cs'.length=cs.length
 row:∀ (id:Nat) (fz:Bool) (e:Nat) (ek:Option Nat) (ver:Nat) (xs:List CV),H[id]?=some (.row fz e ek ver xs)->∃ fz' ver' xs',H'[id]?=some (.row fz' e ek ver' xs')/\ver<=ver'/\(ver'=ver->m' id=m id/\xs'.length=xs.length)
 mp:∀ (id:Nat) (es:List (CV×HV×Nat)) (ck:Nat),H[id]?=some (.mp es ck)->(m' id).blk=(m id).blk/\∃ es' ck',H'[id]?=some (.mp es' ck')
theorem Grows.refl (F:Nat->Prop) (H:q7) (m:j7) (w:World):Grows F F H H m m w w:=
 ⟨Keeps.refl F w,fun _ _ cs h=>⟨rfl,cs,h,rfl⟩,fun _ fz e ek ver xs h=>⟨fz,ver,xs,h,Nat.le_refl _,fun _=>⟨rfl,rfl⟩⟩,fun _ es ck h=>⟨rfl,es,ck,h⟩⟩
theorem Grows.trans {F F' F'':Nat->Prop} {H H' H'':q7} {m m' m'':j7} {w w' w'':World} (h:Grows F F' H H' m m' w w') (k:Grows F' F'' H' H'' m' m'' w' w''):Grows F F'' H H'' m m'' w w'':=by
 refine ⟨h.keeps.trans k.keeps,?_,?_,?_⟩
 . intro id ek cs hc;obtain ⟨h1,cs',h2,h3⟩:=h.var id ek cs hc;obtain ⟨k1,cs'',k2,k3⟩:=k.var id ek cs' h2;exact ⟨k1.trans h1,cs'',k2,k3.trans h3⟩
 . intro id fz e ek ver xs hc;obtain ⟨fz',ver',xs',h1,h2,h3⟩:=h.row id fz e ek ver xs hc;obtain ⟨fz'',ver'',xs'',k1,k2,k3⟩:=k.row id fz' e ek ver' xs' h1;refine ⟨fz'',ver'',xs'',k1,by omega,fun hv=>?_⟩;obtain ⟨k4,k5⟩:=k3 (by omega);obtain ⟨h4,h5⟩:=h3 (by omega);exact ⟨k4.trans h4,k5.trans h5⟩
 . intro id es ck hc;obtain ⟨h1,es',ck',h2⟩:=h.mp id es ck hc;obtain ⟨k1,es'',ck'',k2⟩:=k.mp id es' ck' h2;exact ⟨k1.trans h1,es'',ck'',k2⟩
mutual
theorem RH.grow {F F':Nat->Prop} {H H':q7} {m m':j7} {w w':World} (g:Grows F F' H H' m m' w w'):∀ (x:HV) (v:Value),RH w F H m x v->RH w' F' H' m' x v
 | .c x,v,h=>by unfold RH at h ⊢;exact RC.keep g.keeps x v h
 | .agg cs,_,h=>by
   unfold RH at h ⊢;obtain ⟨vs,h1,h2,h3⟩:=h;exact ⟨vs,h1,RHs.grow g cs vs h2,h3⟩
 | .tup cs,_,h=>by
   unfold RH at h ⊢;obtain ⟨vs,h1,h2⟩:=h;exact ⟨vs,h1,RHs.grow g cs vs h2⟩
 | .nils,_,h=>by unfold RH at h ⊢;exact h
 | .sl id ver off len,_,h=>by
   unfold RH at h ⊢;obtain ⟨ad,cap,h1,⟨fz,e,ek,ver',xs,hH,hv⟩,h3⟩:=h;obtain ⟨fz',ver'',xs',hH',hv',hsame⟩:=g.row id fz e ek ver' xs hH;refine ⟨ad,cap,h1,⟨fz',e,ek,ver'',xs',hH',by omega⟩,?_⟩;intro fz1 e1 ek1 xs1 h4;rw [hH'] at h4;injection h4 with h4;injection h4 with q1 q2 q3 q4 q5;subst q4;have hvv:ver'=ver'':=by omega
   subst hvv;obtain ⟨hm,hl⟩:=hsame rfl;obtain ⟨p1,p2,p3,p4⟩:=h3 fz e ek xs hH;rw [hm];subst q3;subst q5;exact ⟨by omega,p2,p3,p4⟩
 | .ptr id off,_,h=>by
   unfold RH at h ⊢;obtain ⟨h1,ek,cs,h2⟩:=h;obtain ⟨g1,cs',g2,_⟩:=g.var id ek cs h2;rw [g1];exact ⟨h1,ek,cs',g2⟩
 | .eptr id ver i off,_,h=>by
   unfold RH at h ⊢;obtain ⟨ad,h1,⟨fz,e,ek,ver',xs,hH,hv⟩,h3⟩:=h;obtain ⟨fz',ver'',xs',hH',hv',hsame⟩:=g.row id fz e ek ver' xs hH;refine ⟨ad,h1,⟨fz',e,ek,ver'',xs',hH',by omega⟩,?_⟩;intro fz1 e1 ek1 xs1 h4;rw [hH'] at h4;injection h4 with h4;injection h4 with q1 q2 q3 q4 q5;subst q4;have hvv:ver'=ver'':=by omega
   subst hvv;obtain ⟨hm,hl⟩:=hsame rfl;rw [hm,<-q3];exact h3 fz e ek xs hH
 | .lbox _ _,_,h=>by unfold RH at h;exact h.elim
 | .fn f first cap,_,h=>by
   unfold RH at h ⊢;obtain ⟨vs,us,h1,h2,h3⟩:=h;exact ⟨vs,us,h1,RHs.grow g first vs h2,RHs.grow g cap us h3⟩
 | .iface t x,_,h=>by
   unfold RH at h ⊢;obtain ⟨y,h1,h2⟩:=h;exact ⟨y,h1,RH.grow g x y h2⟩
 | .mapr id,_,h=>by
   unfold RH at h ⊢;obtain ⟨h1,es,ck,h2⟩:=h;obtain ⟨g1,es',ck',g2⟩:=g.mp id es ck h2;rw [g1];exact ⟨h1,es',ck',g2⟩
 | .skipv,_,h=>by unfold RH at h ⊢;exact h
 | .undef,_,_=>by unfold RH;exact trivial
theorem RHs.grow {F F':Nat->Prop} {H H':q7} {m m':j7} {w w':World} (g:Grows F F' H H' m m' w w'):∀ (xs:List HV) (vs:List Value),RHs w F H m xs vs->RHs w' F' H' m' xs vs
 | [],_,h=>by unfold RHs at h ⊢;exact h
 | c::r,_,h=>by
   unfold RHs at h ⊢;obtain ⟨v,us,h1,h2,h3⟩:=h;exact ⟨v,us,h1,RH.grow g c v h2,RHs.grow g r us h3⟩
end
end Go.Proofs.Lz
set_option linter.unusedSectionVars false
namespace Go.Proofs.Lz
variable [GlobTab]
def REnt (w:World) (F:Nat->Prop) (H:q7) (m:j7):List (CV×HV×Nat)->List MapEntry->Prop
 | [],l=>l=[]
 | (k,x,b)::r,l=>∃ e l',l=e::l'/\RC w F k e.key/\RH w F H m x e.val/\e.born=b/\REnt w F H m r l'
theorem REnt.grow {w w':World} {F F':Nat->Prop} {H H':q7} {m m':j7} (g:Grows F F' H H' m m' w w'):∀ (es:List (CV×HV×Nat)) (l:List MapEntry),REnt w F H m es l->REnt w' F' H' m' es l
 | [],_,h=>h
 | (_,_,_)::r,_,⟨e,l',h1,h2,h3,h4,h5⟩=>⟨e,l',h1,RC.keep g.keeps _ _ h2,RH.grow g _ _ h3,h4,REnt.grow g r l' h5⟩
structure RHeap (w:World) (F:Nat->Prop) (H:q7) (m:j7):Prop where
 there:∀ (id:Nat) (o:HO),H[id]?=some o->(m id).blk<w.heap.size
 fthere:∀ b,F b->b<w.heap.size
 var:∀ (id:Nat) (ek:Option Nat) (cs:List HV),H[id]?=some (.var ek cs)->¬ F (m id).blk/\∃ (vs:List Value) (e:Nat),w.heap[(m id).blk]?=some (.cells vs.toArray e (0,0))/\RHs w F H m cs vs/\∀ u∈vs,u.oneCell'=true
 ty:∀ (id:Nat) (ek:Option Nat) (cs:List HV) (T:Nat),H[id]?=some (.var ek cs)->R1 ek=some T->∃ vs,w.heap[(m id).blk]?=some (.cells vs T (0,0))
 row:∀ (id:Nat) (fz:Bool) (e:Nat) (ek:Option Nat) (ver:Nat) (xs:List CV),H[id]?=some (.row fz e ek ver xs)->∃ vs rest:List Value,(∃ q,w.heap[(m id).blk]?=some (.cells (vs++rest).toArray e q)/\(fz=false->q=(0,0)))/\RRow w F ek xs vs /\
  vs.length+rest.length=(m id).cap * j0 ek/\(m id).cap<=maxLen/\0<j0 ek/\(fz=true->F (m id).blk)/\(fz=false->¬ F (m id).blk)
 mp:∀ (id:Nat) (es:List (CV×HV×Nat)) (ck:Nat),H[id]?=some (.mp es ck)->¬ F (m id).blk/\∃ l:List MapEntry,w.heap[(m id).blk]?=some (.map l.toArray ck)/\REnt w F H m es l
 glob:Glob w F
 inj:∀ id id',id<H.length->id'<H.length->(m id).blk=(m id').blk->id=id'
structure RFr (fb N:Nat) (w:World) (F:Nat->Prop) (H:q7) (m:j7) (lb:Nat->Nat) (fr:Fr) (a:Act):Prop where
 size:N<=a.tmps.size
 defers:a.defers=[]
 val:∀ t,(∀ ek x,fr.env t≠.lbox ek x)->RH w F H m (fr.env t) (a.tmps.getD t undef)
 box:∀ t ek x,fr.env t=.lbox ek x->a.tmps.getD t undef=.pointer (some ⟨lb t,0,none⟩)/\fb<=lb t/\lb t<w.heap.size/\¬ F (lb t)/\(∀ id,id<H.length->(m id).blk≠lb t) /\
  (∀ t' ek' x',fr.env t'=.lbox ek' x'->lb t'=lb t->t'=t)/\s5 ek x=true/\∃ (v:Value) (e:Nat),w.heap[lb t]?=some (.cells v.cells e (0,0))/\Shape ek v/\RH w F H m x v
 link:∀ t b off,fr.al t=some (b,off)->∀ ek x,fr.env b=.lbox ek x->a.tmps.getD t undef=.pointer (some ⟨lb b,off,none⟩)
structure Stp (fb:Nat) (F F':Nat->Prop) (H H':q7) (m m':j7) (w w':World):Prop where
 g:Grows F F' H H' m m' w w'
 size:w.heap.size<=w'.heap.size
 os:w'.os=w.os
 tape:w'.tape=w.tape
 output:w'.output=w.output
 far:∀ b,b<fb->(∀ id,id<H.length->(m id).blk≠b)->w'.heap[b]?=w.heap[b]?/\(∀ id,id<H'.length->(m' id).blk≠b)/\(F' b->F b)
theorem Stp.refl (fb:Nat) (F:Nat->Prop) (H:q7) (m:j7) (w:World):Stp fb F F H H m m w w:=
 ⟨Grows.refl F H m w,Nat.le_refl _,rfl,rfl,rfl,fun _ _ h=>⟨rfl,h,id⟩⟩
theorem Stp.trans {fb:Nat} {F F' F'':Nat->Prop} {H H' H'':q7} {m m' m'':j7} {w w' w'':World} (h:Stp fb F F' H H' m m' w w') (k:Stp fb F' F'' H' H'' m' m'' w' w''):Stp fb F F'' H H'' m m'' w w'':=by
 refine ⟨h.g.trans k.g,Nat.le_trans h.size k.size,k.os.trans h.os,k.tape.trans h.tape,k.output.trans h.output,?_⟩;intro b hb hid;obtain ⟨h1,h2,h3⟩:=h.far b hb hid;obtain ⟨k1,k2,k3⟩:=k.far b hb h2;exact ⟨k1.trans h1,k2,fun hf=>h3 (k3 hf)⟩
theorem Stp.mono {fb fb':Nat} {F F':Nat->Prop} {H H':q7} {m m':j7} {w w':World} (h:Stp fb' F F' H H' m m' w w') (hle:fb<=fb'):Stp fb F F' H H' m m' w w':=
 ⟨h.g,h.size,h.os,h.tape,h.output,fun b hb=>h.far b (Nat.lt_of_lt_of_le hb hle)⟩
theorem Stp.drawn (fb:Nat) (F:Nat->Prop) (H:q7) (m:j7) (w:World) (n:Nat):Stp fb F F H H m m w { w with drawn:=n }:=
 ⟨⟨Keeps.of (fun _ h=>h) (fun _ _=>rfl),fun _ _ cs h=>⟨rfl,cs,h,rfl⟩,fun _ fz e ek ver xs h=>⟨fz,ver,xs,h,Nat.le_refl _,fun _=>⟨rfl,rfl⟩⟩,fun _ es ck h=>⟨rfl,es,ck,h⟩⟩,Nat.le_refl _,rfl,rfl,rfl,fun _ _ h=>⟨rfl,h,id⟩⟩
theorem RFr.step {fb N:Nat} {w w':World} {F F':Nat->Prop} {H H':q7} {m m':j7} {lb:Nat->Nat} {fr:Fr} {a:Act} (h:RFr fb N w F H m lb fr a) (s:Stp w.heap.size F F' H H' m m' w w'):RFr fb N w' F' H' m' lb fr a:=by
 refine ⟨h.size,h.defers,fun t ht=>RH.grow s.g _ _ (h.val t ht),?_,h.link⟩;intro t ek x hx;obtain ⟨h1,h2,h3,h4,h5,h6,hft,v,e,h7,h8,h9⟩:=h.box t ek x hx;obtain ⟨k1,k2,k3⟩:=s.far (lb t) h3 h5;exact ⟨h1,h2,Nat.lt_of_lt_of_le h3 s.size,fun hf=>h4 (k3 hf),k2,h6,hft,v,e,k1.trans h7,h8,RH.grow s.g _ _ h9⟩
theorem P3 {a:Array Value} {d t:Nat} {u:Value}:(a.setIfInBounds d u).getD t undef=if t=d/\d<a.size then u else a.getD t undef:=by
 simp only [Array.getD_eq_getD_getElem?,Array.getElem?_setIfInBounds];by_cases hd:d=t
 . subst hd;by_cases hs:d<a.size
   . simp [hs]
   . simp [hs]
 . rw [if_neg hd,if_neg (fun q=>hd q.1.symm)]
theorem RFr.put {fb N:Nat} {w:World} {F:Nat->Prop} {H:q7} {m:j7} {lb:Nat->Nat} {fr:Fr} {a:Act} (h:RFr fb N w F H m lb fr a) (dst:Option Nat) (hd:∀ d,dst=some d->d<N) {v:HV} {u:Value} (hv:RH w F H m v u) (hb:∀ ek x,v≠.lbox ek x):RFr fb N w F H m lb (fr.put dst v) (a.put dst u):=by
 cases dst with
 | none=>exact h
 | some d=>
   have hdN:=hd d rfl;have hds:d<a.tmps.size:=Nat.lt_of_lt_of_le hdN h.size;refine ⟨by simpa [Act.put] using h.size,h.defers,?_,?_,?_⟩
   . intro t ht;simp only [Fr.put,Act.put,upd] at ht ⊢;rw [P3];by_cases e:t=d
     . rw [if_pos e,if_pos ⟨e,hds⟩];exact hv
     . rw [if_neg e] at ht ⊢;rw [if_neg (fun q=>e q.1)];exact h.val t ht
   . intro t ek x hx;simp only [Fr.put,Act.put,upd] at hx ⊢;by_cases e:t=d
     . rw [if_pos e] at hx;exact absurd hx (hb ek x)
     . rw [if_neg e] at hx;obtain ⟨h1,h2,h3,h4,h5,h6,h7⟩:=h.box t ek x hx;rw [P3,if_neg (fun q=>e q.1)];refine ⟨h1,h2,h3,h4,h5,?_,h7⟩;intro t' ek' x' hx';by_cases e':t'=d
       . rw [if_pos e'] at hx';exact absurd hx' (hb ek' x')
       . rw [if_neg e'] at hx';exact h6 t' ek' x' hx'
   . intro t b off hl ek x hx;simp only [Fr.put,Act.put,upd] at hl hx ⊢;by_cases e:t=d
     . rw [if_pos e] at hl;cases hl
     . rw [if_neg e] at hl;rw [P3,if_neg (fun q=>e q.1)];by_cases e':b=d
       . rw [if_pos e'] at hx;exact absurd hx (hb ek x)
       . rw [if_neg e'] at hx;exact h.link t b off hl ek x hx
theorem RFr.link' {fb N:Nat} {w:World} {F:Nat->Prop} {H:q7} {m:j7} {lb:Nat->Nat} {fr:Fr} {a:Act} (h:RFr fb N w F H m lb fr a) (dst:Option Nat) (hd:∀ d,dst=some d->d<N) {b off:Nat} {u:Value} (hne:dst≠some b)
 (hu:∀ ek x,fr.env b=.lbox ek x->u=.pointer (some ⟨lb b,off,none⟩)):RFr fb N w F H m lb (fr.link dst b off) (a.put dst u):=by
 cases dst with
 | none=>exact h
 | some d=>
   have hdN:=hd d rfl;have hds:d<a.tmps.size:=Nat.lt_of_lt_of_le hdN h.size;refine ⟨by simpa [Act.put] using h.size,h.defers,?_,?_,?_⟩
   . intro t ht;simp only [Fr.link,Act.put,upd] at ht ⊢;rw [P3];by_cases e:t=d
     . rw [if_pos e];unfold RH;exact trivial
     . rw [if_neg e] at ht ⊢;rw [if_neg (fun q=>e q.1)];exact h.val t ht
   . intro t ek x hx;simp only [Fr.link,Act.put,upd] at hx ⊢;by_cases e:t=d
     . rw [if_pos e] at hx;cases hx
     . rw [if_neg e] at hx;obtain ⟨h1,h2,h3,h4,h5,h6,h7⟩:=h.box t ek x hx;rw [P3,if_neg (fun q=>e q.1)];refine ⟨h1,h2,h3,h4,h5,?_,h7⟩;intro t' ek' x' hx';by_cases e':t'=d
       . rw [if_pos e'] at hx';cases hx'
       . rw [if_neg e'] at hx';exact h6 t' ek' x' hx'
   . intro t b' off' hl ek x hx;simp only [Fr.link,Act.put,upd] at hl hx ⊢;have hbd:¬ b'=d:=by
      intro e';rw [if_pos e'] at hx;cases hx
     rw [if_neg hbd] at hx;by_cases e:t=d
     . rw [if_pos e] at hl;injection hl with hl;injection hl with q1 q2;subst q1;subst q2;rw [P3,if_pos ⟨e,hds⟩];exact hu ek x hx
     . rw [if_neg e] at hl;rw [P3,if_neg (fun q=>e q.1)];exact h.link t b' off' hl ek x hx
theorem dT {w:World} {F:Nat->Prop}:∀ {v:Value} {c:CV},i6 v=some c->RC w F c v:=by
 intro v c h;cases v with
 | bool b=>simp [i6] at h;subst h;unfold RC;rfl
 | int k n=>simp [i6] at h;subst h;unfold RC;rfl
 | string s=>simp [i6] at h;subst h;unfold RC;simp
 | pointer a=>cases a with
   | none=>simp [i6] at h;subst h;unfold RC;rfl
   | some a=>simp [i6] at h
 | slice a n c=>cases a with
   | none=>cases n with
     | zero=>cases c with
       | zero=>simp [i6] at h;subst h;unfold RC;exact ⟨none,0,rfl,Nat.le_refl _,fun hh=>absurd rfl hh⟩
       | succ c=>simp [i6] at h
     | succ n=>simp [i6] at h
   | some a=>simp [i6] at h
 | nilFunc=>simp [i6] at h;subst h;unfold RC;rfl
 | nilIface=>simp [i6] at h;subst h;unfold RC;rfl
 | map r=>cases r with
   | none=>simp [i6] at h;subst h;unfold RC;rfl
   | some r=>simp [i6] at h
 | _=>simp [i6] at h
theorem rN:∀ {v:Value} {c:CV},i6 v=some c->v.oneCell'=true:=by
 intro v c h;cases v<;>first | rfl | simp [i6] at h
theorem nN {w:World} {F:Nat->Prop} {H:q7} {m:j7} {v:Value} {x:HV} (h:wI v=some x):RH w F H m x v/\v.oneCell'=true/\∀ ek y,x≠.lbox ek y:=by
 unfold wI at h;split at h
 . injection h with h;subst h;exact ⟨by unfold RH;rfl,rfl,fun _ _=>by simp⟩
 . cases hc:i6 v with
   | none=>rw [hc] at h;cases h
   | some c=>rw [hc] at h;injection h with h;subst h;exact ⟨by unfold RH;exact dT hc,rN hc,fun _ _=>by simp⟩
theorem uT {w:World} {F:Nat->Prop} {H:q7} {m:j7}:∀ {vs:List Value} {xs:List HV},Q0 vs=some xs->RHs w F H m xs vs/\∀ u∈vs,u.oneCell'=true:=by
 intro vs;induction vs with
 | nil=>intro xs h;simp [Q0] at h;subst h;exact ⟨by unfold RHs;rfl,by simp⟩
 | cons v vs ih=>
   intro xs h;unfold Q0 at h;cases h1:wI v with
   | none=>rw [h1] at h;cases h
   | some a=>
     cases h2:Q0 vs with
     | none=>rw [h1,h2] at h;cases h
     | some b=>
       rw [h1,h2] at h;injection h with h;subst h;obtain ⟨k1,k2,k3⟩:=nN (w:=w) (F:=F) (H:=H) (m:=m) h1;obtain ⟨k4,k5⟩:=ih h2;refine ⟨by unfold RHs;exact ⟨v,vs,rfl,k1,k4⟩,?_⟩;intro u hu;rcases List.mem_cons.1 hu with rfl | hu
       . exact k2
       . exact k5 u hu
theorem bB {w:World} {F:Nat->Prop} {H:q7} {m:j7}:∀ {cs:List HV} {l:List CV} {vs:List Value},d6 cs=some l->RHs w F H m cs vs->RCs w F l vs:=by
 intro cs;induction cs with
 | nil=>intro l vs h hr;simp [d6] at h;subst h;unfold RHs at hr;unfold RCs;exact hr
 | cons c cs ih=>
   intro l vs h hr;cases c with
   | c x=>
     unfold d6 at h;cases hc:d6 cs with
     | none=>rw [hc] at h;cases h
     | some l'=>
       rw [hc] at h;injection h with h;subst h;unfold RHs at hr;obtain ⟨v,us,h1,h2,h3⟩:=hr;unfold RCs;unfold RH at h2;exact ⟨v,us,h1,h2,ih hc h3⟩
   | _=>simp [d6] at h
theorem jI {w:World} {F:Nat->Prop} {H:q7} {m:j7} {cs:List HV} {vs:List Value} (h:RHs w F H m cs vs) (h1:∀ u∈vs,u.oneCell'=true):RH w F H m (I1 cs) (.agg vs.toArray):=by
 unfold I1;cases hc:d6 cs with
 | none=>dsimp only;unfold RH;exact ⟨vs,rfl,h,h1⟩
 | some l=>dsimp only;unfold RH RC;exact ⟨vs,rfl,bB hc h,h1⟩
theorem vB (cs:List HV):∀ ek x,I1 cs≠.lbox ek x:=by
 intro ek x;unfold I1;split<;>simp
theorem xB {w:World} {F:Nat->Prop} {H:q7} {m:j7} {v:Value} {x:HV} (h:Y8 v=some x):RH w F H m x v/\∀ ek y,x≠.lbox ek y:=by
 unfold Y8 at h;split at h
 . rename_i cs;cases hc:Q0 cs.toList with
   | none=>rw [hc] at h;cases h
   | some l=>
     rw [hc] at h;injection h with h;subst h;obtain ⟨k1,k2⟩:=uT (w:=w) (F:=F) (H:=H) (m:=m) hc;have:=jI k1 k2;refine ⟨by simpa using this,vB l⟩
 . obtain ⟨k1,_,k3⟩:=nN (w:=w) (F:=F) (H:=H) (m:=m) h;exact ⟨k1,k3⟩
theorem j9 {fb N:Nat} {w:World} {F:Nat->Prop} {H:q7} {m:j7} {lb:Nat->Nat} {fr:Fr} {a:Act} (h:RFr fb N w F H m lb fr a) {x:Operand} {ix:Opd} (hx:j5 x=some ix):RH w F H m (fr.opd ix) (a.eval x)/\∀ ek y,fr.opd ix≠.lbox ek y:=by
 cases x with
 | tmp t=>
   simp [j5] at hx;subst hx;simp only [Fr.opd,Act.eval];cases he:fr.env t with
   | lbox ek y=>simp only [r7];exact ⟨by unfold RH;exact trivial,fun _ _=>by simp⟩
   | _=>
     have:=h.val t (by intro ek y hh;rw [he] at hh;cases hh);rw [he] at this;exact ⟨this,fun _ _=>by simp [r7]⟩
 | const v=>
   simp only [j5,Option.map_eq_some_iff] at hx;obtain ⟨y,hy,rfl⟩:=hx;exact xB hy
 | func f=>
   simp [j5] at hx;subst hx;simp only [Fr.opd,Act.eval];exact ⟨by unfold RH RC;exact ⟨[],[],rfl,by unfold RCs;rfl,by unfold RCs;rfl⟩,fun _ _=>by simp⟩
 | global g=>simp [j5] at hx
theorem jY {fb N:Nat} {w:World} {F:Nat->Prop} {H:q7} {m:j7} {lb:Nat->Nat} {fr:Fr} {a:Act} (h:RFr fb N w F H m lb fr a):∀ {xs:List Operand} {ixs:List Opd},G2 xs=some ixs->RHs w F H m (ixs.map fr.opd) (xs.map a.eval):=by
 intro xs;induction xs with
 | nil=>intro ixs hx;simp [G2] at hx;subst hx;unfold RHs;rfl
 | cons x xs ih=>
   intro ixs hx;unfold G2 at hx;cases h1:j5 x with
   | none=>rw [h1] at hx;cases hx
   | some p=>
     cases h2:G2 xs with
     | none=>rw [h1,h2] at hx;cases hx
     | some q=>
       rw [h1,h2] at hx;injection hx with hx;subst hx;simp only [List.map_cons];unfold RHs;exact ⟨_,_,rfl,(j9 h h1).1,ih h2⟩
theorem jT {fb N:Nat} {w:World} {F:Nat->Prop} {H:q7} {m:j7} {lb:Nat->Nat} {fr:Fr} {a:Act} (h:RFr fb N w F H m lb fr a) {x:Operand} {ix:Opd} (hx:j5 x=some ix) {b off:Nat} (hp:fr.place ix=some (b,off)):(∃ ek y,fr.env b=.lbox ek y)/\a.eval x=.pointer (some ⟨lb b,off,none⟩):=by
 cases x with
 | tmp t=>
   simp [j5] at hx;subst hx;simp only [Fr.place] at hp;cases ha:fr.al t with
   | some p=>
     rw [ha] at hp;obtain ⟨b',off'⟩:=p;dsimp only at hp;cases he:fr.env b' with
     | lbox ek y=>
       rw [he] at hp;injection hp with hp;injection hp with q1 q2;subst q1;subst q2;exact ⟨⟨ek,y,he⟩,h.link t b' off' ha ek y he⟩
     | _=>rw [he] at hp;cases hp
   | none=>
     rw [ha] at hp;dsimp only at hp;cases he:fr.env t with
     | lbox ek' y'=>
       rw [he] at hp;injection hp with hp;injection hp with q1 q2;subst q1;subst q2;exact ⟨⟨ek',y',he⟩,(h.box t ek' y' he).1⟩
     | _=>rw [he] at hp;cases hp
 | const v=>
   simp only [j5,Option.map_eq_some_iff] at hx;obtain ⟨z,hz,rfl⟩:=hx;simp [Fr.place] at hp
 | func f=>simp [j5] at hx;subst hx;simp [Fr.place] at hp
 | global g=>simp [j5] at hx
end Go.Proofs.Lz
