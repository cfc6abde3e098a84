/- Operations that write memory: boxes and stores. -/
import Derived.Test.YtlimfobeoodkjaaGreatDoorLzOps4
import Derived.Laws.CopyRow
set_option linter.unusedVariables false
set_option linter.unusedSimpArgs false
set_option linter.unusedSectionVars false
namespace Go.Proofs.Lz
variable [GlobTab]
section
variable {P:Program} {fb N:Nat} {w:World} {F:Nat->Prop} {H:q7} {m:j7} {lb:Nat->Nat} {fr:Fr} {a:Act} {o:Oper}
variable {K:Act->World->Prop} {Q:Exit->Act->World->Prop}
theorem RHeap.same {w':World} {F':Nat->Prop} {m':j7} (h:RHeap w F H m) (g:Grows F F' H H m m' w w') (hm:∀ id,id<H.length->m' id=m id) (hb:∀ id,id<H.length->w'.heap[(m id).blk]?=w.heap[(m id).blk]?) (hsz:w.heap.size<=w'.heap.size)
 (hF:∀ b,F' b->F b\/(b<w'.heap.size/\∀ id,id<H.length->(m id).blk≠b)):RHeap w' F' H m':=by
 have hlt:∀ (id:Nat) (o:HO),H[id]?=some o->id<H.length:=fun id o ho=>(gEs ho).1;refine ⟨?_,?_,?_,?_,?_,?_,h.glob.keep g.keeps,?_⟩
 . intro id o ho;rw [hm id (hlt id o ho)];exact Nat.lt_of_lt_of_le (h.there id o ho) hsz
 . intro b hb';rcases hF b hb' with h1 | h1
   . exact Nat.lt_of_lt_of_le (h.fthere b h1) hsz
   . exact h1.1
 . intro id ek cs ho;have hl:=hlt id _ ho;obtain ⟨h1,vs,e,h2,h3,h4⟩:=h.var id ek cs ho;rw [hm id hl];refine ⟨fun hf=>?_,vs,e,(hb id hl).trans h2,RHs.grow g cs vs h3,h4⟩;rcases hF _ hf with h5 | h5
   . exact h1 h5
   . exact h5.2 id hl rfl
 . intro id ek cs T ho hT;have hl:=hlt id _ ho;rw [hm id hl];exact (h.ty id ek cs T ho hT).imp fun vs k=>(hb id hl).trans k
 . intro id fz e ek ver xs ho;have hl:=hlt id _ ho;obtain ⟨vs,rest,h1,h2,h3,h4,h5,h6,h7⟩:=h.row id fz e ek ver xs ho;rw [hm id hl];refine ⟨vs,rest,h1.imp fun q k=>⟨(hb id hl).trans k.1,k.2⟩,RRow.keep g.keeps ek xs vs h2,h3,h4,h5,fun hf=>g.keeps.1 _ (h6 hf),fun hf hF'=>?_⟩;rcases hF _ hF' with h8 | h8
   . exact h7 hf h8
   . exact h8.2 id hl rfl
 . intro id es ck ho;have hl:=hlt id _ ho;obtain ⟨h1,l,h2,h3⟩:=h.mp id es ck ho;rw [hm id hl];refine ⟨fun hf=>?_,l,(hb id hl).trans h2,REnt.grow g _ _ h3⟩;rcases hF _ hf with h5 | h5
   . exact h1 h5
   . exact h5.2 id hl rfl
 . intro id id' h1 h2 he;rw [hm id h1,hm id' h2] at he;exact h.inj id id' h1 h2 he
theorem A6 (o:Obj):(w.alloc o).heap.size=w.heap.size+1:=by
 show (w.heap.push o).size=_;simp
theorem uZ (hF:∀ b,F b->b<w.heap.size) (o:Obj):Keeps F F w (w.alloc o):=Keeps.of (fun _ h=>h) (fun b hb=>heap_alloc_old w o b (hF b hb))
theorem sB (hF:∀ b,F b->b<w.heap.size) (o:Obj):Grows F F H H m m w (w.alloc o):=
 ⟨uZ hF o,fun _ _ cs h=>⟨rfl,cs,h,rfl⟩,fun _ fz e ek ver xs h=>⟨fz,ver,xs,h,Nat.le_refl _,fun _=>⟨rfl,rfl⟩⟩,fun _ es ck h=>⟨rfl,es,ck,h⟩⟩
theorem zj9 (hF:∀ b,F b->b<w.heap.size) (o:Obj):Stp w.heap.size F F H H m m w (w.alloc o):=
 ⟨sB hF o,by rw [A6];omega,rfl,rfl,rfl,fun b hb hid=>⟨heap_alloc_old w o b hb,hid,id⟩⟩
theorem iI (h:RHeap w F H m) (o:Obj):RHeap (w.alloc o) F H m:=
 h.same (sB h.fthere o) (fun _ _=>rfl) (fun id hid=>heap_alloc_old w o _ (by
  obtain ⟨o',ho'⟩:∃ o',H[id]?=some o':=⟨H[id],gEg hid⟩;exact h.there id o' ho')) (by rw [A6];omega) (fun b hb=>.inl hb)
theorem mI {t:TypeId} {ek:Option Nat} {ix:Opd} {v:Value} (hrun:(execOp a.eval o).run P w=.ok (.value (.pointer (some ⟨w.heap.size,0,none⟩))) (w.alloc (.cells v.cells t (0,0)))) (hv:RH w F H m (fr.opd ix) v)
 (hs:RS fb N w F H m lb fr a) (hN:∀ d,o.dst=some d->d<N)
 {fr':Fr} {H':q7} (hd:q9 (.lbox ek ix) o.dst fr H=some (fr',H')) (h:Next fb N w F H m fr' H' K):o.wp P a w K Q:=by
 unfold q9 at hd;dsimp only at hd;cases hdst:o.dst with
 | none=>rw [hdst] at hd;cases hd
 | some d=>
   rw [hdst] at hd;dsimp only at hd;split at hd
   . rename_i hft;injection hd with hd;injection hd with q1 q2;subst q1;subst q2;unfold Oper.wp;rw [hrun];show K (a.put o.dst _) _;rw [hdst];have hst:=zj9 (H:=H) (m:=m) hs.heap.fthere (.cells v.cells t (0,0));have hfr:=hs.fr.step hst;have hdN:=hN d hdst;have hds:d<a.tmps.size:=Nat.lt_of_lt_of_le hdN hs.fr.size;refine h F m (upd lb d w.heap.size) _ _ (hst.mono hs.fb) ⟨iI hs.heap _,?_,by rw [A6];have:=hs.fb;omega⟩;refine ⟨by simpa [Act.put] using hs.fr.size,hs.fr.defers,?_,?_,?_⟩
     . intro t' ht';simp only [upd,Act.put] at ht' ⊢;rw [P3];by_cases e:t'=d
       . rw [if_pos e] at ht';exact absurd rfl (ht' _ _)
       . rw [if_neg e] at ht' ⊢;rw [if_neg (fun q=>e q.1)];exact hfr.val t' ht'
     . intro t' ek' x hx;simp only [upd,Act.put] at hx ⊢;rw [P3];by_cases e:t'=d
       . rw [if_pos e] at hx;injection hx with z1 z2;subst z1;subst z2;rw [if_pos ⟨e,hds⟩,if_pos e];obtain ⟨hsh,_,_⟩:=V2 hft hv;refine ⟨rfl,hs.fb,by rw [A6];omega,fun hf=>Nat.lt_irrefl _ (hs.heap.fthere _ hf),?_,?_,hft,v,t,heap_alloc_new w _,hsh,RH.grow hst.g _ _ hv⟩
         . intro id hid hb;obtain ⟨o',ho'⟩:∃ o',H[id]?=some o':=⟨H[id],gEg hid⟩;have:=hs.heap.there id o' ho';omega
         . intro t'' ek'' x'' hx'' hl;by_cases e':t''=d
           . rw [e',e]
           . exfalso;rw [if_neg e'] at hx'' hl;have:=(hs.fr.box t'' ek'' x'' hx'').2.2.1;omega
       . rw [if_neg e] at hx ⊢;rw [if_neg (fun q=>e q.1)];obtain ⟨h1,h2,h3,h4,h5,h6,h7⟩:=hfr.box t' ek' x hx;refine ⟨h1,h2,h3,h4,h5,?_,h7⟩;intro t'' ek'' x'' hx'' hl;by_cases e':t''=d
         . exfalso;rw [if_pos e'] at hl;have:=(hs.fr.box t' ek' x hx).2.2.1;omega
         . rw [if_neg e'] at hx'' hl;exact h6 t'' ek'' x'' hx'' hl
     . intro t' b off hl ek' x hx;simp only [unlink,upd,Act.put] at hl hx ⊢;rw [P3];by_cases e:t'=d
       . rw [if_pos e] at hl;cases hl
       . rw [if_neg e] at hl;rw [if_neg (fun q=>e q.1)];cases ha:fr.al t' with
         | none=>rw [ha] at hl;cases hl
         | some p=>
           obtain ⟨b',off'⟩:=p;rw [ha] at hl;dsimp only at hl;split at hl
           . cases hl
           . rename_i hbd;injection hl with hl;injection hl with q1 q2;subst q1;subst q2;rw [if_neg hbd] at hx ⊢;exact hs.fr.link t' b' off' ha ek' x hx
   . cases hd
theorem getElem?_append_new {α:Type} (l:List α) (x:α) (i:Nat) (y:α) (h:(l++[x])[i]?=some y):(l[i]?=some y/\i<l.length)\/(i=l.length/\y=x):=by
 by_cases hi:i<l.length
 . rw [List.getElem?_append_left hi] at h;exact .inl ⟨h,hi⟩
 . rw [List.getElem?_append_right (by omega)] at h;have hz:i - l.length=0:=by
    cases hq:i - l.length with
    | zero=>rfl
    | succ n=>rw [hq] at h;simp at h
   rw [hz] at h;simp at h;exact .inr ⟨by omega,h.symm⟩
theorem qF (hh:RHeap w F H m) (ob:Obj) (ho:HO) (cap:Nat):Stp w.heap.size F F H (H++[ho]) m (upd m H.length ⟨w.heap.size,cap⟩) w (w.alloc ob):=by
 have hold:∀ id,id<H.length->upd m H.length ⟨w.heap.size,cap⟩ id=m id:=fun id hid=>by simp [upd,Nat.ne_of_lt hid]
 refine ⟨⟨uZ hh.fthere ob,?_,?_,?_⟩,by rw [A6];omega,rfl,rfl,rfl,?_⟩
 . intro id ek cs hc;have hl:=(gEs hc).1;exact ⟨by rw [hold id hl],cs,by rw [List.getElem?_append_left hl];exact hc,rfl⟩
 . intro id fz e ek ver xs hc;have hl:=(gEs hc).1;exact ⟨fz,ver,xs,by rw [List.getElem?_append_left hl];exact hc,Nat.le_refl _,fun _=>⟨hold id hl,rfl⟩⟩
 . intro id es ck hc;have hl:=(gEs hc).1;exact ⟨by rw [hold id hl],es,ck,by rw [List.getElem?_append_left hl];exact hc⟩
 . intro b hb hid;refine ⟨heap_alloc_old w ob b hb,?_,id⟩;intro id hl;rw [List.length_append,List.length_singleton] at hl;by_cases hi:id<H.length
   . rw [hold id hi];exact hid id hi
   . have:id=H.length:=by omega
     subst this;simp only [upd,if_true];omega
theorem bP (hh:RHeap w F H m) {vs:List Value} {e:Nat} {ho:HO} {cap:Nat}
 (hv:∀ ek cs,ho=.var ek cs->(RHs (w.alloc (.cells vs.toArray e (0,0))) F (H++[ho]) (upd m H.length ⟨w.heap.size,cap⟩) cs vs/\∀ u∈vs,u.oneCell'=true)/\∀ T,R1 ek=some T->e=T)
 (hr:∀ fz e' ek ver xs,ho=.row fz e' ek ver xs->fz=false/\e'=e/\∃ us rest:List Value,vs=us++rest/\RRow (w.alloc (.cells vs.toArray e (0,0))) F ek xs us/\us.length+rest.length=cap * j0 ek/\cap<=maxLen/\0<j0 ek)
 (hmp:∀ es ck,ho≠.mp es ck:=by intro es ck h;cases h) :
 RHeap (w.alloc (.cells vs.toArray e (0,0))) F (H++[ho]) (upd m H.length ⟨w.heap.size,cap⟩):=by
 have hold:∀ id,id<H.length->upd m H.length ⟨w.heap.size,cap⟩ id=m id:=fun id hid=>by simp [upd,Nat.ne_of_lt hid]
 have hnew:upd m H.length (⟨w.heap.size,cap⟩:Loc) H.length=⟨w.heap.size,cap⟩:=by simp [upd]
 have hst:=qF hh (.cells vs.toArray e (0,0)) ho cap;have hlt:∀ id,id<H.length->(m id).blk<w.heap.size:=fun id hid=>hh.there id H[id] (gEg hid);refine ⟨?_,?_,?_,?_,?_,?_,hh.glob.keep hst.g.keeps,?_⟩
 . intro id o' ho';rcases getElem?_append_new H ho id o' ho' with ⟨h1,h2⟩ | ⟨h1,h2⟩
   . rw [hold id h2,A6];have:=hlt id h2;omega
   . subst h1;rw [hnew,A6];show w.heap.size<_;omega
 . intro b hb;rw [A6];have:=hh.fthere b hb;omega
 . intro id ek cs ho';rcases getElem?_append_new H ho id _ ho' with ⟨h1,h2⟩ | ⟨h1,h2⟩
   . obtain ⟨k1,vs',e',k2,k3,k4⟩:=hh.var id ek cs h1;rw [hold id h2];exact ⟨k1,vs',e',(heap_alloc_old w _ _ (hlt id h2)).trans k2,RHs.grow hst.g _ _ k3,k4⟩
   . subst h1;obtain ⟨⟨k1,k2⟩,_⟩:=hv ek cs h2.symm;rw [hnew];exact ⟨fun hf=>Nat.lt_irrefl _ (hh.fthere _ hf),vs,e,heap_alloc_new w _,k1,k2⟩
 . intro id ek cs T ho' hT;rcases getElem?_append_new H ho id _ ho' with ⟨h1,h2⟩ | ⟨h1,h2⟩
   . rw [hold id h2];exact (hh.ty id ek cs T h1 hT).imp fun vs k=>(heap_alloc_old w _ _ (hlt id h2)).trans k
   . subst h1;obtain ⟨_,k⟩:=hv ek cs h2.symm;cases k T hT;rw [hnew];exact ⟨_,heap_alloc_new w _⟩
 . intro id fz e' ek ver xs ho';rcases getElem?_append_new H ho id _ ho' with ⟨h1,h2⟩ | ⟨h1,h2⟩
   . obtain ⟨us,rest,k1,k2,k3,k4,k5,k6,k7⟩:=hh.row id fz e' ek ver xs h1;rw [hold id h2];exact ⟨us,rest,k1.imp fun q k=>⟨(heap_alloc_old w _ _ (hlt id h2)).trans k.1,k.2⟩,RRow.keep hst.g.keeps _ _ _ k2,k3,k4,k5,k6,k7⟩
   . subst h1;obtain ⟨k0,k1,us,rest,k2,k3,k4,k5,k6⟩:=hr fz e' ek ver xs h2.symm;subst k0;subst k1;subst k2;rw [hnew];exact ⟨us,rest,⟨_,heap_alloc_new w _,fun _=>rfl⟩,k3,k4,k5,k6,(fun hf=>by cases hf),fun _ hf=>Nat.lt_irrefl _ (hh.fthere _ hf)⟩
 . intro id es ck ho';rcases getElem?_append_new H ho id _ ho' with ⟨h1,h2⟩ | ⟨h1,h2⟩
   . obtain ⟨k1,l,k2,k3⟩:=hh.mp id es ck h1;rw [hold id h2];exact ⟨k1,l,(heap_alloc_old w _ _ (hlt id h2)).trans k2,REnt.grow hst.g _ _ k3⟩
   . exact absurd h2.symm (hmp es ck)
 . intro id id' h1 h2 he;rw [List.length_append,List.length_singleton] at h1 h2;by_cases hi:id<H.length
   . by_cases hi':id'<H.length
     . rw [hold id hi,hold id' hi'] at he;exact hh.inj id id' hi hi' he
     . have:id'=H.length:=by omega
       subst this;rw [hold id hi,hnew] at he;have:=hlt id hi;simp only at he;omega
   . have:id=H.length:=by omega
     subst this;by_cases hi':id'<H.length
     . rw [hold id' hi',hnew] at he;have:=hlt id' hi';simp only at he;omega
     . omega
theorem eN (hh:RHeap w F H m):RHeap (w.alloc (.map #[] 0)) F (H++[.mp [] 0]) (upd m H.length ⟨w.heap.size,0⟩):=by
 have hold:∀ id,id<H.length->upd m H.length ⟨w.heap.size,0⟩ id=m id:=fun id hid=>by simp [upd,Nat.ne_of_lt hid]
 have hnew:upd m H.length (⟨w.heap.size,0⟩:Loc) H.length=⟨w.heap.size,0⟩:=by simp [upd]
 have hst:=qF hh (.map #[] 0) (.mp [] 0) 0;have hlt:∀ id,id<H.length->(m id).blk<w.heap.size:=fun id hid=>hh.there id H[id] (gEg hid);refine ⟨?_,?_,?_,?_,?_,?_,hh.glob.keep hst.g.keeps,?_⟩
 . intro id o' ho';rcases getElem?_append_new H _ id o' ho' with ⟨h1,h2⟩ | ⟨h1,h2⟩
   . rw [hold id h2,A6];have:=hlt id h2;omega
   . subst h1;rw [hnew,A6];show w.heap.size<_;omega
 . intro b hb;rw [A6];have:=hh.fthere b hb;omega
 . intro id ek cs ho';rcases getElem?_append_new H _ id _ ho' with ⟨h1,h2⟩ | ⟨h1,h2⟩
   . obtain ⟨k1,vs',e',k2,k3,k4⟩:=hh.var id ek cs h1;rw [hold id h2];exact ⟨k1,vs',e',(heap_alloc_old w _ _ (hlt id h2)).trans k2,RHs.grow hst.g _ _ k3,k4⟩
   . cases h2
 . intro id ek cs T ho' hT;rcases getElem?_append_new H _ id _ ho' with ⟨h1,h2⟩ | ⟨h1,h2⟩
   . rw [hold id h2];exact (hh.ty id ek cs T h1 hT).imp fun vs k=>(heap_alloc_old w _ _ (hlt id h2)).trans k
   . cases h2
 . intro id fz e' ek ver xs ho';rcases getElem?_append_new H _ id _ ho' with ⟨h1,h2⟩ | ⟨h1,h2⟩
   . obtain ⟨us,rest,k1,k2,k3,k4,k5,k6,k7⟩:=hh.row id fz e' ek ver xs h1;rw [hold id h2];exact ⟨us,rest,k1.imp fun q k=>⟨(heap_alloc_old w _ _ (hlt id h2)).trans k.1,k.2⟩,RRow.keep hst.g.keeps _ _ _ k2,k3,k4,k5,k6,k7⟩
   . cases h2
 . intro id es ck ho';rcases getElem?_append_new H _ id _ ho' with ⟨h1,h2⟩ | ⟨h1,h2⟩
   . obtain ⟨k1,l,k2,k3⟩:=hh.mp id es ck h1;rw [hold id h2];exact ⟨k1,l,(heap_alloc_old w _ _ (hlt id h2)).trans k2,REnt.grow hst.g _ _ k3⟩
   . subst h1;injection h2 with z1 z2;subst z1;subst z2;rw [hnew];exact ⟨fun hf=>Nat.lt_irrefl _ (hh.fthere _ hf),[],heap_alloc_new w _,rfl⟩
 . intro id id' h1 h2 he;rw [List.length_append,List.length_singleton] at h1 h2;by_cases hi:id<H.length
   . by_cases hi':id'<H.length
     . rw [hold id hi,hold id' hi'] at he;exact hh.inj id id' hi hi' he
     . have:id'=H.length:=by omega
       subst this;rw [hold id hi,hnew] at he;have:=hlt id hi;simp only at he;omega
   . have:id=H.length:=by omega
     subst this;by_cases hi':id'<H.length
     . rw [hold id' hi',hnew] at he;have:=hlt id' hi';simp only at he;omega
     . omega
theorem za5 {t:TypeId} (ho:o.op=.makeMap t none) (hs:RS fb N w F H m lb fr a) (hN:∀ d,o.dst=some d->d<N)
 {fr':Fr} {H':q7} (hd:q9 .mkm o.dst fr H=some (fr',H')) (h:Next fb N w F H m fr' H' K):o.wp P a w K Q:=by
 unfold q9 at hd;dsimp only at hd;injection hd with hd;injection hd with q1 q2;subst q1;subst q2;have hrun:(execOp a.eval o).run P w=.ok (.value (.map (some w.heap.size))) (w.alloc (.map #[] 0)):=by
  simp only [execOp,ho];rfl
 have hst:=qF hs.heap (.map #[] 0) (.mp [] 0) 0;refine O4 hs hN hst (eN hs.heap) (u:=.map (some w.heap.size)) ?_ (by simp) h hrun;unfold RH;refine ⟨by simp [upd],[],0,by simp⟩
theorem fM {t:TypeId} {ek:Option Nat} {ix:Opd} {v:Value} (hrun:(execOp a.eval o).run P w=.ok (.value (.pointer (some ⟨w.heap.size,0,none⟩))) (w.alloc (.cells v.cells t (0,0)))) (hv:RH w F H m (fr.opd ix) v)
 (hty:∀ T,R1 ek=some T->t=T) (hs:RS fb N w F H m lb fr a) (hN:∀ d,o.dst=some d->d<N)
 {fr':Fr} {H':q7} (hd:q9 (.hbox ek ix) o.dst fr H=some (fr',H')) (h:Next fb N w F H m fr' H' K):o.wp P a w K Q:=by
 unfold q9 at hd;dsimp only at hd;split at hd
 . rename_i hft;injection hd with hd;injection hd with q1 q2;subst q1;subst q2;obtain ⟨_,hfl,hone⟩:=V2 hft hv;have hst:=qF hs.heap (.cells v.cells t (0,0)) (.var ek (fr.opd ix).flat) 0;have e:v.cells=v.cells.toList.toArray:=by simp
   have hh:=bP hs.heap (vs:=v.cells.toList) (e:=t) (ho:=.var ek (fr.opd ix).flat) (cap:=0) (fun ek' cs he=>by
    injection he with z1 z2;subst z2;rw [<-e];exact ⟨⟨RHs.grow hst.g _ _ hfl,hone⟩,by subst z1;exact hty⟩) (fun fz e' ek' ver xs he=>by cases he)
   rw [<-e] at hh;refine O4 hs hN hst hh (u:=.pointer (some ⟨w.heap.size,0,none⟩)) ?_ (by simp) h hrun;unfold RH;refine ⟨by simp [upd],ek,(fr.opd ix).flat,by simp⟩
 . cases hd
theorem iS {t:TypeId} {ek:Option Nat} {ix:Opd} {v:Value} (hrun:(execOp a.eval o).run P w=.ok (.value (.pointer (some ⟨w.heap.size,0,none⟩))) (w.alloc (.cells v.cells t (0,0)))) (hv:RH w F H m (fr.opd ix) v)
 (hs:RS fb N w F H m lb fr a) (hN:∀ d,o.dst=some d->d<N)
 {fr':Fr} {H':q7} (hd:q9 (.fbox ek ix) o.dst fr H=some (fr',H')) (h:Next fb N w F H m fr' H' K):o.wp P a w K Q:=by
 unfold q9 at hd;dsimp only at hd;split at hd
 . rename_i x hx;split at hd
   . rename_i hft;injection hd with hd;injection hd with q1 q2;subst q1;subst q2;rw [hx,rh_c] at hv;obtain ⟨s1,s2,s3⟩:=X9 hft hv;have hkeep:Keeps F (fun b=>F b\/b=w.heap.size) w (w.alloc (.cells v.cells t (0,0))):=Keeps.of (fun b hb=>.inl hb) (fun b hb=>heap_alloc_old w _ b (hs.heap.fthere b hb));have hg:Grows F (fun b=>F b\/b=w.heap.size) H H m m w (w.alloc (.cells v.cells t (0,0))):=
      ⟨hkeep,fun _ _ cs h=>⟨rfl,cs,h,rfl⟩,fun _ fz e ek ver xs h=>⟨fz,ver,xs,h,Nat.le_refl _,fun _=>⟨rfl,rfl⟩⟩,fun _ es ck h=>⟨rfl,es,ck,h⟩⟩
     have hlt:∀ j,j<H.length->(m j).blk<w.heap.size:=fun j hj=>hs.heap.there j H[j] (gEg hj);have hh2:RHeap (w.alloc (.cells v.cells t (0,0))) (fun b=>F b\/b=w.heap.size) H m:=
      hs.heap.same hg (fun _ _=>rfl) (fun id hid=>heap_alloc_old w _ _ (hlt id hid)) (by rw [A6];omega) (fun b hb=>by
       rcases hb with hb | hb
       . exact .inl hb
       . subst hb;exact .inr ⟨by rw [A6];omega,fun id hid=>Nat.ne_of_lt (hlt id hid)⟩)
     have st:Stp w.heap.size F (fun b=>F b\/b=w.heap.size) H H m m w (w.alloc (.cells v.cells t (0,0))):=
      ⟨hg,by rw [A6];omega,rfl,rfl,rfl,fun b hb hid=>⟨heap_alloc_old w _ b hb,hid,fun hf=>by
       rcases hf with hf | hf
       . exact hf
       . omega⟩⟩
     refine O4 hs hN st hh2 ?_ (by simp) h hrun;rw [rh_c];unfold RC;refine ⟨w.heap.size,0,v,rfl,.inr rfl,s1,?_,RC.keep hkeep _ _ hv⟩;exact P8 (e:=t) (fz:=(0,0)) (rest:=[]) (by simpa using heap_alloc_new w (.cells v.cells t (0,0)))
   . cases hd
 . cases hd
end
end Go.Proofs.Lz
