/- Calls: with the caller's memory, or with a memory of their own. -/
import Derived.Test.YtlimfobeoodkjaaGreatDoorLzApp
set_option linter.unusedVariables false
set_option linter.unusedSimpArgs false
set_option linter.unusedSectionVars false
namespace Go.Proofs.Lz
variable [GlobTab]
section
variable {P:Program} {fb N:Nat} {w:World} {F:Nat->Prop} {H:q7} {m:j7} {lb:Nat->Nat} {fr:Fr} {a:Act} {o:Oper}
variable {K:Act->World->Prop} {Q:Exit->Act->World->Prop}
theorem zc4 (z:Array Value) (n:Nat) (hz:0<z.size):((Array.range (n * z.size)).map (z[· % z.size]!)).toList=(List.replicate n z.toList).flatten:=by
 rw [Array.toList_map,Array.toList_range];induction n with
 | zero=>simp
 | succ n ih=>
   rw [Nat.succ_mul,List.range_add,List.map_append,ih,List.replicate_succ',List.flatten_append,List.map_map];congr 1;simp only [List.flatten_cons,List.flatten_nil,List.append_nil];apply List.ext_getElem
   . simp
   . intro i h1 h2;have hi:i<z.size:=by simpa using h2
     simp only [List.getElem_map,List.getElem_range,Function.comp];have:(n * z.size+i) % z.size=i:=by rw [Nat.mul_comm,Nat.mul_add_mod,Nat.mod_eq_of_lt hi]
     rw [this,getElem!_pos z i hi];simp
theorem zs1 {ek:Option Nat} {x:CV} {v:Value} (hx:RC w F x v) (hs:Shape ek v) (n:Nat):RRow w F ek (List.replicate n x) (List.replicate n v.cells.toList).flatten:=by
 induction n with
 | zero=>simp [RRow]
 | succ n ih=>
   rw [List.replicate_succ,List.replicate_succ,List.flatten_cons];unfold RRow;exact ⟨v,_,rfl,hs,hx,ih⟩
theorem zc1 {ek:Option Nat} (hpos:0<j0 ek):∀ {parts:List (Nat×Operand)} {ips:List (Nat×Opd)} {F:Nat->Prop} {H H':q7} {xs xs':List CV} {us:List Value},RHeap w F H m->RFr fb N w F H m lb fr a->X4 parts=some ips->RRow w F ek xs us ->
 C5 ek xs H (ips.map fun p=>(p.1,fr.opd p.2))=some (xs',H') ->
 ∃ (F':Nat->Prop) (us':List Value),RHeap w F' H' m/\Stp w.heap.size F F' H H' m m w w/\Instr.fill (fun i=>some (i * j0 ek,j0 ek)) us.toArray (parts.map fun (i,x)=>(i,a.eval x))=some us'.toArray/\RRow w F' ek xs' us'/\xs'.length=xs.length:=by
 intro parts;induction parts with
 | nil=>
   intro ips F H H' xs xs' us hh hf hp hr hfill;simp [X4] at hp;subst hp;simp [C5] at hfill;obtain ⟨rfl,rfl⟩:=hfill;exact ⟨F,us,hh,Stp.refl ..,by simp [Instr.fill],hr,rfl⟩
 | cons p parts ih=>
   intro ips F H H' xs xs' us hh hf hp hr hfill;obtain ⟨i,x⟩:=p;unfold X4 at hp;cases e2:j5 x with
   | none=>rw [e2] at hp;cases hp
   | some ix=>
     cases e3:X4 parts with
     | none=>rw [e2,e3] at hp;cases hp
     | some rest=>
       rw [e2,e3] at hp;injection hp with hp;subst hp;simp only [List.map_cons] at hfill ⊢;unfold C5 at hfill;cases hc:G9 (fr.opd ix) H with
       | none=>rw [hc] at hfill;cases hfill
       | some q=>
         obtain ⟨u,H1⟩:=q;rw [hc] at hfill;dsimp only at hfill;split at hfill
         . rename_i hcond;obtain ⟨hi,hfit⟩:=hcond;obtain ⟨hx,_⟩:=j9 hf e2;obtain ⟨F1,g1,g2,g3,_⟩:=rZ hh hx hc;obtain ⟨hsh,hfl,hone⟩:=X9 hfit g3;have hr1:=RRow.keep g2.g.keeps _ _ _ hr;have hr2:=cI g3 hsh hr1 hi;have hul:=X6 hr;have hse:(i+1) * j0 ek<=us.length:=by rw [hul];exact Nat.mul_le_mul_right _ hi
           rw [Nat.succ_mul] at hse;have hsz:(a.eval x).cells.size=j0 ek:=by simpa using E6 hsh
           obtain ⟨F2,us2,k1,k2,k3,k4,k5⟩:=ih g1 (hf.step g2) e3 hr2 hfill;refine ⟨F2,us2,k1,g2.trans k2,?_,k4,by simpa using k5⟩;unfold Instr.fill;simp only [];have hno:(decide ((a.eval x).cells.size≠j0 ek)||decide (i * j0 ek+(a.eval x).cells.size > us.toArray.size))=false:=by
            rw [hsz,List.size_toArray,Bool.or_eq_false_iff];exact ⟨by simp,decide_eq_false (by omega)⟩
           rw [hno];simp only [Bool.false_eq_true,if_false];have hfl2:=fP (i * j0 ek) (a.eval x).cells us.toArray (by rw [hsz,List.size_toArray];omega);have:(a.eval x).cells.zipIdx.foldl (fun cs (x:Value×Nat)=>cs.setIfInBounds (i * j0 ek+x.2) x.1) us.toArray=(putCells us (i * j0 ek) (a.eval x).cells.toList).toArray:=by
            apply Array.ext';rw [hfl2];simp [putCells]
           rw [<-k3];congr 1
         . cases hfill
theorem z38 {t e:TypeId} {len:Nat} {ek:Option Nat} {i:TypeInfo} {z:Value} {us:List Value} (ht:P.underlying t=some (.slice e)) (he:x5 P e=some ek) (hi:P.info? e=some i) (hz:i.zero=some z) (hzs:z.cells.size=j0 ek) (hlen:¬ len * j0 ek=0)
 (hlim:¬ len * j0 ek > 2 ^ 24) (parts:Array (Nat×Value)) (hf:Instr.fill (fun i=>some (i * j0 ek,j0 ek)) (List.replicate len z.cells.toList).flatten.toArray parts.toList=some us.toArray) :
 (Instr.buildSlice t len parts).run P w=.ok (.slice (some ⟨w.heap.size,0,none⟩) len len) (w.alloc (.cells us.toArray e (0,0))):=by
 have hpos:=(T9 he).2;have hisz:i.size=j0 ek:=by have:=(T9 he).1;simpa [hi] using this
 have hr0:(Array.range (len * j0 ek)).map (z.cells[· % z.cells.size]!)=(List.replicate len z.cells.toList).flatten.toArray:=by
  apply Array.ext';have:=zc4 z.cells len (by rw [hzs];exact hpos);rw [hzs] at this;simpa [hzs] using this
 rw [<-hr0] at hf;generalize j0 ek=sz at *;subst hisz;exact run_buildSlice w t e len parts us.toArray i z ht hi hz hlim hlen hf
theorem oK {t e:TypeId} {len:Nat} {parts:Array (Nat×Operand)} {ek:Option Nat} {i:TypeInfo} {z:Value} {zc:List CV} {ips:List (Nat×Opd)} {fz:Bool} (ho:o.op=.buildSlice t len parts) (ht:P.underlying t=some (.slice e)) (he:x5 P e=some ek)
 (hi:P.info? e=some i) (hz:i.zero=some z) (hzs:z.cells.size=j0 ek) (hzc:O2 z.cells.toList=some zc) (hp:X4 parts.toList=some ips) (hsmall:len * j0 ek<=16777216) (hs:RS fb N w F H m lb fr a) (hN:∀ d,o.dst=some d->d<N)
 {fr':Fr} {H':q7} (hd:q9 (.bsl fz e ek zc len ips) o.dst fr H=some (fr',H')) (h:Next fb N w F H m fr' H' K):o.wp P a w K Q:=by
 have hpos:=(T9 he).2;have hisz:i.size=j0 ek:=by have:=(T9 he).1;simpa [hi] using this
 unfold q9 at hd;dsimp only at hd;cases hu:A2 ek zc with
 | none=>rw [hu] at hd;cases hd
 | some zv=>
   rw [hu] at hd;dsimp only at hd;split at hd
   . rename_i hfit;cases hf:C5 ek (List.replicate len zv) H (ips.map fun p=>(p.1,fr.opd p.2)) with
     | none=>rw [hf] at hd;cases hd
     | some q=>
       obtain ⟨xs,H1⟩:=q;rw [hf] at hd;dsimp only at hd;have hzr:RCs w F zc z.cells.toList/\∀ u∈z.cells.toList,u.oneCell'=true:=by
        have key:∀ (l:List Value) (cs:List CV),O2 l=some cs->RCs w F cs l/\∀ u∈l,u.oneCell'=true:=by
         intro l;induction l with
         | nil=>intro cs hc;simp [O2] at hc;subst hc;exact ⟨rcs_nil.2 rfl,by simp⟩
         | cons y l ih=>
           intro cs hc;unfold O2 at hc;cases c1:i6 y with
           | none=>rw [c1] at hc;cases hc
           | some c=>
             cases c2:O2 l with
             | none=>rw [c1,c2] at hc;cases hc
             | some cs'=>
               rw [c1,c2] at hc;injection hc with hc;subst hc;obtain ⟨i1,i2⟩:=ih cs' c2;exact ⟨rcs_cons.2 ⟨y,l,rfl,dT c1,i1⟩,fun u hu=>by
                rcases List.mem_cons.1 hu with rfl | hu
                . exact rN c1
                . exact i2 u hu⟩
        exact key _ _ hzc
       obtain ⟨zv',r1,r2,r3⟩:=kX (ek:=ek) hzr.1 hzr.2 (by simpa using hzs) hu;have hrow0:=zs1 r1 r3 len;rw [r2] at hrow0;obtain ⟨F1,us,k1,k2,k3,k4,k5⟩:=zc1 hpos hs.heap hs.fr hp hrow0 hf;have hxl:xs.length=len:=by simpa using k5
       have hul:=X6 k4;rw [hxl] at hul;have hrun0:(Instr.buildSlice t len (parts.map fun (i,x)=>(i,a.eval x))).run P w=.ok (.slice (some ⟨w.heap.size,0,none⟩) len len) (w.alloc (.cells us.toArray e (0,0))):=by
        have hpl:(parts.map fun (i,x)=>(i,a.eval x)).toList=parts.toList.map fun (i,x)=>(i,a.eval x):=by simp
        have hlim:¬ len * j0 ek > 2 ^ 24:=by omega
        by_cases hlen:len * j0 ek=0
        . have hl0:len=0:=by
           rcases Nat.mul_eq_zero.1 hlen with h0 | h0
           . exact h0
           . omega
          subst hl0;simp only [List.replicate_zero,List.flatten_nil] at k3;simp only [Instr.buildSlice,Sem.run_bind,run_underlying ht,Result.andThen_ok,run_sizeOf he,Nat.zero_mul,if_true,Sem.run_pure,hpl];rw [if_neg (by omega)];simp only [Sem.run_bind,Sem.run_pure,Result.andThen_ok];have e0:∀ f:Nat->Value,Array.map f (Array.range 0)=#[]:=fun f=>by apply Array.ext';simp
          rw [e0];rw [k3];simp [newRow]
        . have hk3:Instr.fill (fun i=>some (i * j0 ek,j0 ek)) (List.replicate len z.cells.toList).flatten.toArray (parts.map fun (i,x)=>(i,a.eval x)).toList=some us.toArray:=by
           rw [hpl];exact k3
          clear hf k3 hrow0;exact z38 (us:=us) (P:=P) (w:=w) ht he hi hz hzs hlen hlim _ hk3
       have hrun:(execOp a.eval o).run P w=.ok (.value (.slice (some ⟨w.heap.size,0,none⟩) len len)) (w.alloc (.cells us.toArray e (0,0))):=by
        simp only [execOp,ho,Sem.run_bind,hrun0,Result.andThen_ok,Sem.run_pure]
       cases fz with
       | true=>
         simp only [if_true] at hd;injection hd with hd;injection hd with q1 q2;subst q1;subst q2;have hkeep:Keeps F1 (fun b=>F1 b\/b=w.heap.size) w (w.alloc (.cells us.toArray e (0,0))):=Keeps.of (fun b hb=>.inl hb) (fun b hb=>heap_alloc_old w _ b (k1.fthere b hb));have hg:Grows F1 (fun b=>F1 b\/b=w.heap.size) H1 H1 m m w (w.alloc (.cells us.toArray e (0,0))):=
          ⟨hkeep,fun _ _ cs h=>⟨rfl,cs,h,rfl⟩,fun _ fz e ek ver xs h=>⟨fz,ver,xs,h,Nat.le_refl _,fun _=>⟨rfl,rfl⟩⟩,fun _ es ck h=>⟨rfl,es,ck,h⟩⟩
         have hlt:∀ j,j<H1.length->(m j).blk<w.heap.size:=fun j hj=>k1.there j H1[j] (gEg hj);have hh2:RHeap (w.alloc (.cells us.toArray e (0,0))) (fun b=>F1 b\/b=w.heap.size) H1 m:=
          k1.same hg (fun _ _=>rfl) (fun id hid=>heap_alloc_old w _ _ (hlt id hid)) (by rw [A6];omega) (fun b hb=>by
           rcases hb with hb | hb
           . exact .inl hb
           . subst hb;exact .inr ⟨by rw [A6];omega,fun id hid=>Nat.ne_of_lt (hlt id hid)⟩)
         have st:Stp w.heap.size F1 (fun b=>F1 b\/b=w.heap.size) H1 H1 m m w (w.alloc (.cells us.toArray e (0,0))):=
          ⟨hg,by rw [A6];omega,rfl,rfl,rfl,fun b hb hid=>⟨heap_alloc_old w _ b hb,hid,fun hf=>by
           rcases hf with hf | hf
           . exact hf
           . omega⟩⟩
         refine O4 hs hN (k2.trans st) hh2 ?_ (by simp) h hrun;rw [rh_c];unfold RC;refine ⟨_,_,by rw [hxl],by rw [hxl];exact Nat.le_refl _,fun _=>⟨w.heap.size,0,us,rfl,.inr rfl,?_,RRow.keep hkeep _ _ _ k4⟩⟩;exact P8 (rest:=[]) (by simpa using heap_alloc_new w (.cells us.toArray e (0,0)))
       | false=>
         simp only [Bool.false_eq_true,if_false] at hd;injection hd with hd;injection hd with q1 q2;subst q1;subst q2;have st1:=qF k1 (.cells us.toArray e (0,0)) (.row false e ek 0 xs) len;have hh1:=bP k1 (vs:=us) (e:=e) (ho:=.row false e ek 0 xs) (cap:=len) (fun ek' cs he=>by cases he) (fun fz e' ek' ver xs' he'=>by
          injection he' with y1 y2 y3 y4 y5;subst y1;subst y2;subst y3;subst y4;subst y5;have hcap:len<=maxLen:=by
           have:len<=len * j0 ek:=Nat.le_mul_of_pos_right _ hpos;simp only [maxLen];omega
          exact ⟨rfl,rfl,us,[],by simp,RRow.keep st1.g.keeps _ _ _ k4,by simp [hul],hcap,hpos⟩)
         refine O4 hs hN (k2.trans st1) hh1 (u:=.slice (some ⟨w.heap.size,0,none⟩) len len) ?_ (by simp) h hrun;unfold RH;refine ⟨_,_,rfl,⟨false,e,ek,0,xs,by simp,Nat.le_refl _⟩,fun fz e2 ek2 xs2 hH2=>?_⟩;simp at hH2;obtain ⟨y1,y2,y3,y4⟩:=hH2;subst y4;subst y3;exact ⟨by omega,by simp [upd],Nat.le_refl _,fun _=>by simp [upd]⟩
   . cases hd
end
end Go.Proofs.Lz
namespace Go.Proofs.Lz
variable [GlobTab]
def wA (P:Program) (f:Nat) (H:q7) (args:List HV) (r:HV) (H':q7):Prop:=
 ∀ (w:World) (F:Nat->Prop) (m:j7) (vs:List Value),RHeap w F H m->RHs w F H m args vs ->
  (callFunc f vs.toArray).run P w=.ok (.enter f vs.toArray) w /\
  Calls P f vs.toArray w (fun e w'=>∃ v F' m',e=.returned v/\Stp w.heap.size F F' H H' m m' w w'/\RHeap w' F' H' m'/\RH w' F' H' m' r v/\∀ ek x,r≠.lbox ek x)
def O0 (P:Program) (call:j8):Prop:=∀ f args H r H',call f args H=some (r,H')->wA P f H args r H'
section
variable {P:Program} {fb N:Nat} {w:World} {F:Nat->Prop} {H:q7} {m:j7} {lb:Nat->Nat} {fr:Fr} {a:Act} {o:Oper}
variable {K:Act->World->Prop} {Q:Exit->Act->World->Prop}
theorem cH (hh:RHeap w F H m) {F':Nat->Prop} (hk:∀ b,F b->F' b) {v:HV} {x:Value} {u:CV} (h:RH w F H m v x) (ht:H9 H v=some u) (hF:∀ id,id<H.length->F' (m id).blk):RC w F' u x:=by
 have hlt:∀ id,W5 H id->id<H.length:=fun id ⟨_,_,_,_,_,hr⟩=>(gEs hr).1;unfold H9 at ht;split at ht
 . rename_i id off;split at ht
   . rename_i ek cs hH;cases hl:m8 H cs with
     | none=>rw [hl] at ht;cases ht
     | some l=>
       rw [hl] at ht;dsimp only at ht;split at ht
       . rename_i hlen;cases hu:A2 ek l with
         | none=>rw [hu] at ht;cases ht
         | some y=>
           rw [hu] at ht;injection ht with ht;subst ht;unfold RH at h;obtain ⟨rfl,_⟩:=h;obtain ⟨_,vs,e,k1,k2,k3⟩:=hh.var id ek cs hH;have hrc:=gR hh hk k2 hl (fun j _ hr=>hF j (hlt j hr));obtain ⟨y',r1,r2,r3⟩:=kX hrc k3 (by rw [R9 hrc,hlen]) hu;unfold RC;refine ⟨(m id).blk,0,y',by simp,hF id (gEs hH).1,r3,?_,r1⟩;rw [r2];exact P8 (rest:=[]) (by simpa using k1)
       . cases ht
   . cases ht
 . exact qO hh hk h ht (fun id _ hr=>hF id (hlt id hr))
theorem aY (hh:RHeap w F H m) {F':Nat->Prop} (hk:∀ b,F b->F' b) (hF:∀ id,id<H.length->F' (m id).blk):∀ {vs:List HV} {xs:List Value} {us:List CV},RHs w F H m vs xs->C4 H vs=some us->RCs w F' us xs:=by
 intro vs;induction vs with
 | nil=>intro xs us h ht;simp [C4] at ht;subst ht;rw [rhs_nil] at h;subst h;exact rcs_nil.2 rfl
 | cons v vs ih=>
   intro xs us h ht;unfold C4 at ht;cases h1:H9 H v with
   | none=>rw [h1] at ht;cases ht
   | some u=>
     cases h2:C4 H vs with
     | none=>rw [h1,h2] at ht;cases ht
     | some us'=>
       rw [h1,h2] at ht;injection ht with ht;subst ht;rw [rhs_cons] at h;obtain ⟨x,xs',rfl,h3,h4⟩:=h;exact rcs_cons.2 ⟨x,xs',rfl,cH hh hk h3 h1 hF,ih h4 h2⟩
theorem zr0 (hh:RHeap w F H m) {F':Nat->Prop} (hk:∀ b,F b->F' b) (hF:∀ id,id<H.length->F' (m id).blk):∀ {vs:List HV} {xs:List Value} {us:List HV},RHs w F H m vs xs->a8 H vs=some us->RHs w F' [] m us xs:=by
 have hlt:∀ id,W5 H id->id<H.length:=fun id ⟨_,_,_,_,_,hr⟩=>(gEs hr).1;intro vs;induction vs with
 | nil=>intro xs us h ht;simp [a8] at ht;subst ht;rw [rhs_nil] at h;subst h;exact rhs_nil.2 rfl
 | cons v vs ih=>
   intro xs us h ht;unfold a8 at ht;cases h1:thaw H v with
   | none=>rw [h1] at ht;cases ht
   | some u=>
     cases h2:a8 H vs with
     | none=>rw [h1,h2] at ht;cases ht
     | some us'=>
       rw [h1,h2] at ht;injection ht with ht;subst ht;rw [rhs_cons] at h;obtain ⟨x,xs',rfl,h3,h4⟩:=h;refine rhs_cons.2 ⟨x,xs',rfl,rh_c.2 ?_,ih h4 h2⟩;unfold thaw at h1;split at h1
       . rename_i f first cap;cases e1:C4 H first with
         | none=>rw [e1] at h1;cases h1
         | some l1=>
           cases e2:C4 H cap with
           | none=>rw [e1,e2] at h1;cases h1
           | some l2=>
             rw [e1,e2] at h1;injection h1 with h1;subst h1;unfold RH at h3;obtain ⟨ps,qs,rfl,h5,h6⟩:=h3;unfold RC;exact ⟨ps,qs,rfl,aY hh hk hF h5 e1,aY hh hk hF h6 e2⟩
       . exact cH hh hk h3 h1 hF
theorem zo4 (hh:RHeap w F H m):∀ {vs:List HV} {xs:List Value} {us:List HV},RHs w F H m vs xs->vs.all isC=true->a8 H vs=some us->RHs w F [] m us xs:=by
 intro vs;induction vs with
 | nil=>intro xs us h _ ht;simp [a8] at ht;subst ht;rw [rhs_nil] at h;subst h;exact rhs_nil.2 rfl
 | cons v vs ih=>
   intro xs us h hc ht;rw [List.all_cons,Bool.and_eq_true] at hc;unfold a8 at ht;cases h1:thaw H v with
   | none=>rw [h1] at ht;cases ht
   | some u=>
     cases h2:a8 H vs with
     | none=>rw [h1,h2] at ht;cases ht
     | some us'=>
       rw [h1,h2] at ht;injection ht with ht;subst ht;rw [rhs_cons] at h;obtain ⟨x,xs',rfl,h3,h4⟩:=h;refine rhs_cons.2 ⟨x,xs',rfl,rh_c.2 ?_,ih h4 hc.2 h2⟩;cases v with
       | c y=>simp [thaw,H9,u7,t6] at h1;subst h1;exact rh_c.1 h3
       | nils=>exact qO hh (fun _ q=>q) h3 h1 (fun id hi _=>by obtain ⟨p,q,r,hm⟩:=hi;simp [N8] at hm)
       | _=>simp [isC] at hc
theorem rS:∀ (vs:List HV) (H:q7),Frzs H (E3 vs H):=by
 intro vs;induction vs with
 | nil=>intro H;exact Frzs.refl H
 | cons v vs ih=>
   intro H;unfold E3;rw [bM];exact (yH _ H).trans (ih _)
theorem z91:∀ (vs:List HV) (H:q7) (v:HV) (id:Nat) {fz:Bool} {e:Nat} {ek:Option Nat} {ver:Nat} {xs:List CV},v∈vs->zE id (N8 v)->H[id]?=some (.row fz e ek ver xs)->(E3 vs H)[id]?=some (.row true e ek ver xs):=by
 intro vs;induction vs with
 | nil=>intro H v id fz e ek ver xs hm;simp at hm
 | cons v0 vs ih=>
   intro H v id fz e ek ver xs hm hi hH;unfold E3;rw [bM];rcases List.mem_cons.1 hm with rfl | hm
   . have h1:=mZ (N8 v) H id hi hH;obtain ⟨fz',h2,h3⟩:=(rS vs (l7 (N8 v) H)).row id true e ek ver xs h1;rw [h3 rfl] at h2;exact h2
   . obtain ⟨fz',h2,_⟩:=(yH (N8 v0) H).row id fz e ek ver xs hH;exact ih _ v id hm hi h2
theorem eU (hh:RHeap w F H m) {F':Nat->Prop} (hk:∀ b,F b->F' b):∀ {vs:List HV} {xs:List Value} {us:List HV},RHs w F H m vs xs->vs.all M6=true->(∀ v∈vs,∀ id,zE id (N8 v)->W5 H id->F' (m id).blk)->a8 H vs=some us->RHs w F' [] m us xs:=by
 intro vs;induction vs with
 | nil=>intro xs us h _ _ ht;simp [a8] at ht;subst ht;rw [rhs_nil] at h;subst h;exact rhs_nil.2 rfl
 | cons v vs ih=>
   intro xs us h hc hF ht;rw [List.all_cons,Bool.and_eq_true] at hc;unfold a8 at ht;cases h1:thaw H v with
   | none=>rw [h1] at ht;cases ht
   | some u=>
     cases h2:a8 H vs with
     | none=>rw [h1,h2] at ht;cases ht
     | some us'=>
       rw [h1,h2] at ht;injection ht with ht;subst ht;rw [rhs_cons] at h;obtain ⟨x,xs',rfl,h3,h4⟩:=h;refine rhs_cons.2 ⟨x,xs',rfl,rh_c.2 ?_,ih h4 hc.2 (fun v hv=>hF v (List.mem_cons_of_mem _ hv)) h2⟩;have h1':u7 H v=some u:=by
        unfold thaw at h1;split at h1
        . simp [M6] at hc
        . unfold H9 at h1;split at h1
          . simp [M6] at hc
          . exact h1
       exact qO hh hk h3 h1' (hF v List.mem_cons_self)
theorem z77 (hh:RHeap w F H m) {F':Nat->Prop} (hk:∀ b,F b->F' b) (hF:∀ id,id<H.length->F' (m id).blk) {H0:q7} {m0:j7}:∀ {vs:List HV} {xs:List Value} {us:List HV},RHs w F H m vs xs->R2 H vs=some us->RHs w F' H0 m0 us xs:=by
 have hlt:∀ id,W5 H id->id<H.length:=fun id ⟨_,_,_,_,_,hr⟩=>(gEs hr).1;intro vs;induction vs with
 | nil=>intro xs us h ht;simp [R2] at ht;subst ht;rw [rhs_nil] at h;subst h;exact rhs_nil.2 rfl
 | cons v vs ih=>
   intro xs us h ht;unfold R2 at ht;cases h1:u7 H v with
   | none=>rw [h1] at ht;cases ht
   | some u=>
     cases h2:R2 H vs with
     | none=>rw [h1,h2] at ht;cases ht
     | some us'=>
       rw [h1,h2] at ht;injection ht with ht;subst ht;rw [rhs_cons] at h;obtain ⟨x,xs',rfl,h3,h4⟩:=h;exact rhs_cons.2 ⟨x,xs',rfl,rh_c.2 (qO hh hk h3 h1 (fun id _ hr=>hF id (hlt id hr))),ih h4 h2⟩
theorem gU (hh:RHeap w F H m) {F':Nat->Prop} (hk:∀ b,F b->F' b) (hF:∀ id,id<H.length->F' (m id).blk) {H0:q7} {m0:j7} {r r':HV} {x:Value} (h:RH w F H m r x) (ht:O6 H r=some r'):RH w F' H0 m0 r' x/\∀ ek y,r'≠.lbox ek y:=by
 have hlt:∀ id,W5 H id->id<H.length:=fun id ⟨_,_,_,_,_,hr⟩=>(gEs hr).1;unfold O6 at ht;split at ht
 . rename_i vs;simp only [Option.map_eq_some_iff] at ht;obtain ⟨us,h1,rfl⟩:=ht;unfold RH at h;obtain ⟨xs,rfl,h2⟩:=h;refine ⟨?_,by simp⟩;unfold RH;exact ⟨xs,rfl,z77 hh hk hF h2 h1⟩
 . simp only [Option.map_eq_some_iff] at ht;obtain ⟨u,h1,rfl⟩:=ht;exact ⟨rh_c.2 (qO hh hk h h1 (fun id _ hr=>hF id (hlt id hr))),by simp⟩
theorem sK {c:CV} {x:Value} {F0 F':Nat->Prop} {w':World} (hp:J5 c=true) (h:RC w F0 c x):RC w' F' c x:=by
 cases c<;>simp [J5] at hp<;>(unfold RC at h ⊢;exact h)
theorem oQ {F0 F':Nat->Prop} {w':World}:∀ {l:List CV} {xs:List Value},l.all J5=true->RCs w F0 l xs->RCs w' F' l xs:=by
 intro l;induction l with
 | nil=>intro xs _ h;rw [rcs_nil] at h;subst h;exact rcs_nil.2 rfl
 | cons c l ih=>
   intro xs hp h;rw [List.all_cons,Bool.and_eq_true] at hp;rw [rcs_cons] at h;obtain ⟨v,us,rfl,h1,h2⟩:=h;exact rcs_cons.2 ⟨v,us,rfl,sK hp.1 h1,ih hp.2 h2⟩
theorem cO {c:CV} {x:Value} {F0 F':Nat->Prop} {w':World} (hp:noRef (.c c)=true) (h:RC w F0 c x):RC w' F' c x:=by
 cases c with
 | agg l=>
   simp only [noRef] at hp;unfold RC at h ⊢;obtain ⟨vs,h1,h2,h3⟩:=h;exact ⟨vs,h1,oQ hp h2,h3⟩
 | _=>exact sK (by simpa [noRef] using hp) h
theorem zh9 {F0 F':Nat->Prop} {w':World} {H0 H1:q7} {m0 m1:j7}:∀ {l:List HV} {xs:List Value},noRef.noRefL l=true->RHs w F0 H0 m0 l xs->RHs w' F' H1 m1 l xs:=by
 intro l;induction l with
 | nil=>intro xs _ h;rw [rhs_nil] at h;subst h;exact rhs_nil.2 rfl
 | cons v l ih=>
   intro xs hp h;rw [rhs_cons] at h;obtain ⟨x,us,rfl,h1,h2⟩:=h;cases v with
   | c c=>
     have hh:noRef (.c c)=true/\noRef.noRefL l=true:=by
      cases c<;>simpa [noRef.noRefL,noRef] using hp
     exact rhs_cons.2 ⟨x,us,rfl,rh_c.2 (cO hh.1 (rh_c.1 h1)),ih hh.2 h2⟩
   | _=>simp [noRef.noRefL] at hp
theorem zl0 {r:HV} {x:Value} {F0 F':Nat->Prop} {w':World} {H0 H1:q7} {m0 m1:j7} (hp:noRef r=true) (h:RH w F0 H0 m0 r x):RH w' F' H1 m1 r x:=by
 cases r with
 | c c=>exact rh_c.2 (cO hp (rh_c.1 h))
 | tup vs=>
   simp only [noRef] at hp;unfold RH at h ⊢;obtain ⟨xs,h1,h2⟩:=h;exact ⟨xs,h1,zh9 hp h2⟩
 | _=>simp [noRef] at hp
theorem xX {w w':World} {Fc F'':Nat->Prop} {H'':q7} {m'':j7} (hh:RHeap w F H m) (st:Stp w.heap.size Fc F'' [] H'' m m'' w w') :
 RHeap w' (fun b=>F b\/(w.heap.size<=b/\b<w'.heap.size)) H m/\Stp w.heap.size F (fun b=>F b\/(w.heap.size<=b/\b<w'.heap.size)) H H m m w w':=by
 have hold:∀ b,b<w.heap.size->w'.heap[b]?=w.heap[b]?:=fun b hb=>(st.far b hb (fun id hid=>by simp at hid)).1;have hlt:∀ j,j<H.length->(m j).blk<w.heap.size:=fun j hj=>hh.there j H[j] (gEg hj);have hg:Grows F (fun b=>F b\/(w.heap.size<=b/\b<w'.heap.size)) H H m m w w':=
  ⟨Keeps.of (fun b hb=>.inl hb) (fun b hb=>hold b (hh.fthere b hb)),fun _ _ cs h=>⟨rfl,cs,h,rfl⟩,fun _ fz e ek ver xs h=>⟨fz,ver,xs,h,Nat.le_refl _,fun _=>⟨rfl,rfl⟩⟩,fun _ es ck h=>⟨rfl,es,ck,h⟩⟩
 refine ⟨hh.same hg (fun _ _=>rfl) (fun id hid=>hold _ (hlt id hid)) st.size (fun b hb=>?_),hg,st.size,st.os,st.tape,st.output,fun b hb hid=>⟨hold b hb,hid,fun hf=>?_⟩⟩
 . rcases hb with hb | hb
   . exact .inl hb
   . exact .inr ⟨hb.2,fun id hid=>by have:=hlt id hid;omega⟩
 . rcases hf with hf | hf
   . exact hf
   . omega
end
end Go.Proofs.Lz
