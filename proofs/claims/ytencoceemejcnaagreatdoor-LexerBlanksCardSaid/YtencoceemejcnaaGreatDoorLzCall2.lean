/- The call's two modes; the operations that call. -/
import Derived.Test.YtencoceemejcnaaGreatDoorLzApp
set_option linter.unusedVariables false
set_option linter.unusedSimpArgs false
set_option linter.unusedSectionVars false
namespace Go.Proofs.Lz
variable [GlobTab]
section
variable {P:Program} {fb N:Nat} {w:World} {F:Nat→Prop} {H:Heap} {m:LMap} {lb:Nat→Nat} {fr:Fr} {a:Act} {o:Oper}
variable {K:Act→World→Prop} {Q:Exit→Act→World→Prop}
theorem jh3 (z:Array Value) (n:Nat) (hz:0<z.size):((Array.range (n * z.size)).map (z[· % z.size]!)).toList=(List.replicate n z.toList).flatten:=by
 rw [Array.toList_map,Array.toList_range]
 induction n with
 | zero=>simp
 | succ n ih=>
   rw [Nat.succ_mul,List.range_add,List.map_append,ih,List.replicate_succ',List.flatten_append,List.map_map]
   congr 1
   simp only [List.flatten_cons,List.flatten_nil,List.append_nil]
   apply List.ext_getElem
   · simp
   · intro i h1 h2
     have hi:i<z.size:=by simpa using h2
     simp only [List.getElem_map,List.getElem_range,Function.comp]
     have:(n * z.size+i) % z.size=i:=by rw [Nat.mul_comm,Nat.mul_add_mod,Nat.mod_eq_of_lt hi]
     rw [this,getElem!_pos z i hi]
     simp
theorem qk2 {ek:Option Nat} {x:CV} {v:Value} (hx:RC w F x v) (hs:Shape ek v) (n:Nat):RRow w F ek (List.replicate n x) (List.replicate n v.cells.toList).flatten:=by
 induction n with
 | zero=>simp [RRow]
 | succ n ih=>
   rw [List.replicate_succ,List.replicate_succ,List.flatten_cons]
   unfold RRow
   exact ⟨v,_,rfl,hs,hx,ih⟩
theorem w93 {ek:Option Nat} (hpos:0<z45 ek):∀ {parts:List (Nat×Operand)} {ips:List (Nat×Opd)} {F:Nat→Prop} {H H':Heap} {xs xs':List CV} {us:List Value},RHeap w F H m→RFr fb N w F H m lb fr a→zt5 parts=some ips→RRow w F ek xs us →
 zd7 ek xs H (ips.map fun p=>(p.1,fr.opd p.2))=some (xs',H') →
 ∃ (F':Nat→Prop) (us':List Value),RHeap w F' H' m∧Stp w.heap.size F F' H H' m m w w∧Instr.fill (fun i=>some (i * z45 ek,z45 ek)) us.toArray (parts.map fun (i,x)=>(i,a.eval x))=some us'.toArray∧RRow w F' ek xs' us'∧xs'.length=xs.length:=by
 intro parts
 induction parts with
 | nil=>
   intro ips F H H' xs xs' us hh hf hp hr hfill
   simp [zt5] at hp;subst hp
   simp [zd7] at hfill
   obtain ⟨rfl,rfl⟩:=hfill
   exact ⟨F,us,hh,Stp.refl ..,by simp [Instr.fill],hr,rfl⟩
 | cons p parts ih=>
   intro ips F H H' xs xs' us hh hf hp hr hfill
   obtain ⟨i,x⟩:=p
   unfold zt5 at hp
   cases e2:z79 x with
   | none=>rw [e2] at hp;cases hp
   | some ix=>
     cases e3:zt5 parts with
     | none=>rw [e2,e3] at hp;cases hp
     | some rest=>
       rw [e2,e3] at hp
       injection hp with hp;subst hp
       simp only [List.map_cons] at hfill ⊢
       unfold zd7 at hfill
       cases hc:zm2 (fr.opd ix) H with
       | none=>rw [hc] at hfill;cases hfill
       | some q=>
         obtain ⟨u,H1⟩:=q
         rw [hc] at hfill
         dsimp only at hfill
         split at hfill
         · rename_i hcond
           obtain ⟨hi,hfit⟩:=hcond
           obtain ⟨hx,_⟩:=z78 hf e2
           obtain ⟨F1,g1,g2,g3,_⟩:=qm6 hh hx hc
           obtain ⟨hsh,hfl,hone⟩:=zk8 hfit g3
           have hr1:=RRow.keep g2.g.keeps _ _ _ hr
           have hr2:=je9 g3 hsh hr1 hi
           have hul:=zg5 hr
           have hse:(i+1) * z45 ek≤us.length:=by rw [hul];exact Nat.mul_le_mul_right _ hi
           rw [Nat.succ_mul] at hse
           have hsz:(a.eval x).cells.size=z45 ek:=by simpa using zm3 hsh
           obtain ⟨F2,us2,k1,k2,k3,k4,k5⟩:=ih g1 (hf.step g2) e3 hr2 hfill
           refine ⟨F2,us2,k1,g2.trans k2,?_,k4,by simpa using k5⟩
           unfold Instr.fill
           simp only []
           have hno:(decide ((a.eval x).cells.size≠z45 ek)||decide (i * z45 ek+(a.eval x).cells.size > us.toArray.size))=false:=by
            rw [hsz,List.size_toArray,Bool.or_eq_false_iff]
            exact ⟨by simp,decide_eq_false (by omega)⟩
           rw [hno]
           simp only [Bool.false_eq_true,if_false]
           have hfl2:=qk6 (i * z45 ek) (a.eval x).cells us.toArray (by rw [hsz,List.size_toArray];omega)
           have:(a.eval x).cells.zipIdx.foldl (fun cs (x:Value×Nat)=>cs.setIfInBounds (i * z45 ek+x.2) x.1) us.toArray=(putCells us (i * z45 ek) (a.eval x).cells.toList).toArray:=by
            apply Array.ext'
            rw [hfl2]
            simp [putCells]
           rw [← k3]
           congr 1
         · cases hfill
theorem wj0 {t e:TypeId} {len:Nat} {ek:Option Nat} {i:TypeInfo} {z:Value} {us:List Value} (ht:P.underlying t=some (.slice e)) (he:ekOf P e=some ek) (hi:P.info? e=some i) (hz:i.zero=some z) (hzs:z.cells.size=z45 ek) (hlen:¬ len * z45 ek=0)
 (hlim:¬ len * z45 ek > 2 ^ 24) (parts:Array (Nat×Value)) (hf:Instr.fill (fun i=>some (i * z45 ek,z45 ek)) (List.replicate len z.cells.toList).flatten.toArray parts.toList=some us.toArray) :
 (Instr.buildSlice t len parts).run P w=.ok (.slice (some ⟨w.heap.size,0,none⟩) len len) (w.alloc (.cells us.toArray e (0,0))):=by
 have hpos:=(zx6 he).2
 have hisz:i.size=z45 ek:=by have:=(zx6 he).1;simpa [hi] using this
 have hr0:(Array.range (len * z45 ek)).map (z.cells[· % z.cells.size]!)=(List.replicate len z.cells.toList).flatten.toArray:=by
  apply Array.ext'
  have:=jh3 z.cells len (by rw [hzs];exact hpos)
  rw [hzs] at this
  simpa [hzs] using this
 rw [← hr0] at hf
 generalize z45 ek=sz at *
 subst hisz
 exact run_buildSlice w t e len parts us.toArray i z ht hi hz hlim hlen hf
theorem wm5 {t e:TypeId} {len:Nat} {parts:Array (Nat×Operand)} {ek:Option Nat} {i:TypeInfo} {z:Value} {zc:List CV} {ips:List (Nat×Opd)} {fz:Bool} (ho:o.op=.buildSlice t len parts) (ht:P.underlying t=some (.slice e)) (he:ekOf P e=some ek)
 (hi:P.info? e=some i) (hz:i.zero=some z) (hzs:z.cells.size=z45 ek) (hzc:qd8 z.cells.toList=some zc) (hp:zt5 parts.toList=some ips) (hsmall:len * z45 ek≤16777216) (hs:RS fb N w F H m lb fr a) (hN:∀ d,o.dst=some d→d<N)
 {fr':Fr} {H':Heap} (hd:z42 (.bsl fz e ek zc len ips) o.dst fr H=some (fr',H')) (h:Next fb N w F H m fr' H' K):o.wp P a w K Q:=by
 have hpos:=(zx6 he).2
 have hisz:i.size=z45 ek:=by have:=(zx6 he).1;simpa [hi] using this
 unfold z42 at hd
 dsimp only at hd
 cases hu:zc0 ek zc with
 | none=>rw [hu] at hd;cases hd
 | some zv=>
   rw [hu] at hd
   dsimp only at hd
   split at hd
   · rename_i hfit
     cases hf:zd7 ek (List.replicate len zv) H (ips.map fun p=>(p.1,fr.opd p.2)) with
     | none=>rw [hf] at hd;cases hd
     | some q=>
       obtain ⟨xs,H1⟩:=q
       rw [hf] at hd
       dsimp only at hd
       have hzr:RCs w F zc z.cells.toList∧∀ u∈z.cells.toList,u.oneCell'=true:=by
        have key:∀ (l:List Value) (cs:List CV),qd8 l=some cs→RCs w F cs l∧∀ u∈l,u.oneCell'=true:=by
         intro l
         induction l with
         | nil=>intro cs hc;simp [qd8] at hc;subst hc;exact ⟨rcs_nil.2 rfl,by simp⟩
         | cons y l ih=>
           intro cs hc
           unfold qd8 at hc
           cases c1:cvOf y with
           | none=>rw [c1] at hc;cases hc
           | some c=>
             cases c2:qd8 l with
             | none=>rw [c1,c2] at hc;cases hc
             | some cs'=>
               rw [c1,c2] at hc
               injection hc with hc;subst hc
               obtain ⟨i1,i2⟩:=ih cs' c2
               exact ⟨rcs_cons.2 ⟨y,l,rfl,jw7 c1,i1⟩,fun u hu=>by
                rcases List.mem_cons.1 hu with rfl | hu
                · exact jb5 c1
                · exact i2 u hu⟩
        exact key _ _ hzc
       obtain ⟨zv',r1,r2,r3⟩:=q21 (ek:=ek) hzr.1 hzr.2 (by simpa using hzs) hu
       have hrow0:=qk2 r1 r3 len
       rw [r2] at hrow0
       obtain ⟨F1,us,k1,k2,k3,k4,k5⟩:=w93 hpos hs.heap hs.fr hp hrow0 hf
       have hxl:xs.length=len:=by simpa using k5
       have hul:=zg5 k4
       rw [hxl] at hul
       have hrun0:(Instr.buildSlice t len (parts.map fun (i,x)=>(i,a.eval x))).run P w=.ok (.slice (some ⟨w.heap.size,0,none⟩) len len) (w.alloc (.cells us.toArray e (0,0))):=by
        have hpl:(parts.map fun (i,x)=>(i,a.eval x)).toList=parts.toList.map fun (i,x)=>(i,a.eval x):=by simp
        have hlim:¬ len * z45 ek > 2 ^ 24:=by omega
        by_cases hlen:len * z45 ek=0
        · have hl0:len=0:=by
           rcases Nat.mul_eq_zero.1 hlen with h0 | h0
           · exact h0
           · omega
          subst hl0
          simp only [List.replicate_zero,List.flatten_nil] at k3
          simp only [Instr.buildSlice,Sem.run_bind,run_underlying ht,Result.andThen_ok,run_sizeOf he,Nat.zero_mul,if_true,Sem.run_pure,hpl]
          rw [if_neg (by omega)]
          simp only [Sem.run_bind,Sem.run_pure,Result.andThen_ok]
          have e0:∀ f:Nat→Value,Array.map f (Array.range 0)=#[]:=fun f=>by apply Array.ext';simp
          rw [e0]
          rw [k3]
          simp [newRow]
        · have hk3:Instr.fill (fun i=>some (i * z45 ek,z45 ek)) (List.replicate len z.cells.toList).flatten.toArray (parts.map fun (i,x)=>(i,a.eval x)).toList=some us.toArray:=by
           rw [hpl]
           exact k3
          clear hf k3 hrow0
          exact wj0 (us:=us) (P:=P) (w:=w) ht he hi hz hzs hlen hlim _ hk3
       have hrun:(execOp a.eval o).run P w=.ok (.value (.slice (some ⟨w.heap.size,0,none⟩) len len)) (w.alloc (.cells us.toArray e (0,0))):=by
        simp only [execOp,ho,Sem.run_bind,hrun0,Result.andThen_ok,Sem.run_pure]
       cases fz with
       | true=>
         simp only [if_true] at hd
         injection hd with hd
         injection hd with q1 q2
         subst q1;subst q2
         have hkeep:Keeps F1 (fun b=>F1 b∨b=w.heap.size) w (w.alloc (.cells us.toArray e (0,0))):=Keeps.of (fun b hb=>.inl hb) (fun b hb=>heap_alloc_old w _ b (k1.fthere b hb))
         have hg:Grows F1 (fun b=>F1 b∨b=w.heap.size) H1 H1 m m w (w.alloc (.cells us.toArray e (0,0))):=
          ⟨hkeep,fun _ _ cs h=>⟨rfl,cs,h,rfl⟩,fun _ fz e ek ver xs h=>⟨fz,ver,xs,h,Nat.le_refl _,fun _=>⟨rfl,rfl⟩⟩⟩
         have hlt:∀ j,j<H1.length→(m j).blk<w.heap.size:=fun j hj=>k1.there j H1[j] (List.getElem?_eq_getElem hj)
         have hh2:RHeap (w.alloc (.cells us.toArray e (0,0))) (fun b=>F1 b∨b=w.heap.size) H1 m:=
          k1.same hg (fun _ _=>rfl) (fun id hid=>heap_alloc_old w _ _ (hlt id hid)) (by rw [z96];omega) (fun b hb=>by
           rcases hb with hb | hb
           · exact .inl hb
           · subst hb
             exact .inr ⟨by rw [z96];omega,fun id hid=>Nat.ne_of_lt (hlt id hid)⟩)
         have st:Stp w.heap.size F1 (fun b=>F1 b∨b=w.heap.size) H1 H1 m m w (w.alloc (.cells us.toArray e (0,0))):=
          ⟨hg,by rw [z96];omega,rfl,rfl,rfl,fun b hb hid=>⟨heap_alloc_old w _ b hb,hid,fun hf=>by
           rcases hf with hf | hf
           · exact hf
           · omega⟩⟩
         refine zm4 hs hN (k2.trans st) hh2 ?_ (by simp) h hrun
         rw [rh_c];unfold RC
         refine ⟨_,_,by rw [hxl],by rw [hxl];exact Nat.le_refl _,fun _=>⟨w.heap.size,0,us,rfl,.inr rfl,?_,RRow.keep hkeep _ _ _ k4⟩⟩
         exact z90 (rest:=[]) (by simpa using heap_alloc_new w (.cells us.toArray e (0,0)))
       | false=>
         simp only [Bool.false_eq_true,if_false] at hd
         injection hd with hd
         injection hd with q1 q2
         subst q1;subst q2
         have st1:=qp2 k1 (.cells us.toArray e (0,0)) (.row false e ek 0 xs) len
         have hh1:=qf7 k1 (vs:=us) (e:=e) (ho:=.row false e ek 0 xs) (cap:=len) (fun ek' cs he=>by cases he) (fun fz e' ek' ver xs' he'=>by
          injection he' with y1 y2 y3 y4 y5
          subst y1;subst y2;subst y3;subst y4;subst y5
          have hcap:len≤maxLen:=by
           have:len≤len * z45 ek:=Nat.le_mul_of_pos_right _ hpos
           simp only [maxLen];omega
          exact ⟨rfl,rfl,us,[],by simp,RRow.keep st1.g.keeps _ _ _ k4,by simp [hul],hcap,hpos⟩)
         refine zm4 hs hN (k2.trans st1) hh1 (u:=.slice (some ⟨w.heap.size,0,none⟩) len len) ?_ (by simp) h hrun
         unfold RH
         refine ⟨_,_,rfl,⟨false,e,ek,0,xs,by simp,Nat.le_refl _⟩,fun fz e2 ek2 xs2 hH2=>?_⟩
         simp at hH2
         obtain ⟨y1,y2,y3,y4⟩:=hH2
         subst y4;subst y3
         exact ⟨by omega,by simp [upd],Nat.le_refl _,fun _=>by simp [upd]⟩
   · cases hd
end
end Go.Proofs.Lz
namespace Go.Proofs.Lz
variable [GlobTab]
def q42 (P:Program) (f:Nat) (H:Heap) (args:List HV) (r:HV) (H':Heap):Prop:=
 ∀ (w:World) (F:Nat→Prop) (m:LMap) (vs:List Value),RHeap w F H m→RHs w F H m args vs →
  (callFunc f vs.toArray).run P w=.ok (.enter f vs.toArray) w ∧
  Calls P f vs.toArray w (fun e w'=>∃ v F' m',e=.returned v∧Stp w.heap.size F F' H H' m m' w w'∧RHeap w' F' H' m'∧RH w' F' H' m' r v∧∀ ek x,r≠.lbox ek x)
def zu8 (P:Program) (call:za3):Prop:=∀ f args H r H',call f args H=some (r,H')→q42 P f H args r H'
section
variable {P:Program} {fb N:Nat} {w:World} {F:Nat→Prop} {H:Heap} {m:LMap} {lb:Nat→Nat} {fr:Fr} {a:Act} {o:Oper}
variable {K:Act→World→Prop} {Q:Exit→Act→World→Prop}
theorem qw4 (hh:RHeap w F H m) {F':Nat→Prop} (hk:∀ b,F b→F' b) {v:HV} {x:Value} {u:CV} (h:RH w F H m v x) (ht:q47 H v=some u) (hF:∀ id,id<H.length→F' (m id).blk):RC w F' u x:=by
 have hlt:∀ id,j00 H id→id<H.length:=fun id ⟨_,_,_,_,_,hr⟩=>(List.getElem?_eq_some_iff.1 hr).1
 unfold q47 at ht
 split at ht
 · rename_i id off
   split at ht
   · rename_i ek cs hH
     cases hl:zc2 H cs with
     | none=>rw [hl] at ht;cases ht
     | some l=>
       rw [hl] at ht
       dsimp only at ht
       split at ht
       · rename_i hlen
         cases hu:zc0 ek l with
         | none=>rw [hu] at ht;cases ht
         | some y=>
           rw [hu] at ht
           injection ht with ht;subst ht
           unfold RH at h
           obtain ⟨rfl,_⟩:=h
           obtain ⟨_,vs,e,k1,k2,k3⟩:=hh.var id ek cs hH
           have hrc:=q67 hh hk k2 hl (fun j _ hr=>hF j (hlt j hr))
           obtain ⟨y',r1,r2,r3⟩:=q21 hrc k3 (by rw [zh2 hrc,hlen]) hu
           unfold RC
           refine ⟨(m id).blk,0,y',by simp,hF id (List.getElem?_eq_some_iff.1 hH).1,r3,?_,r1⟩
           rw [r2]
           exact z90 (rest:=[]) (by simpa using k1)
       · cases ht
   · cases ht
 · exact zq4 hh hk h ht (fun id _ hr=>hF id (hlt id hr))
theorem qn1 (hh:RHeap w F H m) {F':Nat→Prop} (hk:∀ b,F b→F' b) (hF:∀ id,id<H.length→F' (m id).blk):∀ {vs:List HV} {xs:List Value} {us:List CV},RHs w F H m vs xs→zk6 H vs=some us→RCs w F' us xs:=by
 intro vs
 induction vs with
 | nil=>intro xs us h ht;simp [zk6] at ht;subst ht;rw [rhs_nil] at h;subst h;exact rcs_nil.2 rfl
 | cons v vs ih=>
   intro xs us h ht
   unfold zk6 at ht
   cases h1:q47 H v with
   | none=>rw [h1] at ht;cases ht
   | some u=>
     cases h2:zk6 H vs with
     | none=>rw [h1,h2] at ht;cases ht
     | some us'=>
       rw [h1,h2] at ht
       injection ht with ht;subst ht
       rw [rhs_cons] at h
       obtain ⟨x,xs',rfl,h3,h4⟩:=h
       exact rcs_cons.2 ⟨x,xs',rfl,qw4 hh hk h3 h1 hF,ih h4 h2⟩
theorem j15 (hh:RHeap w F H m) {F':Nat→Prop} (hk:∀ b,F b→F' b) (hF:∀ id,id<H.length→F' (m id).blk):∀ {vs:List HV} {xs:List Value} {us:List HV},RHs w F H m vs xs→z99 H vs=some us→RHs w F' [] m us xs:=by
 have hlt:∀ id,j00 H id→id<H.length:=fun id ⟨_,_,_,_,_,hr⟩=>(List.getElem?_eq_some_iff.1 hr).1
 intro vs
 induction vs with
 | nil=>intro xs us h ht;simp [z99] at ht;subst ht;rw [rhs_nil] at h;subst h;exact rhs_nil.2 rfl
 | cons v vs ih=>
   intro xs us h ht
   unfold z99 at ht
   cases h1:thaw H v with
   | none=>rw [h1] at ht;cases ht
   | some u=>
     cases h2:z99 H vs with
     | none=>rw [h1,h2] at ht;cases ht
     | some us'=>
       rw [h1,h2] at ht
       injection ht with ht;subst ht
       rw [rhs_cons] at h
       obtain ⟨x,xs',rfl,h3,h4⟩:=h
       refine rhs_cons.2 ⟨x,xs',rfl,rh_c.2 ?_,ih h4 h2⟩
       unfold thaw at h1
       split at h1
       · rename_i f first cap
         cases e1:zk6 H first with
         | none=>rw [e1] at h1;cases h1
         | some l1=>
           cases e2:zk6 H cap with
           | none=>rw [e1,e2] at h1;cases h1
           | some l2=>
             rw [e1,e2] at h1
             injection h1 with h1;subst h1
             unfold RH at h3
             obtain ⟨ps,qs,rfl,h5,h6⟩:=h3
             unfold RC
             exact ⟨ps,qs,rfl,qn1 hh hk hF h5 e1,qn1 hh hk hF h6 e2⟩
       · exact qw4 hh hk h3 h1 hF
theorem jh5 (hh:RHeap w F H m):∀ {vs:List HV} {xs:List Value} {us:List HV},RHs w F H m vs xs→vs.all isC=true→z99 H vs=some us→RHs w F [] m us xs:=by
 intro vs
 induction vs with
 | nil=>intro xs us h _ ht;simp [z99] at ht;subst ht;rw [rhs_nil] at h;subst h;exact rhs_nil.2 rfl
 | cons v vs ih=>
   intro xs us h hc ht
   rw [List.all_cons,Bool.and_eq_true] at hc
   unfold z99 at ht
   cases h1:thaw H v with
   | none=>rw [h1] at ht;cases ht
   | some u=>
     cases h2:z99 H vs with
     | none=>rw [h1,h2] at ht;cases ht
     | some us'=>
       rw [h1,h2] at ht
       injection ht with ht;subst ht
       rw [rhs_cons] at h
       obtain ⟨x,xs',rfl,h3,h4⟩:=h
       refine rhs_cons.2 ⟨x,xs',rfl,rh_c.2 ?_,ih h4 hc.2 h2⟩
       cases v with
       | c y=>simp [thaw,q47,zg3,zj3] at h1;subst h1;exact rh_c.1 h3
       | nils=>exact zq4 hh (fun _ q=>q) h3 h1 (fun id hi _=>by obtain ⟨p,q,r,hm⟩:=hi;simp [qc1] at hm)
       | _=>simp [isC] at hc
theorem qk8:∀ (vs:List HV) (H:Heap),Frzs H (q41 vs H):=by
 intro vs
 induction vs with
 | nil=>intro H;exact Frzs.refl H
 | cons v vs ih=>
   intro H
   unfold q41
   rw [j52]
   exact (zy2 _ H).trans (ih _)
theorem w78:∀ (vs:List HV) (H:Heap) (v:HV) (id:Nat) {fz:Bool} {e:Nat} {ek:Option Nat} {ver:Nat} {xs:List CV},v∈vs→IdIn id (qc1 v)→H[id]?=some (.row fz e ek ver xs)→(q41 vs H)[id]?=some (.row true e ek ver xs):=by
 intro vs
 induction vs with
 | nil=>intro H v id fz e ek ver xs hm;simp at hm
 | cons v0 vs ih=>
   intro H v id fz e ek ver xs hm hi hH
   unfold q41
   rw [j52]
   rcases List.mem_cons.1 hm with rfl | hm
   · have h1:=je5 (qc1 v) H id hi hH
     obtain ⟨fz',h2,h3⟩:=(qk8 vs (zk2 (qc1 v) H)).row id true e ek ver xs h1
     rw [h3 rfl] at h2
     exact h2
   · obtain ⟨fz',h2,_⟩:=(zy2 (qc1 v0) H).row id fz e ek ver xs hH
     exact ih _ v id hm hi h2
theorem qt4 (hh:RHeap w F H m) {F':Nat→Prop} (hk:∀ b,F b→F' b):∀ {vs:List HV} {xs:List Value} {us:List HV},RHs w F H m vs xs→vs.all noFn=true→(∀ v∈vs,∀ id,IdIn id (qc1 v)→j00 H id→F' (m id).blk)→z99 H vs=some us→RHs w F' [] m us xs:=by
 intro vs
 induction vs with
 | nil=>intro xs us h _ _ ht;simp [z99] at ht;subst ht;rw [rhs_nil] at h;subst h;exact rhs_nil.2 rfl
 | cons v vs ih=>
   intro xs us h hc hF ht
   rw [List.all_cons,Bool.and_eq_true] at hc
   unfold z99 at ht
   cases h1:thaw H v with
   | none=>rw [h1] at ht;cases ht
   | some u=>
     cases h2:z99 H vs with
     | none=>rw [h1,h2] at ht;cases ht
     | some us'=>
       rw [h1,h2] at ht
       injection ht with ht;subst ht
       rw [rhs_cons] at h
       obtain ⟨x,xs',rfl,h3,h4⟩:=h
       refine rhs_cons.2 ⟨x,xs',rfl,rh_c.2 ?_,ih h4 hc.2 (fun v hv=>hF v (List.mem_cons_of_mem _ hv)) h2⟩
       have h1':zg3 H v=some u:=by
        unfold thaw at h1
        split at h1
        · simp [noFn] at hc
        · unfold q47 at h1
          split at h1
          · simp [noFn] at hc
          · exact h1
       exact zq4 hh hk h3 h1' (hF v List.mem_cons_self)
theorem jj4 (hh:RHeap w F H m) {F':Nat→Prop} (hk:∀ b,F b→F' b) (hF:∀ id,id<H.length→F' (m id).blk) {H0:Heap} {m0:LMap}:∀ {vs:List HV} {xs:List Value} {us:List HV},RHs w F H m vs xs→q46 H vs=some us→RHs w F' H0 m0 us xs:=by
 have hlt:∀ id,j00 H id→id<H.length:=fun id ⟨_,_,_,_,_,hr⟩=>(List.getElem?_eq_some_iff.1 hr).1
 intro vs
 induction vs with
 | nil=>intro xs us h ht;simp [q46] at ht;subst ht;rw [rhs_nil] at h;subst h;exact rhs_nil.2 rfl
 | cons v vs ih=>
   intro xs us h ht
   unfold q46 at ht
   cases h1:zg3 H v with
   | none=>rw [h1] at ht;cases ht
   | some u=>
     cases h2:q46 H vs with
     | none=>rw [h1,h2] at ht;cases ht
     | some us'=>
       rw [h1,h2] at ht
       injection ht with ht;subst ht
       rw [rhs_cons] at h
       obtain ⟨x,xs',rfl,h3,h4⟩:=h
       exact rhs_cons.2 ⟨x,xs',rfl,rh_c.2 (zq4 hh hk h3 h1 (fun id _ hr=>hF id (hlt id hr))),ih h4 h2⟩
theorem q16 (hh:RHeap w F H m) {F':Nat→Prop} (hk:∀ b,F b→F' b) (hF:∀ id,id<H.length→F' (m id).blk) {H0:Heap} {m0:LMap} {r r':HV} {x:Value} (h:RH w F H m r x) (ht:zn8 H r=some r'):RH w F' H0 m0 r' x∧∀ ek y,r'≠.lbox ek y:=by
 have hlt:∀ id,j00 H id→id<H.length:=fun id ⟨_,_,_,_,_,hr⟩=>(List.getElem?_eq_some_iff.1 hr).1
 unfold zn8 at ht
 split at ht
 · rename_i vs
   simp only [Option.map_eq_some_iff] at ht
   obtain ⟨us,h1,rfl⟩:=ht
   unfold RH at h
   obtain ⟨xs,rfl,h2⟩:=h
   refine ⟨?_,by simp⟩
   unfold RH
   exact ⟨xs,rfl,jj4 hh hk hF h2 h1⟩
 · simp only [Option.map_eq_some_iff] at ht
   obtain ⟨u,h1,rfl⟩:=ht
   exact ⟨rh_c.2 (zq4 hh hk h h1 (fun id _ hr=>hF id (hlt id hr))),by simp⟩
theorem qu8 {c:CV} {x:Value} {F0 F':Nat→Prop} {w':World} (hp:zt9 c=true) (h:RC w F0 c x):RC w' F' c x:=by
 cases c<;>simp [zt9] at hp<;>(unfold RC at h ⊢;exact h)
theorem jl1 {F0 F':Nat→Prop} {w':World}:∀ {l:List CV} {xs:List Value},l.all zt9=true→RCs w F0 l xs→RCs w' F' l xs:=by
 intro l
 induction l with
 | nil=>intro xs _ h;rw [rcs_nil] at h;subst h;exact rcs_nil.2 rfl
 | cons c l ih=>
   intro xs hp h
   rw [List.all_cons,Bool.and_eq_true] at hp
   rw [rcs_cons] at h
   obtain ⟨v,us,rfl,h1,h2⟩:=h
   exact rcs_cons.2 ⟨v,us,rfl,qu8 hp.1 h1,ih hp.2 h2⟩
theorem qk5 {c:CV} {x:Value} {F0 F':Nat→Prop} {w':World} (hp:noRef (.c c)=true) (h:RC w F0 c x):RC w' F' c x:=by
 cases c with
 | agg l=>
   simp only [noRef] at hp
   unfold RC at h ⊢
   obtain ⟨vs,h1,h2,h3⟩:=h
   exact ⟨vs,h1,jl1 hp h2,h3⟩
 | _=>exact qu8 (by simpa [noRef] using hp) h
theorem jl3 {F0 F':Nat→Prop} {w':World} {H0 H1:Heap} {m0 m1:LMap}:∀ {l:List HV} {xs:List Value},noRef.noRefL l=true→RHs w F0 H0 m0 l xs→RHs w' F' H1 m1 l xs:=by
 intro l
 induction l with
 | nil=>intro xs _ h;rw [rhs_nil] at h;subst h;exact rhs_nil.2 rfl
 | cons v l ih=>
   intro xs hp h
   rw [rhs_cons] at h
   obtain ⟨x,us,rfl,h1,h2⟩:=h
   cases v with
   | c c=>
     have hh:noRef (.c c)=true∧noRef.noRefL l=true:=by
      cases c<;>simpa [noRef.noRefL,noRef] using hp
     exact rhs_cons.2 ⟨x,us,rfl,rh_c.2 (qk5 hh.1 (rh_c.1 h1)),ih hh.2 h2⟩
   | _=>simp [noRef.noRefL] at hp
theorem jx8 {r:HV} {x:Value} {F0 F':Nat→Prop} {w':World} {H0 H1:Heap} {m0 m1:LMap} (hp:noRef r=true) (h:RH w F0 H0 m0 r x):RH w' F' H1 m1 r x:=by
 cases r with
 | c c=>exact rh_c.2 (qk5 hp (rh_c.1 h))
 | tup vs=>
   simp only [noRef] at hp
   unfold RH at h ⊢
   obtain ⟨xs,h1,h2⟩:=h
   exact ⟨xs,h1,jl3 hp h2⟩
 | _=>simp [noRef] at hp
theorem q29 {w w':World} {Fc F'':Nat→Prop} {H'':Heap} {m'':LMap} (hh:RHeap w F H m) (st:Stp w.heap.size Fc F'' [] H'' m m'' w w') :
 RHeap w' (fun b=>F b∨(w.heap.size≤b∧b<w'.heap.size)) H m∧Stp w.heap.size F (fun b=>F b∨(w.heap.size≤b∧b<w'.heap.size)) H H m m w w':=by
 have hold:∀ b,b<w.heap.size→w'.heap[b]?=w.heap[b]?:=fun b hb=>(st.far b hb (fun id hid=>by simp at hid)).1
 have hlt:∀ j,j<H.length→(m j).blk<w.heap.size:=fun j hj=>hh.there j H[j] (List.getElem?_eq_getElem hj)
 have hg:Grows F (fun b=>F b∨(w.heap.size≤b∧b<w'.heap.size)) H H m m w w':=
  ⟨Keeps.of (fun b hb=>.inl hb) (fun b hb=>hold b (hh.fthere b hb)),fun _ _ cs h=>⟨rfl,cs,h,rfl⟩,fun _ fz e ek ver xs h=>⟨fz,ver,xs,h,Nat.le_refl _,fun _=>⟨rfl,rfl⟩⟩⟩
 refine ⟨hh.same hg (fun _ _=>rfl) (fun id hid=>hold _ (hlt id hid)) st.size (fun b hb=>?_),hg,st.size,st.os,st.tape,st.output,fun b hb hid=>⟨hold b hb,hid,fun hf=>?_⟩⟩
 · rcases hb with hb | hb
   · exact .inl hb
   · exact .inr ⟨hb.2,fun id hid=>by have:=hlt id hid;omega⟩
 · rcases hf with hf | hf
   · exact hf
   · omega
end
end Go.Proofs.Lz
namespace Go.Proofs.Lz
variable [GlobTab]
section
variable {P:Program} {fb N:Nat} {w:World} {F:Nat→Prop} {H:Heap} {m:LMap} {lb:Nat→Nat} {fr:Fr} {a:Act} {o:Oper}
variable {K:Act→World→Prop} {Q:Exit→Act→World→Prop}
theorem qd3 (Fc:Nat→Prop) (hF:∀ b,Fc b→b<w.heap.size) (hG:Glob w Fc):RHeap w Fc [] m:=
 ⟨fun id o h=>by simp at h,hF,fun id ek cs h=>by simp at h,fun id ek cs T h=>by simp at h,fun id fz e ek ver xs h=>by simp at h,hG,fun id id' h=>by simp at h⟩
theorem qq6 {f:Nat} {a5:List HV} {r:HV} {H'':Heap} (hg:q42 P f [] a5 r H'') {Fc:Nat→Prop} (hFc:∀ b,Fc b→b<w.heap.size) (hG:Glob w Fc) {vs:List Value} (has:RHs w Fc [] m a5 vs) {R:Ending→World→Prop}
 (hR:∀ v F'' m'' w',Stp w.heap.size Fc F'' [] H'' m m'' w w'→RHeap w' F'' H'' m''→RH w' F'' H'' m'' r v→R (.returned v) w') :
 (callFunc f vs.toArray).run P w=.ok (.enter f vs.toArray) w∧Calls P f vs.toArray w R:=by
 obtain ⟨h1,h2⟩:=hg w Fc m vs (qd3 Fc hFc hG) has
 refine ⟨h1,h2.mono ?_⟩
 rintro e w' ⟨v,F'',m'',rfl,st,hh,hr,_⟩
 exact hR v F'' m'' w' st hh hr
theorem qd5 {E:Env} {call:za3} (hc:zu8 P call):zu8 P (z91 E call):=by
 intro f args H r H' h
 unfold z91 at h
 cases hm:E.md f with
 | S=>rw [hm] at h;exact hc f args H r H' h
 | P=>
   rw [hm] at h
   dsimp only at h
   cases ha:z99 H args with
   | none=>rw [ha] at h;cases h
   | some a5=>
     rw [ha] at h
     dsimp only at h
     cases hcl:call f a5 [] with
     | none=>rw [hcl] at h;cases h
     | some p=>
       obtain ⟨r0,H''⟩:=p
       rw [hcl] at h
       dsimp only at h
       cases ht:zn8 H'' r0 with
       | none=>rw [ht] at h;cases h
       | some r'=>
         rw [ht] at h
         dsimp only at h
         have hgood:=hc f a5 [] r0 H'' hcl
         intro w F m vs hh hargs
         have hnew:∀ {Fc F'':Nat→Prop} {m'':LMap} {w':World},Stp w.heap.size Fc F'' [] H'' m m'' w w'→RHeap w' F'' H'' m''→(∀ b,F'' b→Fc b∨(w.heap.size≤b∧b<w'.heap.size))∧∀ id,id<H''.length→w.heap.size≤(m'' id).blk∧(m'' id).blk<w'.heap.size:=by
          intro Fc F'' m'' w' st hh''
          constructor
          · intro b hb
            by_cases hlt:b<w.heap.size
            · exact .inl ((st.far b hlt (fun id hid=>by simp at hid)).2.2 hb)
            · exact .inr ⟨by omega,hh''.fthere b hb⟩
          · intro id hid
            have h2:=hh''.there id H''[id] (List.getElem?_eq_getElem hid)
            refine ⟨?_,h2⟩
            by_cases hlt:(m'' id).blk<w.heap.size
            · exact absurd rfl ((st.far _ hlt (fun id hid=>by simp at hid)).2.1 id hid)
            · omega
         split at h
         · rename_i hcase
           injection h with h
           injection h with z1 z2
           subst z1;subst z2
           rw [Bool.or_eq_true] at hcase
           rcases hcase with hcase | hcase
           · have has:=jh5 hh hargs hcase ha
             refine qq6 hgood hh.fthere hh.glob has ?_
             intro v F'' m'' w' st hh'' hr
             obtain ⟨n1,n2⟩:=hnew st hh''
             obtain ⟨k1,k2⟩:=q29 hh st
             obtain ⟨k3,k4⟩:=q16 hh'' (F':=fun b=>F b∨(w.heap.size≤b∧b<w'.heap.size)) n1 (fun id hid=>.inr (n2 id hid)) (H0:=H) (m0:=m) hr ht
             exact ⟨v,_,m,rfl,k2,k1,k3,k4⟩
           · have has:=j15 hh (F':=fun b=>F b∨∃ id,id<H.length∧(m id).blk=b) (fun b hb=>.inl hb) (fun id hid=>.inr ⟨id,hid,rfl⟩) hargs ha
             refine qq6 hgood (fun b hb=>?_) (hh.glob.more fun b hb=>.inl hb) has ?_
             · rcases hb with hb | ⟨id,hid,rfl⟩
               · exact hh.fthere b hb
               · exact hh.there id H[id] (List.getElem?_eq_getElem hid)
             · intro v F'' m'' w' st hh'' hr
               obtain ⟨k1,k2⟩:=q29 hh st
               obtain ⟨k3,k4⟩:=q16 hh'' (F':=fun b=>b<w'.heap.size) hh''.fthere (fun id hid=>hh''.there id H''[id] (List.getElem?_eq_getElem hid)) (H0:=H) (m0:=m) hr ht
               exact ⟨v,_,m,rfl,k2,k1,jx8 hcase k3,k4⟩
         · split at h
           · rename_i hno
             injection h with h
             injection h with z1 z2
             subst z1;subst z2
             have hz:=qk8 args H
             obtain ⟨g1,g2⟩:=qg1 hh hz
             have has:=qt4 hh (F':=fun b=>F b∨FzOf (q41 args H) m b) (fun b hb=>.inl hb) hargs hno (fun v hv id hi hrow=>by
              obtain ⟨fz,e,ek,ver,xs,hr⟩:=hrow
              exact .inr ⟨id,e,ek,ver,xs,w78 args H v id hv hi hr,rfl⟩) ha
             refine qq6 hgood g1.fthere g1.glob has ?_
             intro v F'' m'' w' st hh'' hr
             obtain ⟨n1,n2⟩:=hnew st hh''
             obtain ⟨k1,k2⟩:=q29 g1 st
             obtain ⟨k3,k4⟩:=q16 hh'' (F':=fun b=>(F b∨FzOf (q41 args H) m b)∨(w.heap.size≤b∧b<w'.heap.size)) n1 (fun id hid=>.inr (n2 id hid)) (H0:=q41 args H) (m0:=m) hr ht
             exact ⟨v,_,m,rfl,g2.trans k2,k1,k3,k4⟩
           · cases h
theorem qt9 {f:Nat} {args:List HV} {vs:List Value} {r:HV} {H':Heap} (hg:q42 P f H args r H') (hs:RS fb N w F H m lb fr a) (hN:∀ d,o.dst=some d→d<N) (hargs:RHs w F H m args vs)
 (hrun:(execOp a.eval o).run P w=(callFunc f vs.toArray).run P w) (h:Next fb N w F H m (fr.put o.dst r) H' K):o.wp P a w K Q:=by
 obtain ⟨h1,h2⟩:=hg w F m vs hs.heap hargs
 unfold Oper.wp
 rw [hrun,h1]
 rw [Oper.upon_enter]
 refine h2.mono ?_
 rintro e w' ⟨v,F',m',rfl,st,hh,hr,hb⟩
 exact h F' m' lb _ w' (st.mono hs.fb) ⟨hh,(hs.fr.step st).put o.dst hN hr hb,Nat.le_trans hs.fb st.size⟩
theorem wc9 {E:Env} {call:za3} (hok:zu8 P call) {f:FuncId} {args:Array Operand} {ts:Array TypeId} {ias:List Opd} (ho:o.op=.call { callee:=.value (.func f),args,argTypes:=ts }) (hx:zr3 args.toList=some ias) (hs:RS fb N w F H m lb fr a) (hN:∀ d,o.dst=some d→d<N)
 {fr':Fr} {H':Heap} (hd:doOp E call (.call f ias) o.dst fr H=some (fr',H')) (h:Next fb N w F H m fr' H' K):o.wp P a w K Q:=by
 unfold doOp at hd
 dsimp only at hd
 cases hc:z91 E call f (ias.map fr.opd) H with
 | none=>rw [hc] at hd;simp [zh7] at hd
 | some p=>
   obtain ⟨r,H1⟩:=p
   rw [hc] at hd
   simp only [zh7,Option.some.injEq,Prod.mk.injEq] at hd
   obtain ⟨q1,q2⟩:=hd
   subst q1;subst q2
   have hargs:=qb5 hs.fr hx
   refine qt9 (qd5 hok f _ H r _ hc) hs hN hargs ?_ h
   have e:args.map a.eval=(args.toList.map a.eval).toArray:=by apply Array.ext';simp
   simp [execOp,ho,resolve,Act.eval,Deferred.ofValue,invoke,e,Sem.run_bind]
theorem jw3 {E:Env} {call:za3} (hok:zu8 P call) {t:Tmp} {args:Array Operand} {ts:Array TypeId} {ias:List Opd} (ho:o.op=.call { callee:=.value (.tmp t),args,argTypes:=ts }) (hx:zr3 args.toList=some ias) (hs:RS fb N w F H m lb fr a) (hN:∀ d,o.dst=some d→d<N)
 {fr':Fr} {H':Heap} (hd:doOp E call (.callv (.t t) ias) o.dst fr H=some (fr',H')) (h:Next fb N w F H m fr' H' K):o.wp P a w K Q:=by
 unfold doOp at hd
 dsimp only at hd
 obtain ⟨hf,_⟩:=z78 hs.fr (x:=.tmp t) (ix:=.t t) rfl
 have hargs:=qb5 hs.fr hx
 cases htg:zt0 (fr.opd (.t t)) (ias.map fr.opd) with
 | none=>rw [htg] at hd;cases hd
 | some p=>
   obtain ⟨f,a5⟩:=p
   rw [htg] at hd
   dsimp only at hd
   cases hc:z91 E call f a5 H with
   | none=>rw [hc] at hd;simp [zh7] at hd
   | some p=>
     obtain ⟨r,H1⟩:=p
     rw [hc] at hd
     simp only [zh7,Option.some.injEq,Prod.mk.injEq] at hd
     obtain ⟨q1,q2⟩:=hd
     subst q1;subst q2
     have key:∃ ps qs:List Value,a.eval (.tmp t)=.func (.func f) ps.toArray qs.toArray∧RHs w F H m a5 (ps++args.toList.map a.eval++qs):=by
      unfold zt0 at htg
      split at htg
      · rename_i g first cap e
        injection htg with htg
        injection htg with z1 z2
        subst z1;subst z2
        rw [e,rh_c] at hf
        unfold RC at hf
        obtain ⟨ps,qs,h1,h2,h3⟩:=hf
        exact ⟨ps,qs,h1,zn4 (zn4 (jl0 h2) hargs) (jl0 h3)⟩
      · rename_i g first cap e
        injection htg with htg
        injection htg with z1 z2
        subst z1;subst z2
        rw [e] at hf
        unfold RH at hf
        obtain ⟨ps,qs,h1,h2,h3⟩:=hf
        exact ⟨ps,qs,h1,zn4 (zn4 h2 hargs) h3⟩
      · cases htg
     obtain ⟨ps,qs,hev,hrel⟩:=key
     refine qt9 (qd5 hok f _ H r _ hc) hs hN hrel ?_ h
     have e:args.map a.eval=(args.toList.map a.eval).toArray:=by apply Array.ext';simp
     have e2:ps.toArray++(args.toList.map a.eval).toArray++qs.toArray=(ps++args.toList.map a.eval++qs).toArray:=by simp
     simp only [execOp,ho,resolve,hev,Deferred.ofValue,invoke,e,Sem.run_bind,Sem.run_pure,Result.andThen_ok,e2]
end
end Go.Proofs.Lz
