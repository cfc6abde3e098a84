/- Every operation that the small code has. -/
import Derived.Test.YtencoceemejcnaaGreatDoorLzLit
set_option linter.unusedVariables false
set_option linter.unusedSimpArgs false
set_option linter.unusedSectionVars false
namespace Go.Proofs.Lz
variable [GlobTab]
def gV (P:Program) (f:Nat) (H:j6) (args:List HV) (r:HV) (H':j6):Prop:=
 ∀ (w:World) (F:Nat->Prop) (m:a7) (vs:List Value),RHeap w F H m->RHs w F H m args vs ->
  (callFunc f vs.toArray).run P w=.ok (.enter f vs.toArray) w /\
  Calls P f vs.toArray w (fun e w'=>∃ v F' m',e=.returned v/\Stp w.heap.size F F' H H' m m' w w'/\RHeap w' F' H' m'/\RH w' F' H' m' r v/\∀ ek x,r≠.lbox ek x)
def zP (P:Program) (call:f7):Prop:=∀ f args H r H',call f args H=some (r,H')->gV P f H args r H'
section
variable {P:Program} {fb N:Nat} {w:World} {F:Nat->Prop} {H:j6} {m:a7} {lb:Nat->Nat} {fr:Fr} {a:Act} {o:Oper}
variable {K:Act->World->Prop} {Q:Exit->Act->World->Prop}
theorem zn0 (hh:RHeap w F H m) {F':Nat->Prop} (hk:∀ b,F b->F' b) {v:HV} {x:Value} {u:CV} (h:RH w F H m v x) (ht:U5 H v=some u) (hF:∀ id,id<H.length->F' (m id).blk):RC w F' u x:=by
 have hlt:∀ id,jV H id->id<H.length:=fun id ⟨_,_,_,_,_,hr⟩=>(gEs hr).1;unfold U5 at ht;split at ht
 . rename_i id off;split at ht
   . rename_i ek cs hH;cases hl:F6 H cs with
     | none=>rw [hl] at ht;cases ht
     | some l=>
       rw [hl] at ht;dsimp only at ht;split at ht
       . rename_i hlen;cases hu:J1 ek l with
         | none=>rw [hu] at ht;cases ht
         | some y=>
           rw [hu] at ht;injection ht with ht;subst ht;unfold RH at h;obtain ⟨rfl,_⟩:=h;obtain ⟨_,vs,e,k1,k2,k3⟩:=hh.var id ek cs hH;have hrc:=aH hh hk k2 hl (fun j _ hr=>hF j (hlt j hr));obtain ⟨y',r1,r2,r3⟩:=rI hrc k3 (by rw [jE hrc,hlen]) hu;unfold RC;refine ⟨(m id).blk,0,y',by simp,hF id (gEs hH).1,r3,?_,r1⟩;rw [r2];exact Y8 (rest:=[]) (by simpa using k1)
       . cases ht
   . cases ht
 . exact yJ hh hk h ht (fun id _ hr=>hF id (hlt id hr))
theorem zm5 (hh:RHeap w F H m) {F':Nat->Prop} (hk:∀ b,F b->F' b) (hF:∀ id,id<H.length->F' (m id).blk):∀ {vs:List HV} {xs:List Value} {us:List CV},RHs w F H m vs xs->O8 H vs=some us->RCs w F' us xs:=by
 intro vs;induction vs with
 | nil=>intro xs us h ht;simp [O8] at ht;subst ht;rw [rhs_nil] at h;subst h;exact rcs_nil.2 rfl
 | cons v vs ih=>
   intro xs us h ht;unfold O8 at ht;cases h1:U5 H v with
   | none=>rw [h1] at ht;cases ht
   | some u=>
     cases h2:O8 H vs with
     | none=>rw [h1,h2] at ht;cases ht
     | some us'=>
       rw [h1,h2] at ht;injection ht with ht;subst ht;rw [rhs_cons] at h;obtain ⟨x,xs',rfl,h3,h4⟩:=h;exact rcs_cons.2 ⟨x,xs',rfl,zn0 hh hk h3 h1 hF,ih h4 h2⟩
theorem zw6 (hh:RHeap w F H m) {F':Nat->Prop} (hk:∀ b,F b->F' b) (hF:∀ id,id<H.length->F' (m id).blk):∀ {vs:List HV} {xs:List Value} {us:List HV},RHs w F H m vs xs->J0 H vs=some us->RHs w F' [] m us xs:=by
 have hlt:∀ id,jV H id->id<H.length:=fun id ⟨_,_,_,_,_,hr⟩=>(gEs hr).1;intro vs;induction vs with
 | nil=>intro xs us h ht;simp [J0] at ht;subst ht;rw [rhs_nil] at h;subst h;exact rhs_nil.2 rfl
 | cons v vs ih=>
   intro xs us h ht;unfold J0 at ht;cases h1:thaw H v with
   | none=>rw [h1] at ht;cases ht
   | some u=>
     cases h2:J0 H vs with
     | none=>rw [h1,h2] at ht;cases ht
     | some us'=>
       rw [h1,h2] at ht;injection ht with ht;subst ht;rw [rhs_cons] at h;obtain ⟨x,xs',rfl,h3,h4⟩:=h;refine rhs_cons.2 ⟨x,xs',rfl,rh_c.2 ?_,ih h4 h2⟩;unfold thaw at h1;split at h1
       . rename_i f first cap;cases e1:O8 H first with
         | none=>rw [e1] at h1;cases h1
         | some l1=>
           cases e2:O8 H cap with
           | none=>rw [e1,e2] at h1;cases h1
           | some l2=>
             rw [e1,e2] at h1;injection h1 with h1;subst h1;unfold RH at h3;obtain ⟨ps,qs,rfl,h5,h6⟩:=h3;unfold RC;exact ⟨ps,qs,rfl,zm5 hh hk hF h5 e1,zm5 hh hk hF h6 e2⟩
       . exact zn0 hh hk h3 h1 hF
theorem qy5 (hh:RHeap w F H m):∀ {vs:List HV} {xs:List Value} {us:List HV},RHs w F H m vs xs->vs.all isC=true->J0 H vs=some us->RHs w F [] m us xs:=by
 intro vs;induction vs with
 | nil=>intro xs us h _ ht;simp [J0] at ht;subst ht;rw [rhs_nil] at h;subst h;exact rhs_nil.2 rfl
 | cons v vs ih=>
   intro xs us h hc ht;rw [List.all_cons,Bool.and_eq_true] at hc;unfold J0 at ht;cases h1:thaw H v with
   | none=>rw [h1] at ht;cases ht
   | some u=>
     cases h2:J0 H vs with
     | none=>rw [h1,h2] at ht;cases ht
     | some us'=>
       rw [h1,h2] at ht;injection ht with ht;subst ht;rw [rhs_cons] at h;obtain ⟨x,xs',rfl,h3,h4⟩:=h;refine rhs_cons.2 ⟨x,xs',rfl,rh_c.2 ?_,ih h4 hc.2 h2⟩;cases v with
       | c y=>simp [thaw,U5,D2,F4] at h1;subst h1;exact rh_c.1 h3
       | nils=>exact yJ hh (fun _ q=>q) h3 h1 (fun id hi _=>by obtain ⟨p,q,r,hm⟩:=hi;simp [zR] at hm)
       | _=>simp [isC] at hc
theorem zj3:∀ (vs:List HV) (H:j6),Frzs H (W4 vs H):=by
 intro vs;induction vs with
 | nil=>intro H;exact Frzs.refl H
 | cons v vs ih=>
   intro H;unfold W4;rw [lE];exact (mS _ H).trans (ih _)
theorem jd1:∀ (vs:List HV) (H:j6) (v:HV) (id:Nat) {fz:Bool} {e:Nat} {ek:Option Nat} {ver:Nat} {xs:List CV},v∈vs->yF id (zR v)->H[id]?=some (.row fz e ek ver xs)->(W4 vs H)[id]?=some (.row true e ek ver xs):=by
 intro vs;induction vs with
 | nil=>intro H v id fz e ek ver xs hm;simp at hm
 | cons v0 vs ih=>
   intro H v id fz e ek ver xs hm hi hH;unfold W4;rw [lE];rcases List.mem_cons.1 hm with rfl | hm
   . have h1:=zh2 (zR v) H id hi hH;obtain ⟨fz',h2,h3⟩:=(zj3 vs (G5 (zR v) H)).row id true e ek ver xs h1;rw [h3 rfl] at h2;exact h2
   . obtain ⟨fz',h2,_⟩:=(mS (zR v0) H).row id fz e ek ver xs hH;exact ih _ v id hm hi h2
theorem zy0 (hh:RHeap w F H m) {F':Nat->Prop} (hk:∀ b,F b->F' b):∀ {vs:List HV} {xs:List Value} {us:List HV},RHs w F H m vs xs->vs.all jP=true->(∀ v∈vs,∀ id,yF id (zR v)->jV H id->F' (m id).blk)->J0 H vs=some us->RHs w F' [] m us xs:=by
 intro vs;induction vs with
 | nil=>intro xs us h _ _ ht;simp [J0] at ht;subst ht;rw [rhs_nil] at h;subst h;exact rhs_nil.2 rfl
 | cons v vs ih=>
   intro xs us h hc hF ht;rw [List.all_cons,Bool.and_eq_true] at hc;unfold J0 at ht;cases h1:thaw H v with
   | none=>rw [h1] at ht;cases ht
   | some u=>
     cases h2:J0 H vs with
     | none=>rw [h1,h2] at ht;cases ht
     | some us'=>
       rw [h1,h2] at ht;injection ht with ht;subst ht;rw [rhs_cons] at h;obtain ⟨x,xs',rfl,h3,h4⟩:=h;refine rhs_cons.2 ⟨x,xs',rfl,rh_c.2 ?_,ih h4 hc.2 (fun v hv=>hF v (List.mem_cons_of_mem _ hv)) h2⟩;have h1':D2 H v=some u:=by
        unfold thaw at h1;split at h1
        . simp [jP] at hc
        . unfold U5 at h1;split at h1
          . simp [jP] at hc
          . exact h1
       exact yJ hh hk h3 h1' (hF v List.mem_cons_self)
theorem qe5 (hh:RHeap w F H m) {F':Nat->Prop} (hk:∀ b,F b->F' b) (hF:∀ id,id<H.length->F' (m id).blk) {H0:j6} {m0:a7}:∀ {vs:List HV} {xs:List Value} {us:List HV},RHs w F H m vs xs->jQ H vs=some us->RHs w F' H0 m0 us xs:=by
 have hlt:∀ id,jV H id->id<H.length:=fun id ⟨_,_,_,_,_,hr⟩=>(gEs hr).1;intro vs;induction vs with
 | nil=>intro xs us h ht;simp [jQ] at ht;subst ht;rw [rhs_nil] at h;subst h;exact rhs_nil.2 rfl
 | cons v vs ih=>
   intro xs us h ht;unfold jQ at ht;cases h1:D2 H v with
   | none=>rw [h1] at ht;cases ht
   | some u=>
     cases h2:jQ H vs with
     | none=>rw [h1,h2] at ht;cases ht
     | some us'=>
       rw [h1,h2] at ht;injection ht with ht;subst ht;rw [rhs_cons] at h;obtain ⟨x,xs',rfl,h3,h4⟩:=h;exact rhs_cons.2 ⟨x,xs',rfl,rh_c.2 (yJ hh hk h3 h1 (fun id _ hr=>hF id (hlt id hr))),ih h4 h2⟩
theorem aN (hh:RHeap w F H m) {F':Nat->Prop} (hk:∀ b,F b->F' b) (hF:∀ id,id<H.length->F' (m id).blk) {H0:j6} {m0:a7} {r r':HV} {x:Value} (h:RH w F H m r x) (ht:qD H r=some r'):RH w F' H0 m0 r' x/\∀ ek y,r'≠.lbox ek y:=by
 have hlt:∀ id,jV H id->id<H.length:=fun id ⟨_,_,_,_,_,hr⟩=>(gEs hr).1;unfold qD at ht;split at ht
 . rename_i vs;simp only [Option.map_eq_some_iff] at ht;obtain ⟨us,h1,rfl⟩:=ht;unfold RH at h;obtain ⟨xs,rfl,h2⟩:=h;refine ⟨?_,by simp⟩;unfold RH;exact ⟨xs,rfl,qe5 hh hk hF h2 h1⟩
 . simp only [Option.map_eq_some_iff] at ht;obtain ⟨u,h1,rfl⟩:=ht;exact ⟨rh_c.2 (yJ hh hk h h1 (fun id _ hr=>hF id (hlt id hr))),by simp⟩
theorem z49 {c:CV} {x:Value} {F0 F':Nat->Prop} {w':World} (hp:Z8 c=true) (h:RC w F0 c x):RC w' F' c x:=by
 cases c<;>simp [Z8] at hp<;>(unfold RC at h ⊢;exact h)
theorem qc3 {F0 F':Nat->Prop} {w':World}:∀ {l:List CV} {xs:List Value},l.all Z8=true->RCs w F0 l xs->RCs w' F' l xs:=by
 intro l;induction l with
 | nil=>intro xs _ h;rw [rcs_nil] at h;subst h;exact rcs_nil.2 rfl
 | cons c l ih=>
   intro xs hp h;rw [List.all_cons,Bool.and_eq_true] at hp;rw [rcs_cons] at h;obtain ⟨v,us,rfl,h1,h2⟩:=h;exact rcs_cons.2 ⟨v,us,rfl,z49 hp.1 h1,ih hp.2 h2⟩
theorem z82 {c:CV} {x:Value} {F0 F':Nat->Prop} {w':World} (hp:noRef (.c c)=true) (h:RC w F0 c x):RC w' F' c x:=by
 cases c with
 | agg l=>
   simp only [noRef] at hp;unfold RC at h ⊢;obtain ⟨vs,h1,h2,h3⟩:=h;exact ⟨vs,h1,qc3 hp h2,h3⟩
 | _=>exact z49 (by simpa [noRef] using hp) h
theorem qd9 {F0 F':Nat->Prop} {w':World} {H0 H1:j6} {m0 m1:a7}:∀ {l:List HV} {xs:List Value},noRef.noRefL l=true->RHs w F0 H0 m0 l xs->RHs w' F' H1 m1 l xs:=by
 intro l;induction l with
 | nil=>intro xs _ h;rw [rhs_nil] at h;subst h;exact rhs_nil.2 rfl
 | cons v l ih=>
   intro xs hp h;rw [rhs_cons] at h;obtain ⟨x,us,rfl,h1,h2⟩:=h;cases v with
   | c c=>
     have hh:noRef (.c c)=true/\noRef.noRefL l=true:=by
      cases c<;>simpa [noRef.noRefL,noRef] using hp
     exact rhs_cons.2 ⟨x,us,rfl,rh_c.2 (z82 hh.1 (rh_c.1 h1)),ih hh.2 h2⟩
   | _=>simp [noRef.noRefL] at hp
theorem j17 {r:HV} {x:Value} {F0 F':Nat->Prop} {w':World} {H0 H1:j6} {m0 m1:a7} (hp:noRef r=true) (h:RH w F0 H0 m0 r x):RH w' F' H1 m1 r x:=by
 cases r with
 | c c=>exact rh_c.2 (z82 hp (rh_c.1 h))
 | tup vs=>
   simp only [noRef] at hp;unfold RH at h ⊢;obtain ⟨xs,h1,h2⟩:=h;exact ⟨xs,h1,qd9 hp h2⟩
 | _=>simp [noRef] at hp
theorem pS {w w':World} {Fc F'':Nat->Prop} {H'':j6} {m'':a7} (hh:RHeap w F H m) (st:Stp w.heap.size Fc F'' [] H'' m m'' w w') :
 RHeap w' (fun b=>F b\/(w.heap.size<=b/\b<w'.heap.size)) H m/\Stp w.heap.size F (fun b=>F b\/(w.heap.size<=b/\b<w'.heap.size)) H H m m w w':=by
 have hold:∀ b,b<w.heap.size->w'.heap[b]?=w.heap[b]?:=fun b hb=>(st.far b hb (fun id hid=>by simp at hid)).1;have hlt:∀ j,j<H.length->(m j).blk<w.heap.size:=fun j hj=>hh.there j H[j] (gEg hj);have hg:Grows F (fun b=>F b\/(w.heap.size<=b/\b<w'.heap.size)) H H m m w w':=
  ⟨Keeps.of (fun b hb=>.inl hb) (fun b hb=>hold b (hh.fthere b hb)),fun _ _ cs h=>⟨rfl,cs,h,rfl⟩,fun _ fz e ek ver xs h=>⟨fz,ver,xs,h,Nat.le_refl _,fun _=>⟨rfl,rfl⟩⟩⟩
 refine ⟨hh.same hg (fun _ _=>rfl) (fun id hid=>hold _ (hlt id hid)) st.size (fun b hb=>?_),hg,st.size,st.os,st.tape,st.output,fun b hb hid=>⟨hold b hb,hid,fun hf=>?_⟩⟩
 . rcases hb with hb | hb
   . exact .inl hb
   . exact .inr ⟨hb.2,fun id hid=>by have:=hlt id hid;omega⟩
 . rcases hf with hf | hf
   . exact hf
   . omega
end
end Go.Proofs.Lz
namespace Go.Proofs.Lz
variable [GlobTab]
section
variable {P:Program} {fb N:Nat} {w:World} {F:Nat->Prop} {H:j6} {m:a7} {lb:Nat->Nat} {fr:Fr} {a:Act} {o:Oper}
variable {K:Act->World->Prop} {Q:Exit->Act->World->Prop}
theorem zn7 (Fc:Nat->Prop) (hF:∀ b,Fc b->b<w.heap.size) (hG:Glob w Fc):RHeap w Fc [] m:=
 ⟨fun id o h=>by simp at h,hF,fun id ek cs h=>by simp at h,fun id ek cs T h=>by simp at h,fun id fz e ek ver xs h=>by simp at h,hG,fun id id' h=>by simp at h⟩
theorem cY {f:Nat} {a5:List HV} {r:HV} {H'':j6} (hg:gV P f [] a5 r H'') {Fc:Nat->Prop} (hFc:∀ b,Fc b->b<w.heap.size) (hG:Glob w Fc) {vs:List Value} (has:RHs w Fc [] m a5 vs) {R:Ending->World->Prop}
 (hR:∀ v F'' m'' w',Stp w.heap.size Fc F'' [] H'' m m'' w w'->RHeap w' F'' H'' m''->RH w' F'' H'' m'' r v->R (.returned v) w') :
 (callFunc f vs.toArray).run P w=.ok (.enter f vs.toArray) w/\Calls P f vs.toArray w R:=by
 obtain ⟨h1,h2⟩:=hg w Fc m vs (zn7 Fc hFc hG) has;refine ⟨h1,h2.mono ?_⟩;rintro e w' ⟨v,F'',m'',rfl,st,hh,hr,_⟩;exact hR v F'' m'' w' st hh hr
theorem zi6 {E:Env} {call:f7} (hc:zP P call):zP P (G6 E call):=by
 intro f args H r H' h;unfold G6 at h;cases hm:E.md f with
 | S=>rw [hm] at h;exact hc f args H r H' h
 | P=>
   rw [hm] at h;dsimp only at h;cases ha:J0 H args with
   | none=>rw [ha] at h;cases h
   | some a5=>
     rw [ha] at h;dsimp only at h;cases hcl:call f a5 [] with
     | none=>rw [hcl] at h;cases h
     | some p=>
       obtain ⟨r0,H''⟩:=p;rw [hcl] at h;dsimp only at h;cases ht:qD H'' r0 with
       | none=>rw [ht] at h;cases h
       | some r'=>
         rw [ht] at h;dsimp only at h;have hgood:=hc f a5 [] r0 H'' hcl;intro w F m vs hh hargs;have hnew:∀ {Fc F'':Nat->Prop} {m'':a7} {w':World},Stp w.heap.size Fc F'' [] H'' m m'' w w'->RHeap w' F'' H'' m''->(∀ b,F'' b->Fc b\/(w.heap.size<=b/\b<w'.heap.size))/\∀ id,id<H''.length->w.heap.size<=(m'' id).blk/\(m'' id).blk<w'.heap.size:=by
          intro Fc F'' m'' w' st hh'';constructor
          . intro b hb;by_cases hlt:b<w.heap.size
            . exact .inl ((st.far b hlt (fun id hid=>by simp at hid)).2.2 hb)
            . exact .inr ⟨by omega,hh''.fthere b hb⟩
          . intro id hid;have h2:=hh''.there id H''[id] (gEg hid);refine ⟨?_,h2⟩;by_cases hlt:(m'' id).blk<w.heap.size
            . exact absurd rfl ((st.far _ hlt (fun id hid=>by simp at hid)).2.1 id hid)
            . omega
         split at h
         . rename_i hcase;injection h with h;injection h with z1 z2;subst z1;subst z2;rw [Bool.or_eq_true] at hcase;rcases hcase with hcase | hcase
           . have has:=qy5 hh hargs hcase ha;refine cY hgood hh.fthere hh.glob has ?_;intro v F'' m'' w' st hh'' hr;obtain ⟨n1,n2⟩:=hnew st hh'';obtain ⟨k1,k2⟩:=pS hh st;obtain ⟨k3,k4⟩:=aN hh'' (F':=fun b=>F b\/(w.heap.size<=b/\b<w'.heap.size)) n1 (fun id hid=>.inr (n2 id hid)) (H0:=H) (m0:=m) hr ht;exact ⟨v,_,m,rfl,k2,k1,k3,k4⟩
           . have has:=zw6 hh (F':=fun b=>F b\/∃ id,id<H.length/\(m id).blk=b) (fun b hb=>.inl hb) (fun id hid=>.inr ⟨id,hid,rfl⟩) hargs ha;refine cY hgood (fun b hb=>?_) (hh.glob.more fun b hb=>.inl hb) has ?_
             . rcases hb with hb | ⟨id,hid,rfl⟩
               . exact hh.fthere b hb
               . exact hh.there id H[id] (gEg hid)
             . intro v F'' m'' w' st hh'' hr;obtain ⟨k1,k2⟩:=pS hh st;obtain ⟨k3,k4⟩:=aN hh'' (F':=fun b=>b<w'.heap.size) hh''.fthere (fun id hid=>hh''.there id H''[id] (gEg hid)) (H0:=H) (m0:=m) hr ht;exact ⟨v,_,m,rfl,k2,k1,j17 hcase k3,k4⟩
         . split at h
           . rename_i hno;injection h with h;injection h with z1 z2;subst z1;subst z2;have hz:=zj3 args H;obtain ⟨g1,g2⟩:=aJ hh hz;have has:=zy0 hh (F':=fun b=>F b\/gR (W4 args H) m b) (fun b hb=>.inl hb) hargs hno (fun v hv id hi hrow=>by
              obtain ⟨fz,e,ek,ver,xs,hr⟩:=hrow;exact .inr ⟨id,e,ek,ver,xs,jd1 args H v id hv hi hr,rfl⟩) ha
             refine cY hgood g1.fthere g1.glob has ?_;intro v F'' m'' w' st hh'' hr;obtain ⟨n1,n2⟩:=hnew st hh'';obtain ⟨k1,k2⟩:=pS g1 st;obtain ⟨k3,k4⟩:=aN hh'' (F':=fun b=>(F b\/gR (W4 args H) m b)\/(w.heap.size<=b/\b<w'.heap.size)) n1 (fun id hid=>.inr (n2 id hid)) (H0:=W4 args H) (m0:=m) hr ht;exact ⟨v,_,m,rfl,g2.trans k2,k1,k3,k4⟩
           . cases h
theorem z97 {f:Nat} {args:List HV} {vs:List Value} {r:HV} {H':j6} (hg:gV P f H args r H') (hs:RS fb N w F H m lb fr a) (hN:∀ d,o.dst=some d->d<N) (hargs:RHs w F H m args vs)
 (hrun:(execOp a.eval o).run P w=(callFunc f vs.toArray).run P w) (h:Next fb N w F H m (fr.put o.dst r) H' K):o.wp P a w K Q:=by
 obtain ⟨h1,h2⟩:=hg w F m vs hs.heap hargs;unfold Oper.wp;rw [hrun,h1];rw [Oper.upon_enter];refine h2.mono ?_;rintro e w' ⟨v,F',m',rfl,st,hh,hr,hb⟩;exact h F' m' lb _ w' (st.mono hs.fb) ⟨hh,(hs.fr.step st).put o.dst hN hr hb,Nat.le_trans hs.fb st.size⟩
theorem qn9 {E:Env} {call:f7} (hok:zP P call) {f:FuncId} {args:Array Operand} {ts:Array TypeId} {ias:List Opd} (ho:o.op=.call { callee:=.value (.func f),args,argTypes:=ts }) (hx:X1 args.toList=some ias) (hs:RS fb N w F H m lb fr a) (hN:∀ d,o.dst=some d->d<N)
 {fr':Fr} {H':j6} (hd:i8 E call (.call f ias) o.dst fr H=some (fr',H')) (h:Next fb N w F H m fr' H' K):o.wp P a w K Q:=by
 unfold i8 at hd;dsimp only at hd;cases hc:G6 E call f (ias.map fr.opd) H with
 | none=>rw [hc] at hd;simp [S2] at hd
 | some p=>
   obtain ⟨r,H1⟩:=p;rw [hc] at hd;simp only [S2,Option.some.injEq,Prod.mk.injEq] at hd;obtain ⟨q1,q2⟩:=hd;subst q1;subst q2;have hargs:=bJ hs.fr hx;refine z97 (zi6 hok f _ H r _ hc) hs hN hargs ?_ h;have e:args.map a.eval=(args.toList.map a.eval).toArray:=by apply Array.ext';simp
   simp [execOp,ho,resolve,Act.eval,Deferred.ofValue,invoke,e,Sem.run_bind]
theorem qx8 {E:Env} {call:f7} (hok:zP P call) {t:Tmp} {args:Array Operand} {ts:Array TypeId} {ias:List Opd} (ho:o.op=.call { callee:=.value (.tmp t),args,argTypes:=ts }) (hx:X1 args.toList=some ias) (hs:RS fb N w F H m lb fr a) (hN:∀ d,o.dst=some d->d<N)
 {fr':Fr} {H':j6} (hd:i8 E call (.callv (.t t) ias) o.dst fr H=some (fr',H')) (h:Next fb N w F H m fr' H' K):o.wp P a w K Q:=by
 unfold i8 at hd;dsimp only at hd;obtain ⟨hf,_⟩:=B8 hs.fr (x:=.tmp t) (ix:=.t t) rfl;have hargs:=bJ hs.fr hx;cases htg:xQ (fr.opd (.t t)) (ias.map fr.opd) with
 | none=>rw [htg] at hd;cases hd
 | some p=>
   obtain ⟨f,a5⟩:=p;rw [htg] at hd;dsimp only at hd;cases hc:G6 E call f a5 H with
   | none=>rw [hc] at hd;simp [S2] at hd
   | some p=>
     obtain ⟨r,H1⟩:=p;rw [hc] at hd;simp only [S2,Option.some.injEq,Prod.mk.injEq] at hd;obtain ⟨q1,q2⟩:=hd;subst q1;subst q2;have key:∃ ps qs:List Value,a.eval (.tmp t)=.func (.func f) ps.toArray qs.toArray/\RHs w F H m a5 (ps++args.toList.map a.eval++qs):=by
      unfold xQ at htg;split at htg
      . rename_i g first cap e;injection htg with htg;injection htg with z1 z2;subst z1;subst z2;rw [e,rh_c] at hf;unfold RC at hf;obtain ⟨ps,qs,h1,h2,h3⟩:=hf;exact ⟨ps,qs,h1,uR (uR (yN h2) hargs) (yN h3)⟩
      . rename_i g first cap e;injection htg with htg;injection htg with z1 z2;subst z1;subst z2;rw [e] at hf;unfold RH at hf;obtain ⟨ps,qs,h1,h2,h3⟩:=hf;exact ⟨ps,qs,h1,uR (uR h2 hargs) h3⟩
      . cases htg
     obtain ⟨ps,qs,hev,hrel⟩:=key;refine z97 (zi6 hok f _ H r _ hc) hs hN hrel ?_ h;have e:args.map a.eval=(args.toList.map a.eval).toArray:=by apply Array.ext';simp
     have e2:ps.toArray++(args.toList.map a.eval).toArray++qs.toArray=(ps++args.toList.map a.eval++qs).toArray:=by simp
     simp only [execOp,ho,resolve,hev,Deferred.ofValue,invoke,e,Sem.run_bind,Sem.run_pure,Result.andThen_ok,e2]
end
end Go.Proofs.Lz
namespace Go.Proofs.Lz
variable [GlobTab]
section
variable {P:Program} {fb N:Nat} {w:World} {F:Nat->Prop} {H:j6} {m:a7} {lb:Nat->Nat} {fr:Fr} {a:Act} {o:Oper}
variable {K:Act->World->Prop} {Q:Exit->Act->World->Prop}
theorem j64 {t:TypeId} {v:Value}:(Instr.box t v).run P w=.ok (.pointer (some ⟨w.heap.size,0,none⟩)) (w.alloc (.cells v.cells t (0,0))):=by
 simp [Instr.box,newVar,newRow]
theorem q40 {t:TypeId} {z:Value} (hz:zeroOf P t=some z):(Instr.alloc t true (.tuple #[])).run P w=.ok (.pointer (some ⟨w.heap.size,0,none⟩)) (w.alloc (.cells z.cells t (0,0))):=by
 unfold zeroOf at hz;cases hi:P.info? t with
 | none=>simp [hi] at hz
 | some i=>
   simp [hi] at hz;simp [Instr.alloc,zeroValue,typeInfo,hi,hz,newVar,newRow]
theorem zm3 {x:HV} {v:Value} (hx:uX v=some x):RH w F H m (fr.opd (.k x)) v:=(ze3 hx).1
theorem q27:∀ {l:List Value} {cs:List CV},zM l=some cs->cs.length=l.length:=by
 intro l;induction l with
 | nil=>intro cs h;simp [zM] at h;subst h;rfl
 | cons v l ih=>
   intro cs h;unfold zM at h;cases h1:N4 v with
   | none=>rw [h1] at h;cases h
   | some c=>
     cases h2:zM l with
     | none=>rw [h1,h2] at h;cases h
     | some cs'=>rw [h1,h2] at h;injection h with h;subst h;simp [ih h2]
theorem z39 {E:Env} {call:f7} (hok:zP P call) {all:List Oper} {lvl:Nat} {io:IOp} (hc:mR P all lvl o=some io) (hs:RS fb N w F H m lb fr a) (hN:∀ d,o.dst=some d->d<N)
 {fr':Fr} {H':j6} (hd:i8 E call io o.dst fr H=some (fr',H')) (h:Next fb N w F H m fr' H' K):o.wp P a w K Q:=by
 unfold mR at hc;split at hc
 . rename_i x ho;simp only [Option.map_eq_some_iff] at hc;obtain ⟨ix,hx,rfl⟩:=hc;exact za8 (.inl ho) hx hs hN hd h
 . rename_i x ho;simp only [Option.map_eq_some_iff] at hc;obtain ⟨ix,hx,rfl⟩:=hc;exact za8 (.inr ho) hx hs hN hd h
 . rename_i c x y ho;split at hc
   . rename_i ic ix iy h1 h2 h3;injection hc with hc;subst hc;exact q73 ho h1 h2 h3 hs hN hd h
   . cases hc
 . rename_i e ho;split at hc
   . rename_i z ek h1 h2;cases hz:zeroOf P e with
     | none=>rw [hz] at h1;cases h1
     | some zv=>
       rw [hz] at h1;simp only [Option.bind_some] at h1;have hrun:(execOp a.eval o).run P w=.ok (.value (.pointer (some ⟨w.heap.size,0,none⟩))) (w.alloc (.cells zv.cells e (0,0))):=by
        simp only [execOp,ho,Sem.run_bind,q40 hz,Result.andThen_ok,Sem.run_pure]
       split at hc
       . injection hc with hc;subst hc;exact z03 hrun (zm3 h1) hs hN hd h
       . simp only [Option.map_eq_some_iff] at hc;obtain ⟨k,hk,rfl⟩:=hc;exact zo3 hrun (zm3 h1) (z18 hk) hs hN hd h
   . cases hc
 . rename_i e x ho;split at hc
   . rename_i ix ek h1 h2;have hrun:(execOp a.eval o).run P w=.ok (.value (.pointer (some ⟨w.heap.size,0,none⟩))) (w.alloc (.cells (a.eval x).cells e (0,0))):=by
      simp only [execOp,ho,Sem.run_bind,j64,Result.andThen_ok,Sem.run_pure]
     split at hc
     . injection hc with hc;subst hc;exact qa1 hrun (B8 hs.fr h1).1 hs hN hd h
     split at hc
     . injection hc with hc;subst hc;exact z03 hrun (B8 hs.fr h1).1 hs hN hd h
     . simp only [Option.map_eq_some_iff] at hc;obtain ⟨k,hk,rfl⟩:=hc;exact zo3 hrun (B8 hs.fr h1).1 (z18 hk) hs hN hd h
   . cases hc
 . rename_i t parts ho;split at hc
   . rename_i fs z h1 h2;split at hc
     . rename_i pl h3;simp only [Option.map_eq_some_iff] at hc;obtain ⟨ips,h4,rfl⟩:=hc;exact j50 ho h1 h2 h3 h4 hs hN hd h
     . cases hc
   . cases hc
 . rename_i t len parts ho;split at hc
   . rename_i e h1;split at hc
     . rename_i ek z ps h2 h3 h4;split at hc
       . rename_i hlim;injection hc with hc;subst hc;cases hi:P.info? e with
         | none=>simp [zeroOf,hi] at h3
         | some i=>
           cases hz:i.zero with
           | none=>simp [zeroOf,hi,hz] at h3
           | some zv=>
             simp only [zeroOf,hi,hz,Option.bind_some] at h3;exact q90 ho h1 h2 hi hz (by have:=q27 h3;rw [hlim.2] at this;simpa using this.symm) h3 h4 hlim.1 hs hN hd h
       . cases hc
     . cases hc
   . cases hc
 . rename_i t x ho;split at hc
   . rename_i ek ix h1 h2;injection hc with hc;subst hc;exact zt4 ho h1 h2 hs hN hd h
   . cases hc
 . rename_i t x y ho;split at hc
   . rename_i ek ix iy h0 h1 h2 h3;injection hc with hc;subst hc;exact j51 ho h0 h1 h2 h3 hs hd h
   . cases hc
 . rename_i x ho;simp only [Option.map_eq_some_iff] at hc;obtain ⟨ix,hx,rfl⟩:=hc;exact qy2 ho hx hs hN hd h
 . rename_i op xt x y yt ho;split at hc
   . rename_i ix iy h1 h2;split at hc
     . split at hc
       . rename_i hu;injection hc with hc;subst hc;exact z06 ho (.inl rfl) hu h1 h2 hs hN hd h
       . injection hc with hc;subst hc;exact gU ho h1 h2 hs hN hd h
       . injection hc with hc;subst hc;exact gU ho h1 h2 hs hN hd h
       . rename_i fs hu;split at hc
         . cases hc
         . rename_i hg;simp only [Option.map_eq_some_iff] at hc;obtain ⟨ks,hk,rfl⟩:=hc;exact oY ho (.inl rfl) hu (by simpa using hg) hk h1 h2 hs hN hd h
       . rename_i hu;split at hc
         . rename_i hn;injection hc with hc;subst hc;exact wB ho (.inl rfl) hu (.inl ⟨rfl,_,rfl⟩) hn h1 hs hN hd h
         . cases hc
       . rename_i hu;split at hc
         . rename_i hn;injection hc with hc;subst hc;exact wB ho (.inl rfl) hu (.inr (.inl ⟨rfl,_,rfl⟩)) hn h1 hs hN hd h
         . cases hc
       . rename_i hu;split at hc
         . rename_i hn;injection hc with hc;subst hc;exact wB ho (.inl rfl) hu (.inr (.inr (.inl ⟨rfl,_,_,_,rfl⟩))) hn h1 hs hN hd h
         . cases hc
       . rename_i hu;split at hc
         . rename_i hn;injection hc with hc;subst hc;exact wB ho (.inl rfl) hu (.inr (.inr (.inr ⟨rfl,_,rfl⟩))) hn h1 hs hN hd h
         . cases hc
       . cases hc
     . split at hc
       . rename_i hu;injection hc with hc;subst hc;exact z06 ho (.inr rfl) hu h1 h2 hs hN hd h
       . injection hc with hc;subst hc;exact gU ho h1 h2 hs hN hd h
       . injection hc with hc;subst hc;exact gU ho h1 h2 hs hN hd h
       . rename_i fs hu;split at hc
         . cases hc
         . rename_i hg;simp only [Option.map_eq_some_iff] at hc;obtain ⟨ks,hk,rfl⟩:=hc;exact oY ho (.inr rfl) hu (by simpa using hg) hk h1 h2 hs hN hd h
       . rename_i hu;split at hc
         . rename_i hn;injection hc with hc;subst hc;exact wB ho (.inr rfl) hu (.inl ⟨rfl,_,rfl⟩) hn h1 hs hN hd h
         . cases hc
       . rename_i hu;split at hc
         . rename_i hn;injection hc with hc;subst hc;exact wB ho (.inr rfl) hu (.inr (.inl ⟨rfl,_,rfl⟩)) hn h1 hs hN hd h
         . cases hc
       . rename_i hu;split at hc
         . rename_i hn;injection hc with hc;subst hc;exact wB ho (.inr rfl) hu (.inr (.inr (.inl ⟨rfl,_,_,_,rfl⟩))) hn h1 hs hN hd h
         . cases hc
       . rename_i hu;split at hc
         . rename_i hn;injection hc with hc;subst hc;exact wB ho (.inr rfl) hu (.inr (.inr (.inr ⟨rfl,_,rfl⟩))) hn h1 hs hN hd h
         . cases hc
       . cases hc
     . injection hc with hc;subst hc;exact gU ho h1 h2 hs hN hd h
   . cases hc
 . rename_i op xt x ho;simp only [Option.map_eq_some_iff] at hc;obtain ⟨ix,hx,rfl⟩:=hc;exact qx0 ho hx hs hN hd h
 . rename_i s d x ho;split at hc
   . rename_i k1 k h1 h2;simp only [Option.map_eq_some_iff] at hc;obtain ⟨ix,hx,rfl⟩:=hc;exact qb4 ho h1 h2 hx hs hN hd h
   . rename_i h1 h2;simp only [Option.map_eq_some_iff] at hc;obtain ⟨ix,hx,rfl⟩:=hc;exact qt0 ho h1 h2 hx hs hN hd h
   . rename_i e h1 h2;split at hc
     . rename_i he;simp only [Option.map_eq_some_iff] at hc;obtain ⟨ix,hx,rfl⟩:=hc;exact j52 ho h1 h2 he hx hs hN hd h
     . cases hc
   . cases hc
 . rename_i f first cap ho;split at hc
   . rename_i i1 i2 h1 h2;injection hc with hc;subst hc;exact j93 ho h1 h2 hs hN hd h
   . cases hc
 . rename_i t x lo hi ho;split at hc
   . rename_i ix il ih h1 h2 h3 h4;injection hc with hc;subst hc;exact fY ho (.inl ⟨rfl,h1⟩) h2 h3 h4 hs hN hd h
   . rename_i e ix il ih h1 h2 h3 h4;simp only [Option.map_eq_some_iff] at hc;obtain ⟨ek,he,rfl⟩:=hc;exact fY ho (.inr ⟨rfl,e,h1,he⟩) h2 h3 h4 hs hN hd h
   . cases hc
 . rename_i s x f ho;split at hc
   . rename_i fs h1;split at hc
     . rename_i fd h2;split at hc
       . rename_i ek ix h3 h4;injection hc with hc;subst hc;exact j43 ho h1 h2 h3 h4 hs hN hd h
       . cases hc
     . cases hc
   . cases hc
 . rename_i s x f ho;split at hc
   . rename_i fs h1;split at hc
     . rename_i fd h2;split at hc
       . rename_i ek ix h3 h4;injection hc with hc;subst hc;exact q62 ho h1 h2 h3 h4 hs hN hd h
       . cases hc
     . cases hc
   . cases hc
 . rename_i t x i ho;split at hc
   . rename_i e h1;split at hc
     . rename_i ek ix ii h2 h3 h4;injection hc with hc;subst hc;exact j45 ho h1 h2 h3 h4 hs hN hd h
     . cases hc
   . cases hc
 . rename_i t x i ho;split at hc
   . rename_i ix ii h1 h2 h3;injection hc with hc;subst hc;exact qh4 ho h1 h2 h3 hs hN hd h
   . cases hc
 . rename_i x i ho;simp only [Option.map_eq_some_iff] at hc;obtain ⟨ix,hx,rfl⟩:=hc;exact j74 ho hx hs hN hd h
 . rename_i b args ts ho;have harr:∀ {l:List Operand},args.toList=l->args=l.toArray:=fun e=>by rw [<-e]
   have harr2:∀ {l:List TypeId},ts.toList=l->ts=l.toArray:=fun e=>by rw [<-e]
   split at hc
   . rename_i x t e1 e2;rw [harr e1,harr2 e2] at ho;split at hc
     . rename_i ix h1 h2;injection hc with hc;subst hc;exact zh6 (ty:=o.type) ho (.inl ⟨rfl,h1⟩) h2 hs hN hd h
     . rename_i e ix h1 h2;injection hc with hc;subst hc;exact zh6 (ty:=o.type) ho (.inr ⟨rfl,e,h1⟩) h2 hs hN hd h
     . cases hc
   . rename_i s x t u e1 e2;rw [harr e1,harr2 e2] at ho;split at hc
     . rename_i e e' is ix h1 h2 h3 h4;split at hc
       . rename_i htu;subst htu;split at hc
         . rename_i ek n z h5 h6 h7;split at hc
           . rename_i hz;injection hc with hc;subst hc;cases hi:P.info? e with
             | none=>simp [zeroOf,hi] at h7
             | some i=>
               simp [zeroOf,hi] at h7;simp [nK,hi] at h6;subst h6;exact iD ho h1 (.inl ⟨_,h1⟩) h5 hi h7 hz h3 h4 hs hN hd h
           . cases hc
         . cases hc
       . cases hc
     . rename_i e is ix h1 h2 h3 h4;split at hc
       . rename_i ek n z h5 h6 h7;split at hc
         . rename_i hz;injection hc with hc;subst hc;cases hi:P.info? e with
           | none=>simp [zeroOf,hi] at h7
           | some i=>
             simp [zeroOf,hi] at h7;simp [nK,hi] at h6;subst h6;exact iD ho h1 (.inr h2) h5 hi h7 hz h3 h4 hs hN hd h
         . cases hc
       . cases hc
     . cases hc
   . rename_i x y e1;rw [harr e1] at ho;split at hc
     . rename_i ix iy h1 h2;injection hc with hc;subst hc;exact zb1 (isMax:=true) ho h1 h2 hs hN hd h
     . cases hc
   . rename_i x y e1;rw [harr e1] at ho;split at hc
     . rename_i ix iy h1 h2;injection hc with hc;subst hc;exact zb1 (isMax:=false) ho h1 h2 hs hN hd h
     . cases hc
   . cases hc
 . rename_i f args ts ho;simp only [Option.map_eq_some_iff] at hc;obtain ⟨ias,hx,rfl⟩:=hc;exact qn9 hok ho hx hs hN hd h
 . rename_i t args ts ho;simp only [Option.map_eq_some_iff] at hc;obtain ⟨ias,hx,rfl⟩:=hc;exact qx8 hok ho hx hs hN hd h
 . cases hc
end
end Go.Proofs.Lz
