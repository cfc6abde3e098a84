/- Every operation that the small code has. -/
import Derived.Test.YtlimfobeoodkjaaGreatDoorLzCall
set_option linter.unusedVariables false
set_option linter.unusedSimpArgs false
set_option linter.unusedSectionVars false
namespace Go.Proofs.Lz
variable [GlobTab]
section
variable {P:Program} {fb N:Nat} {w:World} {F:Nat->Prop} {H:q7} {m:j7} {lb:Nat->Nat} {fr:Fr} {a:Act} {o:Oper}
variable {K:Act->World->Prop} {Q:Exit->Act->World->Prop}
theorem xT (Fc:Nat->Prop) (hF:∀ b,Fc b->b<w.heap.size) (hG:Glob w Fc):RHeap w Fc [] m:=
 ⟨fun id o h=>by simp at h,hF,fun id ek cs h=>by simp at h,fun id ek cs T h=>by simp at h,fun id fz e ek ver xs h=>by simp at h,fun id es ck h=>by simp at h,hG,fun id id' h=>by simp at h⟩
theorem gX {f:Nat} {a5:List HV} {r:HV} {H'':q7} (hg:wA P f [] a5 r H'') {Fc:Nat->Prop} (hFc:∀ b,Fc b->b<w.heap.size) (hG:Glob w Fc) {vs:List Value} (has:RHs w Fc [] m a5 vs) {R:Ending->World->Prop}
 (hR:∀ v F'' m'' w',Stp w.heap.size Fc F'' [] H'' m m'' w w'->RHeap w' F'' H'' m''->RH w' F'' H'' m'' r v->R (.returned v) w') :
 (callFunc f vs.toArray).run P w=.ok (.enter f vs.toArray) w/\Calls P f vs.toArray w R:=by
 obtain ⟨h1,h2⟩:=hg w Fc m vs (xT Fc hFc hG) has;refine ⟨h1,h2.mono ?_⟩;rintro e w' ⟨v,F'',m'',rfl,st,hh,hr,_⟩;exact hR v F'' m'' w' st hh hr
theorem tH {E:Env} {call:j8} (hc:O0 P call):O0 P (l0 E call):=by
 intro f args H r H' h;unfold l0 at h;cases hm:E.md f with
 | S=>rw [hm] at h;exact hc f args H r H' h
 | P=>
   rw [hm] at h;dsimp only at h;cases ha:a8 H args with
   | none=>rw [ha] at h;cases h
   | some a5=>
     rw [ha] at h;dsimp only at h;cases hcl:call f a5 [] with
     | none=>rw [hcl] at h;cases h
     | some p=>
       obtain ⟨r0,H''⟩:=p;rw [hcl] at h;dsimp only at h;cases ht:O6 H'' r0 with
       | none=>rw [ht] at h;cases h
       | some r'=>
         rw [ht] at h;dsimp only at h;have hgood:=hc f a5 [] r0 H'' hcl;intro w F m vs hh hargs;have hnew:∀ {Fc F'':Nat->Prop} {m'':j7} {w':World},Stp w.heap.size Fc F'' [] H'' m m'' w w'->RHeap w' F'' H'' m''->(∀ b,F'' b->Fc b\/(w.heap.size<=b/\b<w'.heap.size))/\∀ id,id<H''.length->w.heap.size<=(m'' id).blk/\(m'' id).blk<w'.heap.size:=by
          intro Fc F'' m'' w' st hh'';constructor
          . intro b hb;by_cases hlt:b<w.heap.size
            . exact .inl ((st.far b hlt (fun id hid=>by simp at hid)).2.2 hb)
            . exact .inr ⟨by omega,hh''.fthere b hb⟩
          . intro id hid;have h2:=hh''.there id H''[id] (gEg hid);refine ⟨?_,h2⟩;by_cases hlt:(m'' id).blk<w.heap.size
            . exact absurd rfl ((st.far _ hlt (fun id hid=>by simp at hid)).2.1 id hid)
            . omega
         split at h
         . rename_i hcase;injection h with h;injection h with z1 z2;subst z1;subst z2;rw [Bool.or_eq_true] at hcase;rcases hcase with hcase | hcase
           . have has:=zo4 hh hargs hcase ha;refine gX hgood hh.fthere hh.glob has ?_;intro v F'' m'' w' st hh'' hr;obtain ⟨n1,n2⟩:=hnew st hh'';obtain ⟨k1,k2⟩:=xX hh st;obtain ⟨k3,k4⟩:=gU hh'' (F':=fun b=>F b\/(w.heap.size<=b/\b<w'.heap.size)) n1 (fun id hid=>.inr (n2 id hid)) (H0:=H) (m0:=m) hr ht;exact ⟨v,_,m,rfl,k2,k1,k3,k4⟩
           . have has:=zr0 hh (F':=fun b=>F b\/∃ id,id<H.length/\(m id).blk=b) (fun b hb=>.inl hb) (fun id hid=>.inr ⟨id,hid,rfl⟩) hargs ha;refine gX hgood (fun b hb=>?_) (hh.glob.more fun b hb=>.inl hb) has ?_
             . rcases hb with hb | ⟨id,hid,rfl⟩
               . exact hh.fthere b hb
               . exact hh.there id H[id] (gEg hid)
             . intro v F'' m'' w' st hh'' hr;obtain ⟨k1,k2⟩:=xX hh st;obtain ⟨k3,k4⟩:=gU hh'' (F':=fun b=>b<w'.heap.size) hh''.fthere (fun id hid=>hh''.there id H''[id] (gEg hid)) (H0:=H) (m0:=m) hr ht;exact ⟨v,_,m,rfl,k2,k1,zl0 hcase k3,k4⟩
         . split at h
           . rename_i hno;injection h with h;injection h with z1 z2;subst z1;subst z2;have hz:=rS args H;obtain ⟨g1,g2⟩:=mW hh hz;have has:=eU hh (F':=fun b=>F b\/wS (E3 args H) m b) (fun b hb=>.inl hb) hargs hno (fun v hv id hi hrow=>by
              obtain ⟨fz,e,ek,ver,xs,hr⟩:=hrow;exact .inr ⟨id,e,ek,ver,xs,z91 args H v id hv hi hr,rfl⟩) ha
             refine gX hgood g1.fthere g1.glob has ?_;intro v F'' m'' w' st hh'' hr;obtain ⟨n1,n2⟩:=hnew st hh'';obtain ⟨k1,k2⟩:=xX g1 st;obtain ⟨k3,k4⟩:=gU hh'' (F':=fun b=>(F b\/wS (E3 args H) m b)\/(w.heap.size<=b/\b<w'.heap.size)) n1 (fun id hid=>.inr (n2 id hid)) (H0:=E3 args H) (m0:=m) hr ht;exact ⟨v,_,m,rfl,g2.trans k2,k1,k3,k4⟩
           . cases h
theorem mB {f:Nat} {args:List HV} {vs:List Value} {r:HV} {H':q7} (hg:wA P f H args r H') (hs:RS fb N w F H m lb fr a) (hN:∀ d,o.dst=some d->d<N) (hargs:RHs w F H m args vs)
 (hrun:(execOp a.eval o).run P w=(callFunc f vs.toArray).run P w) (h:Next fb N w F H m (fr.put o.dst r) H' K):o.wp P a w K Q:=by
 obtain ⟨h1,h2⟩:=hg w F m vs hs.heap hargs;unfold Oper.wp;rw [hrun,h1];rw [Oper.upon_enter];refine h2.mono ?_;rintro e w' ⟨v,F',m',rfl,st,hh,hr,hb⟩;exact h F' m' lb _ w' (st.mono hs.fb) ⟨hh,(hs.fr.step st).put o.dst hN hr hb,Nat.le_trans hs.fb st.size⟩
theorem zy8 {E:Env} {call:j8} (hok:O0 P call) {f:FuncId} {args:Array Operand} {ts:Array TypeId} {ias:List Opd} (ho:o.op=.call { callee:=.value (.func f),args,argTypes:=ts }) (hx:G2 args.toList=some ias) (hs:RS fb N w F H m lb fr a) (hN:∀ d,o.dst=some d->d<N)
 {fr':Fr} {H':q7} (hd:f8 E call (.call f ias) o.dst fr H=some (fr',H')) (h:Next fb N w F H m fr' H' K):o.wp P a w K Q:=by
 unfold f8 at hd;dsimp only at hd;cases hc:l0 E call f (ias.map fr.opd) H with
 | none=>rw [hc] at hd;simp [F4] at hd
 | some p=>
   obtain ⟨r,H1⟩:=p;rw [hc] at hd;simp only [F4,Option.some.injEq,Prod.mk.injEq] at hd;obtain ⟨q1,q2⟩:=hd;subst q1;subst q2;have hargs:=jY hs.fr hx;refine mB (tH hok f _ H r _ hc) hs hN hargs ?_ h;have e:args.map a.eval=(args.toList.map a.eval).toArray:=by apply Array.ext';simp
   simp [execOp,ho,resolve,Act.eval,Deferred.ofValue,invoke,e,Sem.run_bind]
theorem zv9 {E:Env} {call:j8} (hok:O0 P call) {t:Tmp} {args:Array Operand} {ts:Array TypeId} {ias:List Opd} (ho:o.op=.call { callee:=.value (.tmp t),args,argTypes:=ts }) (hx:G2 args.toList=some ias) (hs:RS fb N w F H m lb fr a) (hN:∀ d,o.dst=some d->d<N)
 {fr':Fr} {H':q7} (hd:f8 E call (.callv (.t t) ias) o.dst fr H=some (fr',H')) (h:Next fb N w F H m fr' H' K):o.wp P a w K Q:=by
 unfold f8 at hd;dsimp only at hd;obtain ⟨hf,_⟩:=j9 hs.fr (x:=.tmp t) (ix:=.t t) rfl;have hargs:=jY hs.fr hx;cases htg:Z1 (fr.opd (.t t)) (ias.map fr.opd) with
 | none=>rw [htg] at hd;cases hd
 | some p=>
   obtain ⟨f,a5⟩:=p;rw [htg] at hd;dsimp only at hd;cases hc:l0 E call f a5 H with
   | none=>rw [hc] at hd;simp [F4] at hd
   | some p=>
     obtain ⟨r,H1⟩:=p;rw [hc] at hd;simp only [F4,Option.some.injEq,Prod.mk.injEq] at hd;obtain ⟨q1,q2⟩:=hd;subst q1;subst q2;have key:∃ ps qs:List Value,a.eval (.tmp t)=.func (.func f) ps.toArray qs.toArray/\RHs w F H m a5 (ps++args.toList.map a.eval++qs):=by
      unfold Z1 at htg;split at htg
      . rename_i g first cap e;injection htg with htg;injection htg with z1 z2;subst z1;subst z2;rw [e,rh_c] at hf;unfold RC at hf;obtain ⟨ps,qs,h1,h2,h3⟩:=hf;exact ⟨ps,qs,h1,qV (qV (zN h2) hargs) (zN h3)⟩
      . rename_i g first cap e;injection htg with htg;injection htg with z1 z2;subst z1;subst z2;rw [e] at hf;unfold RH at hf;obtain ⟨ps,qs,h1,h2,h3⟩:=hf;exact ⟨ps,qs,h1,qV (qV h2 hargs) h3⟩
      . cases htg
     obtain ⟨ps,qs,hev,hrel⟩:=key;refine mB (tH hok f _ H r _ hc) hs hN hrel ?_ h;have e:args.map a.eval=(args.toList.map a.eval).toArray:=by apply Array.ext';simp
     have e2:ps.toArray++(args.toList.map a.eval).toArray++qs.toArray=(ps++args.toList.map a.eval++qs).toArray:=by simp
     simp only [execOp,ho,resolve,hev,Deferred.ofValue,invoke,e,Sem.run_bind,Sem.run_pure,Result.andThen_ok,e2]
end
end Go.Proofs.Lz
namespace Go.Proofs.Lz
variable [GlobTab]
section
variable {P:Program} {fb N:Nat} {w:World} {F:Nat->Prop} {H:q7} {m:j7} {lb:Nat->Nat} {fr:Fr} {a:Act} {o:Oper}
variable {K:Act->World->Prop} {Q:Exit->Act->World->Prop}
theorem za0 {t:TypeId} {v:Value}:(Instr.box t v).run P w=.ok (.pointer (some ⟨w.heap.size,0,none⟩)) (w.alloc (.cells v.cells t (0,0))):=by
 simp [Instr.box,newVar,newRow]
theorem iM {t:TypeId} {z:Value} (hz:zeroOf P t=some z):(Instr.alloc t true (.tuple #[])).run P w=.ok (.pointer (some ⟨w.heap.size,0,none⟩)) (w.alloc (.cells z.cells t (0,0))):=by
 unfold zeroOf at hz;cases hi:P.info? t with
 | none=>simp [hi] at hz
 | some i=>
   simp [hi] at hz;simp [Instr.alloc,zeroValue,typeInfo,hi,hz,newVar,newRow]
theorem rF {x:HV} {v:Value} (hx:Y8 v=some x):RH w F H m (fr.opd (.k x)) v:=(xB hx).1
theorem z58:∀ {l:List Value} {cs:List CV},O2 l=some cs->cs.length=l.length:=by
 intro l;induction l with
 | nil=>intro cs h;simp [O2] at h;subst h;rfl
 | cons v l ih=>
   intro cs h;unfold O2 at h;cases h1:i6 v with
   | none=>rw [h1] at h;cases h
   | some c=>
     cases h2:O2 l with
     | none=>rw [h1,h2] at h;cases h
     | some cs'=>rw [h1,h2] at h;injection h with h;subst h;simp [ih h2]
theorem fG {E:Env} {call:j8} (hok:O0 P call) {all:List Oper} {lvl:Nat} {io:IOp} (hc:yM P all lvl o=some io) (hs:RS fb N w F H m lb fr a) (hN:∀ d,o.dst=some d->d<N)
 {fr':Fr} {H':q7} (hd:f8 E call io o.dst fr H=some (fr',H')) (h:Next fb N w F H m fr' H' K):o.wp P a w K Q:=by
 unfold yM at hc;split at hc
 . rename_i x ho;simp only [Option.map_eq_some_iff] at hc;obtain ⟨ix,hx,rfl⟩:=hc;exact cE (.inl ho) hx hs hN hd h
 . rename_i x ho;simp only [Option.map_eq_some_iff] at hc;obtain ⟨ix,hx,rfl⟩:=hc;exact cE (.inr ho) hx hs hN hd h
 . rename_i c x y ho;split at hc
   . rename_i ic ix iy h1 h2 h3;injection hc with hc;subst hc;exact eI ho h1 h2 h3 hs hN hd h
   . cases hc
 . rename_i e ho;split at hc
   . rename_i z ek h1 h2;cases hz:zeroOf P e with
     | none=>rw [hz] at h1;cases h1
     | some zv=>
       rw [hz] at h1;simp only [Option.bind_some] at h1;have hrun:(execOp a.eval o).run P w=.ok (.value (.pointer (some ⟨w.heap.size,0,none⟩))) (w.alloc (.cells zv.cells e (0,0))):=by
        simp only [execOp,ho,Sem.run_bind,iM hz,Result.andThen_ok,Sem.run_pure]
       split at hc
       . injection hc with hc;subst hc;exact mI hrun (rF h1) hs hN hd h
       . simp only [Option.map_eq_some_iff] at hc;obtain ⟨k,hk,rfl⟩:=hc;exact fM hrun (rF h1) (cA hk) hs hN hd h
   . cases hc
 . rename_i e x ho;split at hc
   . rename_i ix ek h1 h2;have hrun:(execOp a.eval o).run P w=.ok (.value (.pointer (some ⟨w.heap.size,0,none⟩))) (w.alloc (.cells (a.eval x).cells e (0,0))):=by
      simp only [execOp,ho,Sem.run_bind,za0,Result.andThen_ok,Sem.run_pure]
     split at hc
     . injection hc with hc;subst hc;exact iS hrun (j9 hs.fr h1).1 hs hN hd h
     split at hc
     . injection hc with hc;subst hc;exact mI hrun (j9 hs.fr h1).1 hs hN hd h
     . simp only [Option.map_eq_some_iff] at hc;obtain ⟨k,hk,rfl⟩:=hc;exact fM hrun (j9 hs.fr h1).1 (cA hk) hs hN hd h
   . cases hc
 . rename_i t parts ho;split at hc
   . rename_i fs z h1 h2;split at hc
     . rename_i pl h3;simp only [Option.map_eq_some_iff] at hc;obtain ⟨ips,h4,rfl⟩:=hc;exact zs3 ho h1 h2 h3 h4 hs hN hd h
     . cases hc
   . rename_i n e z h1 h2;split at hc
     . rename_i ek h3;simp only [Option.map_eq_some_iff] at hc;obtain ⟨ips,h4,rfl⟩:=hc;exact z85 ho h1 h3 h2 h4 hs hN hd h
     . cases hc
   . cases hc
 . rename_i t len parts ho;split at hc
   . rename_i e h1;split at hc
     . rename_i ek z ps h2 h3 h4;split at hc
       . rename_i hlim;injection hc with hc;subst hc;cases hi:P.info? e with
         | none=>simp [zeroOf,hi] at h3
         | some i=>
           cases hz:i.zero with
           | none=>simp [zeroOf,hi,hz] at h3
           | some zv=>
             simp only [zeroOf,hi,hz,Option.bind_some] at h3;exact oK ho h1 h2 hi hz (by have:=z58 h3;rw [hlim.2] at this;simpa using this.symm) h3 h4 hlim.1 hs hN hd h
       . cases hc
     . cases hc
   . cases hc
 . rename_i t x ho;split at hc
   . rename_i ek ix h1 h2;injection hc with hc;subst hc;exact z00 ho h1 h2 hs hN hd h
   . cases hc
 . rename_i t x y ho;split at hc
   . rename_i ek ix iy h0 h1 h2 h3;injection hc with hc;subst hc;exact zv4 ho h0 h1 h2 h3 hs hd h
   . cases hc
 . rename_i x ho;simp only [Option.map_eq_some_iff] at hc;obtain ⟨ix,hx,rfl⟩:=hc;exact zh7 ho hx hs hN hd h
 . rename_i op xt x y yt ho;split at hc
   . rename_i ix iy h1 h2;split at hc
     . split at hc
       . rename_i hu;injection hc with hc;subst hc;exact bX ho (.inl rfl) hu h1 h2 hs hN hd h
       . injection hc with hc;subst hc;exact wM ho h1 h2 hs hN hd h
       . injection hc with hc;subst hc;exact wM ho h1 h2 hs hN hd h
       . rename_i fs hu;split at hc
         . cases hc
         . rename_i hg;simp only [Option.map_eq_some_iff] at hc;obtain ⟨ks,hk,rfl⟩:=hc;exact dC ho (.inl rfl) hu (by simpa using hg) hk h1 h2 hs hN hd h
       . rename_i hu;split at hc
         . rename_i hn;injection hc with hc;subst hc;exact P7 ho (.inl rfl) hu (.inl ⟨rfl,_,rfl⟩) hn h1 hs hN hd h
         . cases hc
       . rename_i hu;split at hc
         . rename_i hn;injection hc with hc;subst hc;exact P7 ho (.inl rfl) hu (.inr (.inl ⟨rfl,_,rfl⟩)) hn h1 hs hN hd h
         . cases hc
       . rename_i hu;split at hc
         . rename_i hn;injection hc with hc;subst hc;exact P7 ho (.inl rfl) hu (.inr (.inr (.inl ⟨rfl,_,_,_,rfl⟩))) hn h1 hs hN hd h
         . cases hc
       . rename_i hu;split at hc
         . rename_i hn;injection hc with hc;subst hc;exact P7 ho (.inl rfl) hu (.inr (.inr (.inr (.inl ⟨rfl,_,rfl⟩)))) hn h1 hs hN hd h
         . cases hc
       . rename_i hu;split at hc
         . rename_i hn;injection hc with hc;subst hc;exact P7 ho (.inl rfl) hu (.inr (.inr (.inr (.inr ⟨rfl,_,_,rfl⟩)))) hn h1 hs hN hd h
         . cases hc
       . cases hc
     . split at hc
       . rename_i hu;injection hc with hc;subst hc;exact bX ho (.inr rfl) hu h1 h2 hs hN hd h
       . injection hc with hc;subst hc;exact wM ho h1 h2 hs hN hd h
       . injection hc with hc;subst hc;exact wM ho h1 h2 hs hN hd h
       . rename_i fs hu;split at hc
         . cases hc
         . rename_i hg;simp only [Option.map_eq_some_iff] at hc;obtain ⟨ks,hk,rfl⟩:=hc;exact dC ho (.inr rfl) hu (by simpa using hg) hk h1 h2 hs hN hd h
       . rename_i hu;split at hc
         . rename_i hn;injection hc with hc;subst hc;exact P7 ho (.inr rfl) hu (.inl ⟨rfl,_,rfl⟩) hn h1 hs hN hd h
         . cases hc
       . rename_i hu;split at hc
         . rename_i hn;injection hc with hc;subst hc;exact P7 ho (.inr rfl) hu (.inr (.inl ⟨rfl,_,rfl⟩)) hn h1 hs hN hd h
         . cases hc
       . rename_i hu;split at hc
         . rename_i hn;injection hc with hc;subst hc;exact P7 ho (.inr rfl) hu (.inr (.inr (.inl ⟨rfl,_,_,_,rfl⟩))) hn h1 hs hN hd h
         . cases hc
       . rename_i hu;split at hc
         . rename_i hn;injection hc with hc;subst hc;exact P7 ho (.inr rfl) hu (.inr (.inr (.inr (.inl ⟨rfl,_,rfl⟩)))) hn h1 hs hN hd h
         . cases hc
       . rename_i hu;split at hc
         . rename_i hn;injection hc with hc;subst hc;exact P7 ho (.inr rfl) hu (.inr (.inr (.inr (.inr ⟨rfl,_,_,rfl⟩)))) hn h1 hs hN hd h
         . cases hc
       . cases hc
     . injection hc with hc;subst hc;exact wM ho h1 h2 hs hN hd h
   . cases hc
 . rename_i op xt x ho;simp only [Option.map_eq_some_iff] at hc;obtain ⟨ix,hx,rfl⟩:=hc;exact zo1 ho hx hs hN hd h
 . rename_i s d x ho;split at hc
   . rename_i k1 k h1 h2;simp only [Option.map_eq_some_iff] at hc;obtain ⟨ix,hx,rfl⟩:=hc;exact zr1 ho h1 h2 hx hs hN hd h
   . rename_i h1 h2;simp only [Option.map_eq_some_iff] at hc;obtain ⟨ix,hx,rfl⟩:=hc;exact zt0 ho h1 h2 hx hs hN hd h
   . rename_i e h1 h2;split at hc
     . rename_i he;simp only [Option.map_eq_some_iff] at hc;obtain ⟨ix,hx,rfl⟩:=hc;exact ze8 ho h1 h2 he hx hs hN hd h
     . cases hc
   . cases hc
 . rename_i f first cap ho;split at hc
   . rename_i i1 i2 h1 h2;injection hc with hc;subst hc;exact z56 ho h1 h2 hs hN hd h
   . cases hc
 . rename_i t x lo hi ho;split at hc
   . rename_i ix il ih h1 h2 h3 h4;injection hc with hc;subst hc;exact rR ho (.inl ⟨rfl,h1⟩) h2 h3 h4 hs hN hd h
   . rename_i e ix il ih h1 h2 h3 h4;simp only [Option.map_eq_some_iff] at hc;obtain ⟨ek,he,rfl⟩:=hc;exact rR ho (.inr ⟨rfl,e,h1,he⟩) h2 h3 h4 hs hN hd h
   . cases hc
 . rename_i s x f ho;split at hc
   . rename_i fs h1;split at hc
     . rename_i fd h2;split at hc
       . rename_i ek ix h3 h4;injection hc with hc;subst hc;exact zu1 ho h1 h2 h3 h4 hs hN hd h
       . cases hc
     . cases hc
   . cases hc
 . rename_i s x f ho;split at hc
   . rename_i fs h1;split at hc
     . rename_i fd h2;split at hc
       . rename_i ek ix h3 h4;injection hc with hc;subst hc;exact zj6 ho h1 h2 h3 h4 hs hN hd h
       . cases hc
     . cases hc
   . cases hc
 . rename_i t x i ho;split at hc
   . rename_i e h1;split at hc
     . rename_i ek ix ii h2 h3 h4;injection hc with hc;subst hc;exact z35 ho h1 h2 h3 h4 hs hN hd h
     . cases hc
   . cases hc
 . rename_i t x i ho;split at hc
   . rename_i ix ii h1 h2 h3;injection hc with hc;subst hc;exact zn7 ho h1 h2 h3 hs hN hd h
   . rename_i n e ix ii h1 h2 h3;simp only [Option.map_eq_some_iff] at hc;obtain ⟨ek,he,rfl⟩:=hc;exact za8 ho h1 he h2 h3 hs hN hd h
   . cases hc
 . rename_i x i ho;simp only [Option.map_eq_some_iff] at hc;obtain ⟨ix,hx,rfl⟩:=hc;exact zl2 ho hx hs hN hd h
 . rename_i t ho;split at hc
   . injection hc with hc;subst hc;exact za5 ho hs hN hd h
   . cases hc
 . rename_i t x k ok ho;split at hc
   . rename_i kd z ix ik h1 h2 h3;injection hc with hc;subst hc;exact hQ ho h1 h2 h3 hs hN hd h
   . cases hc
 . rename_i t x k v ho;split at hc
   . rename_i kd z ix ik iv h1 h0 h2 h3 h4;injection hc with hc;subst hc;exact nA (.inl ho) h1 h0 h2 h3 h4 hs hd h
   . cases hc
 . rename_i t x k v ho;split at hc
   . rename_i kd z ix ik iv h1 h0 h2 h3 h4;injection hc with hc;subst hc;exact nA (.inr ho) h1 h0 h2 h3 h4 hs hd h
   . cases hc
 . rename_i t x k ho;split at hc
   . rename_i kd z ix ik h1 h2 h3;injection hc with hc;subst hc;exact zz7 ho h1 h2 h3 hs hN hd h
   . cases hc
 . rename_i t x s v ho;split at hc
   . rename_i ix ik iv h0 h2 h3 h4;injection hc with hc;subst hc;exact zo7 ho h0 h2 h3 h4 hs hd h
   . cases hc
 . rename_i b args ts ho;have harr:∀ {l:List Operand},args.toList=l->args=l.toArray:=fun e=>by rw [<-e]
   have harr2:∀ {l:List TypeId},ts.toList=l->ts=l.toArray:=fun e=>by rw [<-e]
   split at hc
   . rename_i x t e1 e2;rw [harr e1,harr2 e2] at ho;split at hc
     . rename_i ix h1 h2;injection hc with hc;subst hc;exact rX (ty:=o.type) ho (.inl ⟨rfl,h1⟩) h2 hs hN hd h
     . rename_i e ix h1 h2;injection hc with hc;subst hc;exact rX (ty:=o.type) ho (.inr ⟨rfl,e,h1⟩) h2 hs hN hd h
     . rename_i h1 h2;injection hc with hc;subst hc;exact z93 ho h1 h2 hs hN hd h
     . cases hc
   . rename_i s x t u e1 e2;rw [harr e1,harr2 e2] at ho;split at hc
     . rename_i e e' is ix h1 h2 h3 h4;split at hc
       . rename_i htu;subst htu;split at hc
         . rename_i ek n z h5 h6 h7;split at hc
           . rename_i hz;injection hc with hc;subst hc;cases hi:P.info? e with
             | none=>simp [zeroOf,hi] at h7
             | some i=>
               simp [zeroOf,hi] at h7;simp [yE,hi] at h6;subst h6;exact dG ho h1 (.inl ⟨_,h1⟩) h5 hi h7 hz h3 h4 hs hN hd h
           . cases hc
         . cases hc
       . cases hc
     . rename_i e is ix h1 h2 h3 h4;split at hc
       . rename_i ek n z h5 h6 h7;split at hc
         . rename_i hz;injection hc with hc;subst hc;cases hi:P.info? e with
           | none=>simp [zeroOf,hi] at h7
           | some i=>
             simp [zeroOf,hi] at h7;simp [yE,hi] at h6;subst h6;exact dG ho h1 (.inr h2) h5 hi h7 hz h3 h4 hs hN hd h
         . cases hc
       . cases hc
     . cases hc
   . rename_i x y e1;rw [harr e1] at ho;split at hc
     . rename_i ix iy h1 h2;injection hc with hc;subst hc;exact aI (isMax:=true) ho h1 h2 hs hN hd h
     . cases hc
   . rename_i x y e1;rw [harr e1] at ho;split at hc
     . rename_i ix iy h1 h2;injection hc with hc;subst hc;exact aI (isMax:=false) ho h1 h2 hs hN hd h
     . cases hc
   . rename_i x ys _ e1;rw [harr e1] at ho;split at hc
     . rename_i ix iys h1 h2;injection hc with hc;subst hc;exact nI (isMax:=true) ho h1 h2 hs hN hd h
     . cases hc
   . rename_i x ys _ e1;rw [harr e1] at ho;split at hc
     . rename_i ix iys h1 h2;injection hc with hc;subst hc;exact nI (isMax:=false) ho h1 h2 hs hN hd h
     . cases hc
   . cases hc
 . rename_i f args ts ho;simp only [Option.map_eq_some_iff] at hc;obtain ⟨ias,hx,rfl⟩:=hc;exact zy8 hok ho hx hs hN hd h
 . rename_i t args ts ho;simp only [Option.map_eq_some_iff] at hc;obtain ⟨ias,hx,rfl⟩:=hc;exact zv9 hok ho hx hs hN hd h
 . cases hc
end
end Go.Proofs.Lz
