/- Every order that a drawn region may be run in gives what the text's order gives. -/
import Derived.Test.YtlimfobeoodkjaaGreatDoorLzDraw2
set_option linter.unusedVariables false
set_option linter.unusedSimpArgs false
namespace Go.Proofs.Lz
section
variable {E:Env} {call:j8}
theorem lU {c:Cls} {o:IOp} {dst:Option Nat} {fr:Fr} {H:q7} {p:Fr×q7} (h:doD E call c o dst fr H=some p):f8 E call o dst fr H=some p:=by
 have key:∀ {b:Prop} [Decidable b] {x:Option (Fr×q7)},(if b then x else none)=some p->x=some p:=by
  intro b _ x h;split at h
  . exact h
  . cases h
 have key':∀ {b:Prop} [Decidable b] {x:Option (Fr×q7)},(if b then none else x)=some p->x=some p:=by
  intro b _ x h;split at h
  . cases h
  . exact h
 cases c with
 | pure=>cases o<;>first | exact key h | (simp only [doD,C9,if_true] at h;exact h) | (simp [doD,C9] at h;done)
 | rdb b0=>cases o<;>first | exact key h | (simp [doD] at h;done)
 | wrb b0=>cases o<;>first | exact key h | (simp [doD] at h;done)
 | wr=>cases o<;>first | exact key' h | exact h | (simp [doD] at h;done)
 | hb=>cases o<;>first | exact h | exact key h | (simp [doD] at h;done)
 | rdw=>cases o<;>first | exact key' h | (simp [doD] at h;done)
 | lb=>cases o<;>first | exact h | (simp [doD] at h;done)
 | rd=>
   cases o with
   | load ek a=>exact key' h
   | ix ek x i=>exact h
   | slc st ek x lo hi=>exact h
   | mget kd ok z x k=>exact h
   | mlen x=>exact h
   | call f args=>
     simp only [doD] at h;have h:=key h;rename_i h0;have hm:E.md f=.P:=by
      split at h0
      . assumption
      . cases h0
     cases hc:l0 E call f (args.map fr.opd) H with
     | none=>rw [hc] at h;cases h
     | some q=>
       obtain ⟨v,H'⟩:=q;rw [hc] at h;dsimp only at h;split at h
       . rename_i hn;obtain ⟨rfl,_⟩:=tV hm hc hn;simp only [f8,F4,hc];exact h
       . cases h
   | _=>simp [doD] at h
theorem z90 {c:Cls} {o:IOper} {fr:Fr} {H:q7} {p:Fr×q7} (h:c7 E call c o fr H=some p):stp E call o fr H=some p:=by
 unfold c7 at h;split at h
 . cases hs:B2 E call c o fr H with
   | none=>rw [hs] at h;cases h
   | some q=>
     rw [hs] at h;obtain ⟨f1,h1⟩:=q;dsimp only at h;split at h
     . injection h with h;subst h;unfold B2 at hs;unfold stp;cases hg:o.guard with
       | none=>rw [hg] at hs;exact lU hs
       | some g=>
         obtain ⟨s,want⟩:=g;rw [hg] at hs;dsimp only at hs ⊢;cases he:fr.env s with
         | c v=>
           cases v with
           | bool b=>
             rw [he] at hs;dsimp only at hs ⊢;by_cases hw:b=want
             . rw [if_pos hw] at hs ⊢;exact lU hs
             . rw [if_neg hw] at hs ⊢;exact hs
           | _=>rw [he] at hs;cases hs
         | skipv=>rw [he] at hs;exact hs
         | _=>rw [he] at hs;cases hs
     . cases h
 . cases h
def K9 (E:Env) (call:j8) (l:List (Cls×IOper)):List Nat->Fr->q7->Option (Fr×q7)
 | [],fr,H=>some (fr,H)
 | i::r,fr,H=>match l[i]? with
   | none=>K9 E call l r fr H
   | some x=>match c7 E call x.1 x.2 fr H with
     | some (fr',H')=>K9 E call l r fr' H'
     | none=>none
theorem lN:∀ (done rest:List (Cls×IOper)) (fr:Fr) (H:q7),K9 E call (done++rest) ((List.range rest.length).map (done.length+·)) fr H=E7 E call rest fr H:=by
 intro done rest;induction rest generalizing done with
 | nil=>intro fr H;rfl
 | cons o rest ih=>
   intro fr H;obtain ⟨c,o⟩:=o;simp only [List.length_cons,List.range_succ_eq_map,List.map_cons,List.map_map,Nat.add_zero];unfold K9 E7;have h1:(done++(c,o)::rest)[done.length]?=some (c,o):=by simp
   rw [h1];dsimp only;cases hs:c7 E call c o fr H with
   | none=>rfl
   | some p=>
     dsimp only;have:=ih (done++[(c,o)]) p.1 p.2;simp only [List.append_assoc,List.singleton_append,List.length_append,List.length_singleton] at this;rw [<-this];congr 1;apply List.map_congr_left;intro x _;simp only [Function.comp];omega
def sO (l:List (Cls×IOper)) (a i:Nat):Prop:=∀ x y,l[a]?=some x->l[i]?=some y->Q4 x.1 y.1=true/\jJ x.2 y.2=true
def D3 (E:Env) (call:j8) (W:Nat->q7->Prop) (l:List (Cls×IOper)):List Nat->Fr->q7->Prop
 | [],_,_=>True
 | i::r,fr,H=>match l[i]? with
   | none=>D3 E call W l r fr H
   | some x=>W i H/\K3 (W i) x.1 x.2.op fr/\∀ fr' H',c7 E call x.1 x.2 fr H=some (fr',H')->W i H'/\D3 E call W l r fr' H'
theorem oN {W:Nat->q7->Prop} {l:List (Cls×IOper)} {i:Nat} {y:Cls×IOper} (hy:l[i]?=some y):∀ (A B:List Nat) {fr:Fr} {H:q7} {res:Fr×q7},W8 fr->(∀ a∈A,sO l a i/\W a=W i)->D3 E call W l (A++i::B) fr H->K9 E call l (A++i::B) fr H=some res ->
 ∃ fr1 H1,c7 E call y.1 y.2 fr H=some (fr1,H1)/\K9 E call l (A++B) fr1 H1=some res/\K3 (W i) y.1 y.2.op fr/\D3 E call W l (A++B) fr1 H1/\W i H/\W i H1:=by
 intro A;induction A with
 | nil=>
   intro B fr H res _ _ hv h;simp only [List.nil_append] at h hv ⊢;unfold K9 at h;unfold D3 at hv;rw [hy] at h hv;dsimp only at h hv;cases hs:c7 E call y.1 y.2 fr H with
   | none=>rw [hs] at h;cases h
   | some p=>rw [hs] at h;exact ⟨p.1,p.2,rfl,h,hv.2.1,(hv.2.2 _ _ hs).2,hv.1,(hv.2.2 _ _ hs).1⟩
 | cons a A ih=>
   intro B fr H res hi hp hv h;simp only [List.cons_append] at h hv ⊢;unfold K9 at h;unfold D3 at hv;cases hx:l[a]? with
   | none=>
     rw [hx] at h hv;dsimp only at h hv;obtain ⟨fr1,H1,k1,k2,k3,k4,k5⟩:=ih B hi (fun b hb=>hp b (List.mem_cons_of_mem _ hb)) hv h;refine ⟨fr1,H1,k1,?_,k3,?_,k5⟩
     . unfold K9;rw [hx];exact k2
     . unfold D3;rw [hx];exact k4
   | some x=>
     rw [hx] at h hv;dsimp only at h hv;obtain ⟨v1,v2,v3⟩:=hv;cases hs:c7 E call x.1 x.2 fr H with
     | none=>rw [hs] at h;cases h
     | some p=>
       obtain ⟨fr',H'⟩:=p;rw [hs] at h;dsimp only at h;obtain ⟨v3,v4⟩:=v3 _ _ hs;obtain ⟨fr1,H1,k1,k2,k3,k4,k5,k6⟩:=ih B (sQ v2 hi hs) (fun b hb=>hp b (List.mem_cons_of_mem _ hb)) v4 h;obtain ⟨q,q3⟩:=hp a (by simp);obtain ⟨q1,q2⟩:=q x y hx hy;rw [q3] at v1 v2;obtain ⟨fr2,H2,m1,m2,m3,m4,m5⟩:=swap q1 q2 v2 k3 v1 k5 k6 hi hs k1;refine ⟨fr2,H2,m1,?_,m4,?_,v1,m3⟩
       . unfold K9;rw [hx];dsimp only;rw [m2];exact k2
       . unfold D3;rw [hx];refine ⟨by rw [q3];exact m3,by rw [q3];exact m5,fun f2 h2 hq=>?_⟩;rw [m2] at hq;injection hq with hq;injection hq with z1 z2;subst z1;subst z2;exact ⟨by rw [q3];exact k6,k4⟩
theorem zx9 {l:List (Cls×IOper)} (hl:∀ x∈l,x.1≠.rdw):∀ (L:List Nat) (fr:Fr) (H:q7),D3 E call (fun _ _=>True) l L fr H:=by
 intro L;induction L with
 | nil=>intro fr H;exact trivial
 | cons i r ih=>
   intro fr H;unfold D3;cases hx:l[i]? with
   | none=>exact ih fr H
   | some x=>exact ⟨trivial,fun hc=>absurd hc (hl x (List.mem_of_getElem? hx)),fun fr' H' _=>⟨trivial,ih fr' H'⟩⟩
theorem rK {W:Nat->q7->Prop} {W0:List q7} {tail:List (Cls×IOper)} {L:List Nat}:∀ (done rest:List (Cls×IOper)) {fr f2:Fr} {H H2:q7} {Wl:List q7} {cs:List (Option Nat×HV×HV)},M5 E call rest fr H=some (f2,H2,Wl,cs)->(∀ h∈Wl,h∈W0)->vY W0 cs=true ->
 (∀ k,done.length<=k->k<done.length+rest.length->W k=(·∈W0))->D3 E call W (done++rest++tail) L f2 H2 ->
 E7 E call (rest++tail) fr H=E7 E call tail f2 H2/\D3 E call W (done++rest++tail) ((List.range rest.length).map (done.length+·)++L) fr H/\H∈Wl:=by
 intro done rest;induction rest generalizing done with
 | nil=>
   intro fr f2 H H2 Wl cs h hW _ _ hL;simp only [M5,Option.some.injEq,Prod.mk.injEq] at h;obtain ⟨rfl,rfl,rfl,rfl⟩:=h;exact ⟨rfl,hL,by simp⟩
 | cons o rest ih=>
   intro fr f2 H H2 Wl cs h hW hc hk hL;obtain ⟨c,o⟩:=o;unfold M5 at h;cases hs:c7 E call c o fr H with
   | none=>rw [hs] at h;cases h
   | some p=>
     obtain ⟨fr',H'⟩:=p;rw [hs] at h;dsimp only at h;cases hq:M5 E call rest fr' H' with
     | none=>rw [hq] at h;cases h
     | some q=>
       obtain ⟨f3,H3,W3,cs3⟩:=q;rw [hq] at h;dsimp only at h;have key:f3=f2/\H3=H2/\Wl=H::W3/\vY W0 cs3=true/\K3 (·∈W0) c o.op fr:=by
        split at h
        . rename_i hc0;split at h
          . rename_i ek a _ ho;split at h
            . rename_i v hv;injection h with h;injection h with z1 z2;injection z2 with z2 z3;injection z3 with z3 z4;subst z1;subst z2;subst z3;subst z4;unfold vY at hc;rw [List.all_cons,Bool.and_eq_true] at hc;refine ⟨rfl,rfl,rfl,hc.2,fun _ ek' a' he=>?_⟩;rw [ho] at he;injection he with e1 e2;subst e1;subst e2;refine ⟨v,fun h0 hh0=>?_⟩;have:=List.all_eq_true.1 hc.1 h0 hh0;dsimp only at this;split at this
              . rename_i v' hv';rw [hv',zp5 this]
              . cases this
            . cases h
          . cases h
        . rename_i hc0;injection h with h;injection h with z1 z2;injection z2 with z2 z3;injection z3 with z3 z4;subst z1;subst z2;subst z3;subst z4;exact ⟨rfl,rfl,rfl,hc,fun hx=>absurd hx hc0⟩
       obtain ⟨rfl,rfl,rfl,hc3,hst⟩:=key;have e0:done++(c,o)::rest++tail=done++[(c,o)]++rest++tail:=by simp
       rw [e0] at hL ⊢;obtain ⟨i1,i2,i3⟩:=ih (done++[(c,o)]) hq (fun h hh=>hW h (List.mem_cons_of_mem _ hh)) hc3 (fun k h1 h2=>hk k (by simp at h1;omega) (by simp at h2 ⊢;omega)) hL;refine ⟨?_,?_,by simp⟩
       . rw [List.cons_append];conv=>lhs;unfold E7
         rw [hs];exact i1
       . simp only [List.length_cons,List.range_succ_eq_map,List.map_cons,List.map_map,Nat.add_zero,List.cons_append];unfold D3;have h1:(done++[(c,o)]++rest++tail)[done.length]?=some (c,o):=by simp
         rw [h1];have hWd:W done.length=(·∈W0):=hk done.length (Nat.le_refl _) (by simp);refine ⟨by rw [hWd];exact hW _ (by simp),by rw [hWd];exact hst,fun fr'' H'' hq2=>?_⟩;dsimp only at hq2;rw [hs] at hq2;injection hq2 with hq2;injection hq2 with z1 z2;subst z1;subst z2;refine ⟨by rw [hWd];exact hW _ (List.mem_cons_of_mem _ i3),?_⟩;simp only [List.length_append,List.length_singleton] at i2;have e:List.map ((fun x=>done.length+x)∘Nat.succ) (List.range rest.length)=List.map (fun x=>done.length+1+x) (List.range rest.length):=by
          apply List.map_congr_left;intro x _;simp only [Function.comp];omega
         rw [e];exact i2
theorem zz3:∀ (bs:List (List (Cls×IOper))) (done:List (Cls×IOper)) {fr f2:Fr} {H H2:q7},Q8 E call bs fr H=some (f2,H2) ->
 ∃ Ws:Nat->List q7,E7 E call bs.flatten fr H=some (f2,H2)/\∀ W:Nat->q7->Prop,(∀ k,k<bs.flatten.length->W (done.length+k)=(·∈Ws (V4 bs k)))->D3 E call W (done++bs.flatten) ((List.range bs.flatten.length).map (done.length+·)) fr H:=by
 intro bs;induction bs with
 | nil=>
   intro done fr f2 H H2 h;exact ⟨fun _=>[],h,fun W _=>trivial⟩
 | cons b bs ih=>
   intro done fr f2 H H2 h;unfold Q8 at h;cases hs:Y5 E call b fr H with
   | none=>rw [hs] at h;cases h
   | some p=>
     obtain ⟨fr',H'⟩:=p;rw [hs] at h;dsimp only at h;unfold Y5 at hs;cases hq:M5 E call b fr H with
     | none=>rw [hq] at hs;cases hs
     | some q=>
       obtain ⟨f3,H3,W0,cs⟩:=q;rw [hq] at hs;dsimp only at hs;split at hs
       . rename_i hok;injection hs with hs;injection hs with z1 z2;subst z1;subst z2;obtain ⟨Ws,i1,i2⟩:=ih (done++b) h;refine ⟨fun n=>match n with
          | 0=>W0
          | n+1=>Ws n,?_,fun W hW=>?_⟩
         . have hv:D3 E call (fun _=>(·∈W0)) ([]++b++bs.flatten) [] f3 H3:=trivial;rw [List.flatten_cons,(rK [] b hq (fun _ h=>h) hok (fun _ _ _=>rfl) hv).1];exact i1
         . have hW2:D3 E call W (done++b++bs.flatten) ((List.range bs.flatten.length).map ((done++b).length+·)) f3 H3:=by
            refine i2 W fun k hk=>?_;have:=hW (b.length+k) (by rw [List.flatten_cons,List.length_append];omega);rw [List.length_append,Nat.add_assoc,this];simp only [V4];rw [if_neg (by omega)];simp
           have:=(rK (tail:=bs.flatten) done b hq (fun _ h=>h) hok (fun k h1 h2=>by
            have:=hW (k - done.length) (by rw [List.flatten_cons,List.length_append];omega);rw [show done.length+(k - done.length)=k by omega] at this;rw [this];simp only [V4];rw [if_pos (by omega)]) hW2).2.1
           rw [List.flatten_cons,<-List.append_assoc];have e:(List.range (b++bs.flatten).length).map (done.length+·)=(List.range b.length).map (done.length+·)++(List.range bs.flatten.length).map ((done++b).length+·):=by
            rw [List.length_append,List.range_add,List.map_append,List.map_map];congr 1;apply List.map_congr_left;intro x _;simp only [Function.comp,List.length_append];omega
           rw [e];exact this
       . cases hs
theorem z41 {A:List Nat} {n:Nat}:∀ (l:List (Cls×IOper)) (p:Nat) (cur:List (Cls×IOper)),(X7 A n l p cur).flatten=cur++l:=by
 intro l;induction l with
 | nil=>intro p cur;simp [X7]
 | cons x r ih=>
   intro p cur;unfold X7;split
   . rw [List.flatten_cons,ih];simp
   . rw [ih];simp
end
def vO (ops:List Oper) (L:Nat->Prop):Prop:=∀ j o,L j->ops[j]?=some o->∀ e∈o.after.toList,Region.binds .any e=true->L e.on
def vC (ops:List Oper) (L:Nat->Prop) (j:Nat):Prop:=∀ o,ops[j]?=some o->∀ e∈o.after.toList,Region.binds .any e=true->L e.on
def GoodAt (ops:List Oper) (j a:Nat):Prop:=∀ L,vO ops L->vC ops L j->L a
theorem zo6 {acc:List Nat}:∀ {es:List Edge} {a:Nat},(P6 acc es).testBit a=true->∃ e∈es,Region.binds .any e=true/\(e.on=a\/(acc.getD e.on 0).testBit a=true):=by
 intro es;induction es with
 | nil=>intro a h;simp [P6] at h
 | cons e es ih=>
   intro a h;unfold P6 at h;split at h
   . rename_i hb;rw [Nat.testBit_or,Nat.testBit_or,Bool.or_eq_true,Bool.or_eq_true] at h;rcases h with (h | h) | h
     . exact ⟨e,by simp,hb,.inl (by rw [Nat.testBit_two_pow] at h;simpa using h)⟩
     . exact ⟨e,by simp,hb,.inr h⟩
     . obtain ⟨e',h1,h2⟩:=ih h;exact ⟨e',List.mem_cons_of_mem _ h1,h2⟩
   . obtain ⟨e',h1,h2⟩:=ih h;exact ⟨e',List.mem_cons_of_mem _ h1,h2⟩
theorem zp8 (ops:List Oper):∀ (rest done:List Oper) (acc:List Nat),done++rest=ops->acc.length=done.length->(∀ j a,(acc.getD j 0).testBit a=true->GoodAt ops j a)->∀ j a,((anc rest acc).getD j 0).testBit a=true->GoodAt ops j a:=by
 intro rest;induction rest with
 | nil=>intro done acc _ _ h;exact h
 | cons o rest ih=>
   intro done acc hd hl h;refine ih (done++[o]) _ (by simpa using hd) (by simp [hl]) ?_;intro j a hb;by_cases hj:j<acc.length
   . have:(acc++[P6 acc o.after.toList]).getD j 0=acc.getD j 0:=by
      rw [List.getD_eq_getElem?_getD,List.getD_eq_getElem?_getD,List.getElem?_append_left hj]
     rw [this] at hb;exact h j a hb
   . by_cases hj2:j=acc.length
     . subst hj2;have:(acc++[P6 acc o.after.toList]).getD acc.length 0=P6 acc o.after.toList:=by
        rw [List.getD_eq_getElem?_getD];simp
       rw [this] at hb;obtain ⟨e,he,hbi,hq⟩:=zo6 hb;have ho:ops[acc.length]?=some o:=by rw [<-hd,hl];simp
       intro L hcl hpr;have h1:L e.on:=hpr o ho e he hbi;rcases hq with hq | hq
       . rw [<-hq];exact h1
       . refine h e.on a hq L hcl ?_;intro o' ho' e' he' hb';exact hcl e.on o' h1 ho' e' he' hb'
     . have:(acc++[P6 acc o.after.toList]).getD j 0=0:=by
        rw [List.getD_eq_getElem?_getD,List.getElem?_eq_none (by simp;omega)];rfl
       rw [this] at hb;simp at hb
theorem zb6:∀ (ops:List Oper) (k:Nat),xE k ops=true->∀ j o,ops[j]?=some o->∀ e∈o.after.toList,Region.binds .any e=true->e.on<k+j:=by
 intro ops;induction ops with
 | nil=>intro k _ j o h;simp at h
 | cons x ops ih=>
   intro k hk j o hj e he hb;unfold xE at hk;rw [Bool.and_eq_true,List.all_eq_true] at hk;cases j with
   | zero=>
     simp at hj;subst hj;have:=hk.1 e he;simp [hb] at this;omega
   | succ j=>
     simp only [List.getElem?_cons_succ] at hj;have:=ih (k+1) hk.2 j o hj e he hb;omega
theorem zi6 {p:Nat->Bool} {i:Nat}:∀ (L:List Nat),L.Pairwise (·<·)->i∈L->p i=true->∃ A B,L.filter p=A++i::B/\L.filter (fun k=>p k&&k != i)=A++B/\∀ a∈A,a<i/\p a=true:=by
 intro L;induction L with
 | nil=>intro _ h;simp at h
 | cons x xs ih=>
   intro hp hi hpi;rw [List.pairwise_cons] at hp;by_cases hx:x=i
   . subst hx;refine ⟨[],xs.filter p,by simp [hpi],?_,by simp⟩;simp only [List.nil_append,List.filter_cons,hpi,bne_self_eq_false,Bool.and_false,Bool.false_eq_true,if_false];apply List.filter_congr;intro y hy;have:=hp.1 y hy;have:(y != x)=true:=by simp;omega
     rw [this,Bool.and_true]
   . have hi':i∈xs:=by
      rcases List.mem_cons.1 hi with h | h
      . exact absurd h.symm hx
      . exact h
     obtain ⟨A,B,h1,h2,h3⟩:=ih hp.2 hi' hpi;have hlt:=hp.1 i hi';by_cases hpx:p x=true
     . refine ⟨x::A,B,by simp [hpx,h1],?_,?_⟩
       . have:(x != i)=true:=by simp [hx]
         simp only [List.filter_cons,hpx,this,Bool.and_self,if_true,h2,List.cons_append]
       . intro a ha;rcases List.mem_cons.1 ha with rfl | ha
         . exact ⟨hlt,hpx⟩
         . exact h3 a ha
     . refine ⟨A,B,by simp [hpx,h1],?_,h3⟩;simp only [List.filter_cons,hpx,Bool.false_and,Bool.false_eq_true,if_false,h2]
end Go.Proofs.Lz
