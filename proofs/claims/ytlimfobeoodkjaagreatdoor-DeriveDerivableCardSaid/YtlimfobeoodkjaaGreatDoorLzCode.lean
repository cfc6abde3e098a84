/- Regions in the text's order, and the code around them. -/
import Derived.Test.YtlimfobeoodkjaaGreatDoorLzOp
import Derived.Test.YtlimfobeoodkjaaGreatDoorLzDraw3
import Derived.ScopeJumps
import Derived.Orders
import Derived.Deep.LoopGhost
set_option linter.unusedVariables false
set_option linter.unusedSimpArgs false
set_option linter.unusedSectionVars false
namespace Go.Proofs.Lz
variable [GlobTab]
section
variable {P:Program} {fb N:Nat} {w:World} {F:Nat->Prop} {H:q7} {m:j7} {lb:Nat->Nat} {fr:Fr} {a:Act} {o:Oper}
variable {Q:Exit->Act->World->Prop}
def X0 (E:Env) (call:j8) (ios:List IOper):List Nat->Fr->q7->Option (Fr×q7)
 | [],fr,H=>some (fr,H)
 | i::r,fr,H=>match ios[i]? with
   | none=>X0 E call ios r fr H
   | some io=>match stp E call io fr H with
     | some (fr',H')=>X0 E call ios r fr' H'
     | none=>none
theorem z78 (E:Env) (call:j8):∀ (done rest:List IOper) (fr:Fr) (H:q7),X0 E call (done++rest) ((List.range rest.length).map (done.length+·)) fr H=K0 E call rest fr H:=by
 intro done rest;induction rest generalizing done with
 | nil=>intro fr H;rfl
 | cons o rest ih=>
   intro fr H;simp only [List.length_cons,List.range_succ_eq_map,List.map_cons,List.map_map,Nat.add_zero];unfold X0 K0;have h1:(done++o::rest)[done.length]?=some o:=by simp
   rw [h1];dsimp only;cases hs:stp E call o fr H with
   | none=>rfl
   | some p=>
     dsimp only;have:=ih (done++[o]) p.1 p.2;simp only [List.append_assoc,List.singleton_append,List.length_append,List.length_singleton] at this;rw [<-this];congr 1;apply List.map_congr_left;intro x _;simp only [Function.comp];omega
theorem zb1 {all:List Oper} {lvl:Nat} {ops:Array Oper}:∀ {l:List Oper} {ios:List IOper},G7 P all lvl ops l=some ios->∀ (i:Nat) (o:Oper),l[i]?=some o->∃ io,ios[i]?=some io/\jD P all lvl ops o=some io:=by
 intro l;induction l with
 | nil=>intro ios _ i o h;simp at h
 | cons x l ih=>
   intro ios hc i o h;unfold G7 at hc;cases h1:jD P all lvl ops x with
   | none=>rw [h1] at hc;cases hc
   | some io=>
     cases h2:G7 P all lvl ops l with
     | none=>rw [h1,h2] at hc;cases hc
     | some ios'=>
       rw [h1,h2] at hc;injection hc with hc;subst hc;cases i with
       | zero=>simp at h;subst h;exact ⟨io,by simp,h1⟩
       | succ i=>simp only [List.getElem?_cons_succ] at h ⊢;exact ih h2 i o h
theorem qX {all:List Oper} {lvl:Nat} {ops:Array Oper}:∀ {l:List Oper} {ios:List IOper},G7 P all lvl ops l=some ios->ios.length=l.length:=by
 intro l;induction l with
 | nil=>intro ios h;simp [G7] at h;subst h;rfl
 | cons x l ih=>
   intro ios hc;unfold G7 at hc;cases h1:jD P all lvl ops x with
   | none=>rw [h1] at hc;cases hc
   | some io=>
     cases h2:G7 P all lvl ops l with
     | none=>rw [h1,h2] at hc;cases hc
     | some ios'=>rw [h1,h2] at hc;injection hc with hc;subst hc;simp [ih h2]
theorem getD_some {a:Array Value} {s:Nat} {v:Value} (h:a.getD s undef=v) (hv:v≠undef):a[s]?=some v:=by
 rw [Array.getD_eq_getD_getElem?] at h;cases hs:a[s]? with
 | none=>rw [hs] at h;simp at h;exact absurd h.symm hv
 | some u=>rw [hs] at h;simp at h;rw [h]
theorem za1 (hs:RS fb N w F H m lb fr a) (dst:Option Nat) (hN:∀ d,dst=some d->d<N):RS fb N w F H m lb (fr.put dst .skipv) (a.put dst undef):=
 ⟨hs.heap,hs.fr.put dst hN (by unfold RH;rfl) (by simp),hs.fb⟩
theorem dB {E:Env} {call:j8} (hok:O0 P call) {all:List Oper} {lvl:Nat} {ops:Array Oper} {ios:List IOper} (hc:G7 P all lvl ops ops.toList=some ios) (hdst:∀ o∈ops.toList,∀ d,o.dst=some d->d<N)
 {K:Act->World->Prop} {i:Nat} {io:IOper} (hio:ios[i]?=some io) {fr fr1:Fr} {H H1:q7} {F:Nat->Prop} {m:j7} {lb:Nat->Nat} {a:Act} {w:World} (hs:RS fb N w F H m lb fr a)
 (hst:stp E call io fr H=some (fr1,H1)) (next:Next fb N w F H m fr1 H1 K):wpOp P ops Q i K a w:=by
 unfold wpOp;have hlt:i<ops.toList.length:=by
  have:=qX hc;have:=(gEs hio).1;omega
 have hoi:∃ o,ops[i]?=some o:=⟨ops[i]'(by simpa using hlt),by simp⟩;obtain ⟨o,ho⟩:=hoi;rw [ho];dsimp only;have hol:ops.toList[i]?=some o:=by simpa using ho
 have hmem:o∈ops.toList:=List.mem_of_getElem? hol;obtain ⟨io',h1,h2⟩:=zb1 hc i o hol;rw [hio] at h1;injection h1 with h1;subst h1;have hNo:=hdst o hmem;have skip:fr1=fr.put o.dst .skipv->H1=H->K (a.put o.dst undef) w:=by
  rintro rfl rfl;exact next F m lb _ w (Stp.refl ..) (za1 hs o.dst hNo)
 unfold jD at h2;cases hop:yM P all lvl o with
 | none=>rw [hop] at h2;cases h2
 | some iop=>
   rw [hop] at h2;dsimp only at h2;cases hg:o.guard with
   | none=>
     rw [hg] at h2;injection h2 with h2;subst h2;unfold stp at hst;dsimp only at hst;have hw:Region.wanted o (yielded ops a.tmps)=true:=by unfold Region.wanted;rw [hg]
     rw [if_pos hw];exact .inl (fG hok hop hs hNo hst next)
   | some g=>
     obtain ⟨j,want⟩:=g;rw [hg] at h2;dsimp only at h2;cases hj:(ops[j]?).bind (·.dst) with
     | none=>rw [hj] at h2;cases h2
     | some s=>
       rw [hj] at h2;injection h2 with h2;subst h2;unfold stp at hst;dsimp only at hst;have hy:∀ v,a.tmps.getD s undef=v->v≠undef->yielded ops a.tmps j=(match v with
        | .bool b=>some b
        | _=>none):=by
        intro v hv hne;unfold yielded;rw [hj];simp only [Option.bind_some,getD_some hv hne];cases v<;>rfl
       split at hst
       . rename_i b hb;have hv:=hs.fr.val s (by rw [hb];simp);rw [hb,rh_c,rc_bool] at hv;have hyb:=hy _ hv (by simp [undef]);dsimp only at hyb;split at hst
         . rename_i hbw;have hw:Region.wanted o (yielded ops a.tmps)=true:=by
            unfold Region.wanted;rw [hg];simp [hyb,hbw]
           rw [if_pos hw];exact .inl (fG hok hop hs hNo hst next)
         . rename_i hbw;have hw:¬ Region.wanted o (yielded ops a.tmps)=true:=by
            unfold Region.wanted;rw [hg];simp [hyb,hbw]
           rw [if_neg hw];injection hst with hst;injection hst with z1 z2;exact skip z1.symm z2.symm
       . rename_i hb;have hv:=hs.fr.val s (by rw [hb];simp);rw [hb] at hv;unfold RH at hv;have hw:¬ Region.wanted o (yielded ops a.tmps)=true:=by
          have:yielded ops a.tmps j=none:=by
           unfold yielded;rw [hj];simp only [Option.bind_some];rw [Array.getD_eq_getD_getElem?] at hv;cases hs':a.tmps[s]? with
           | none=>rfl
           | some u=>rw [hs'] at hv;simp at hv;subst hv;rfl
          unfold Region.wanted;rw [hg];simp [this]
         rw [if_neg hw];injection hst with hst;injection hst with z1 z2;exact skip z1.symm z2.symm
       . cases hst
theorem z08 {E:Env} {call:j8} (hok:O0 P call) {all:List Oper} {lvl:Nat} {ops:Array Oper} {ios:List IOper} (hc:G7 P all lvl ops ops.toList=some ios) (hdst:∀ o∈ops.toList,∀ d,o.dst=some d->d<N) :
 ∀ (l:List Nat) {fr fr':Fr} {H H':q7} {F:Nat->Prop} {m:j7} {lb:Nat->Nat} {a:Act} {w:World},RS fb N w F H m lb fr a->X0 E call ios l fr H=some (fr',H')->Next fb N w F H m fr' H' (Q .normal)->wpOps P ops Q l a w:=by
 intro l;induction l with
 | nil=>
   intro fr fr' H H' F m lb a w hs he h;simp only [X0,Option.some.injEq,Prod.mk.injEq] at he;obtain ⟨rfl,rfl⟩:=he;exact h F m lb a w (Stp.refl ..) hs
 | cons i l ih=>
   intro fr fr' H H' F m lb a w hs he h;rw [wpOps_cons];unfold X0 at he;cases hio:ios[i]? with
   | none=>
     rw [hio] at he;dsimp only at he;unfold wpOp;have:ops[i]?=none:=by
      have hl:=qX hc;rw [List.getElem?_eq_none_iff] at hio;exact Array.getElem?_eq_none (by simp at hl;omega)
     rw [this];exact ih hs he h
   | some io=>
     rw [hio] at he;dsimp only at he;cases hst:stp E call io fr H with
     | none=>rw [hst] at he;cases he
     | some p=>
       obtain ⟨fr1,H1⟩:=p;rw [hst] at he;dsimp only at he;refine dB hok hc hdst hio hs hst ?_;intro F' m' lb' a' w' st rs;exact ih rs he (fun F'' m'' lb'' a'' w'' st' rs'=>h F'' m'' lb'' a'' w'' (st.trans st') rs')
theorem kH (hs:RS fb N w F H m lb fr a):RS fb N w F H m lb { fr with al:=x6 } a:=
 ⟨hs.heap,⟨hs.fr.size,hs.fr.defers,hs.fr.val,hs.fr.box,fun t b off h=>by simp [x6] at h⟩,hs.fb⟩
theorem kE (f:Nat->HV):∀ (l:List Nat) (t:Nat),t8 (l.map fun s=>(s,f s)) t=f t\/t8 (l.map fun s=>(s,f s)) t=.undef:=by
 intro l;induction l with
 | nil=>intro t;exact .inr rfl
 | cons x l ih=>
   intro t;simp only [List.map_cons,t8];by_cases h:t=x
   . rw [if_pos h,h];exact .inl rfl
   . rw [if_neg h];exact ih t
theorem vQ (hs:RS fb N w F H m lb fr a) (live:List Nat):RS fb N w F H m lb (keep live fr) a:=by
 refine ⟨hs.heap,⟨hs.fr.size,hs.fr.defers,?_,?_,fun t b off h=>by simp [keep,x6] at h⟩,hs.fb⟩
 . intro t ht;simp only [keep] at ht ⊢;rcases kE fr.env live t with h | h
   . rw [h] at ht ⊢;exact hs.fr.val t ht
   . rw [h];unfold RH;exact trivial
 . intro t ek x hx;simp only [keep] at hx;rcases kE fr.env live t with h | h
   . rw [h] at hx;obtain ⟨h1,h2,h3,h4,h5,h6,h7⟩:=hs.fr.box t ek x hx;refine ⟨h1,h2,h3,h4,h5,?_,h7⟩;intro t' ek' x' hx' hl;simp only [keep] at hx';rcases kE fr.env live t' with h' | h'
     . rw [h'] at hx';exact h6 t' ek' x' hx' hl
     . rw [h'] at hx';cases hx'
   . rw [h] at hx;cases hx
theorem Next.after0 {F':Nat->Prop} {m':j7} {w':World} {H1 H':q7} {fr':Fr} {K:Act->World->Prop} (st:Stp fb F F' H H1 m m' w w') (h:Next fb N w F H m fr' H' K):Next fb N w' F' H1 m' fr' H' K:=
 fun F'' m'' lb'' a'' w'' st' rs=>h F'' m'' lb'' a'' w'' (st.trans st') rs
theorem zy7 {md:Nat->Md} {lbs:Nat->Bool} {ios:List IOper} (o:IOp):N5 md lbs ios o≠.rdw:=by
 unfold N5;repeat' split
 all_goals simp
theorem cU {E:Env} {call:j8} {W:Nat->q7->Prop} (hok:O0 P call) {all:List Oper} {lvl:Nat} {ops:Array Oper} {ios:List IOper} {cs:IOper->Cls} (hc:G7 P all lvl ops ops.toList=some ios) (hdst:∀ o∈ops.toList,∀ d,o.dst=some d->d<N)
 (hd:xJ ops.toList (ios.map fun io=>(cs io,io))=true) (hWp:∀ j,j<ops.size->∀ i,i<j->((anc ops.toList []).getD j 0).testBit i=true\/W i=W j) {fr':Fr} {H':q7} :
 ∀ (fuel:Nat) (listed:Array Bool) {fr:Fr} {H:q7} {F:Nat->Prop} {m:j7} {lb:Nat->Nat} {a:Act} {w:World},RS fb N w F H m lb fr a->W8 fr->listed.size=ops.size ->
  vO ops.toList (fun j=>listed.getD j false=true)->((List.range ops.size).filter fun k=>!listed.getD k true).length<=fuel ->
  D3 E call W (ios.map fun io=>(cs io,io)) ((List.range ops.size).filter fun k=>!listed.getD k true) fr H ->
  K9 E call (ios.map fun io=>(cs io,io)) ((List.range ops.size).filter fun k=>!listed.getD k true) fr H=some (fr',H')->Next fb N w F H m fr' H' (Q .normal)->wpAny P .any ops Q fuel listed a w:=by
 unfold xJ at hd;rw [Bool.and_eq_true] at hd;obtain ⟨hedge,hpair⟩:=hd;have hlen:ios.length=ops.size:=by have:=qX hc;simpa using this
 have hedges:∀ j o,ops[j]?=some o->∀ e∈o.after.toList,Region.binds .any e=true->e.on<j:=by
  intro j o ho e he hb;have:=zb6 ops.toList 0 hedge j o (by simpa using ho) e he hb;omega
 have hready:∀ (listed:Array Bool) i,i∈Region.ready .any ops listed↔i<ops.size/\listed.getD i true=false/\vC ops.toList (fun j=>listed.getD j false=true) i:=by
  intro listed i;unfold Region.ready;rw [List.mem_filter,List.mem_range,Bool.and_eq_true];constructor
  . rintro ⟨h1,h2,h3⟩;refine ⟨h1,by simpa using h2,?_⟩;intro o ho e he hb;have ho':ops[i]?=some o:=by simpa using ho
    rw [ho'] at h3;simp only [Option.map_some,Option.getD_some] at h3;rw [Array.all_eq_true_iff_forall_mem] at h3;have:=h3 e (by simpa using he);simpa [hb] using this
  . rintro ⟨h1,h2,h3⟩;refine ⟨h1,by simp [h2],?_⟩;have ho:ops[i]?=some ops[i]:=by simp [h1]
    rw [ho];simp only [Option.map_some,Option.getD_some];rw [Array.all_eq_true_iff_forall_mem];intro e he;cases hb:Region.binds .any e with
    | false=>simp
    | true=>
      have:=h3 ops[i] (by simp [h1]) e (by simpa using he) hb;simpa using this
 have unb:∀ (listed:Array Bool) i a,vO ops.toList (fun j=>listed.getD j false=true)->vC ops.toList (fun j=>listed.getD j false=true) i->i<ops.size->a<i->listed.getD a true=false->listed.size=ops.size->((anc ops.toList []).getD i 0).testBit a=true->False:=by
  intro listed i a hcl hpr hi ha hun hsz h2;have hg:=zp8 ops.toList ops.toList [] [] (by simp) rfl (by intro j a hb;simp at hb) i a h2;have h3:listed.getD a false=true:=hg _ hcl hpr;have hlt:a<listed.size:=by omega
  rw [Array.getD_eq_getD_getElem?] at h3 hun;rw [Array.getElem?_eq_getElem hlt] at h3 hun;simp at h3 hun;rw [h3] at hun;cases hun
 have pairok:∀ (listed:Array Bool) i a,vO ops.toList (fun j=>listed.getD j false=true)->vC ops.toList (fun j=>listed.getD j false=true) i->i<ops.size->a<i->listed.getD a true=false->listed.size=ops.size->sO (ios.map fun io=>(cs io,io)) a i/\W a=W i:=by
  intro listed i a hcl hpr hi ha hun hsz;refine ⟨fun x y hx hy=>?_,(hWp i hi a ha).resolve_left (unb listed i a hcl hpr hi ha hun hsz)⟩;rw [List.all_eq_true] at hpair;have h1:=hpair i (by simp [hlen,hi]);rw [List.all_eq_true] at h1;have h2:=h1 a (by simp [ha]);rw [hx,hy] at h2;simp only [Bool.or_eq_true,Bool.and_eq_true] at h2;rcases h2 with h2 | h2
  . exact (unb listed i a hcl hpr hi ha hun hsz h2).elim
  . exact h2
 intro fuel;induction fuel with
 | zero=>
   intro listed fr H F m lb a w hs hinv hsz hcl hfu hvis he h;have hnil:((List.range ops.size).filter fun k=>!listed.getD k true)=[]:=List.eq_nil_of_length_eq_zero (by omega);rw [hnil] at he;simp only [K9,Option.some.injEq,Prod.mk.injEq] at he;obtain ⟨rfl,rfl⟩:=he;refine ⟨?_,h F m lb a w (Stp.refl ..) hs⟩;rw [List.eq_nil_iff_forall_not_mem];intro i hi;obtain ⟨h1,h2,_⟩:=(hready listed i).1 hi;have:i∈((List.range ops.size).filter fun k=>!listed.getD k true):=by rw [List.mem_filter];exact ⟨by simp [h1],by simp [h2]⟩
   rw [hnil] at this;cases this
 | succ fuel ih=>
   intro listed fr H F m lb a w hs hinv hsz hcl hfu hvis he h;refine ⟨fun hr=>?_,fun i hi=>?_⟩
   . have hall:∀ k,k<ops.size->listed.getD k true=true:=by
      intro k;induction k using Nat.strongRecOn with
      | _ k ihk=>
        intro hk;cases hl:listed.getD k true with
        | true=>rfl
        | false=>
          have:k∈Region.ready .any ops listed:=by
           rw [hready];refine ⟨hk,hl,?_⟩;intro o ho e hem hb;have hlt:=hedges k o (by simpa using ho) e hem hb;have:=ihk e.on hlt (by omega);have hlt2:e.on<listed.size:=by omega
           rw [Array.getD_eq_getD_getElem?,Array.getElem?_eq_getElem hlt2] at this ⊢;simpa using this
          rw [hr] at this;cases this
     have hnil:((List.range ops.size).filter fun k=>!listed.getD k true)=[]:=by
      rw [List.eq_nil_iff_forall_not_mem];intro k hk;rw [List.mem_filter,List.mem_range] at hk;rw [hall k hk.1] at hk;simp at hk
     rw [hnil] at he;simp only [K9,Option.some.injEq,Prod.mk.injEq] at he;obtain ⟨rfl,rfl⟩:=he;exact h F m lb a w (Stp.refl ..) hs
   . obtain ⟨h1,h2,h3⟩:=(hready listed i).1 hi;obtain ⟨A,B,e1,e2,e3⟩:=zi6 (p:=fun k=>!listed.getD k true) (i:=i) (List.range ops.size) List.pairwise_lt_range (by simp [h1]) (by simp [h2]);rw [e1] at he hvis;have hio:(ios.map fun io=>(cs io,io))[i]?=some (cs (ios[i]'(by omega)),ios[i]'(by omega)):=by simp [hlen,h1]
     obtain ⟨fr1,H1,k1,k2,k3,k4,_⟩:=oN hio A B hinv (fun a ha=>pairok listed i a hcl h3 h1 (e3 a ha).1 (by have:=(e3 a ha).2;simpa using this) hsz) hvis he;have hk:i<ios.length:=by omega
     refine dB hok hc hdst (io:=ios[i]'hk) (by simp) hs (z90 k1) ?_;intro F' m' lb' a' w' st rs;have hset:∀ k,k<ops.size->(listed.setIfInBounds i true).getD k true=(listed.getD k true||k==i):=by
      intro k hk;have hkl:k<listed.size:=by omega
      rw [Array.getD_eq_getD_getElem?,Array.getD_eq_getD_getElem?,Array.getElem?_setIfInBounds];by_cases hik:i=k
      . subst hik;simp [hkl]
      . rw [if_neg hik];simp [Ne.symm hik]
     have hfil:((List.range ops.size).filter fun k=>!(listed.setIfInBounds i true).getD k true)=A++B:=by
      rw [<-e2];apply List.filter_congr;intro k hk;rw [hset k (by simpa using hk)];cases listed.getD k true<;>simp [bne]
     refine ih (listed.setIfInBounds i true) rs (sQ k3 hinv k1) (by simp [hsz]) ?_ ?_ (by rw [hfil];exact k4) (by rw [hfil];exact k2) (h.after0 st)
     . intro j o hj ho e he' hb;have mono:∀ k,listed.getD k false=true->(listed.setIfInBounds i true).getD k false=true:=by
        intro k hk;rw [Array.getD_eq_getD_getElem?] at hk ⊢;rw [Array.getElem?_setIfInBounds];by_cases hik:i=k
        . subst hik;cases hl:listed[i]? with
          | none=>rw [hl] at hk;cases hk
          | some b=>
            have hlt:=(Array.getElem?_eq_some_iff.1 hl).1;simp [hlt]
        . rw [if_neg hik];exact hk
       by_cases hji:j=i
       . subst hji;exact mono _ (h3 o ho e he' hb)
       . refine mono _ (hcl j o ?_ ho e he' hb);simp only [Array.getD_eq_getD_getElem?,Array.getElem?_setIfInBounds,if_neg (Ne.symm hji)] at hj ⊢;exact hj
     . rw [hfil];rw [e1] at hfu;simp only [List.length_append,List.length_cons] at hfu ⊢;omega
def uW:Ex->Exit
 | .nrm=>.normal
 | .exit i=>.exit i
 | .goto l=>.goto l
 | .ret=>.ret
def Sim (P:Program) (N:Nat) (c:Code) (run:Run):Prop:=
 ∀ (fb:Nat) (fr fr':Fr) (H H':q7) (e:Ex),run fr H=some (e,fr',H')->∀ (F:Nat->Prop) (m:j7) (lb:Nat->Nat) (a:Act) (w:World) (Q:Exit->Act->World->Prop),RS fb N w F H m lb fr a->Next fb N w F H m fr' H' (Q (uW e))->c.wp P Q a w
theorem Next.after {F':Nat->Prop} {m':j7} {lb':Nat->Nat} {w':World} {H1 H':q7} {fr':Fr} {K:Act->World->Prop} (st:Stp fb F F' H H1 m m' w w') (h:Next fb N w F H m fr' H' K):Next fb N w' F' H1 m' fr' H' K:=
 fun F'' m'' lb'' a'' w'' st' rs=>h F'' m'' lb'' a'' w'' (st.trans st') rs
theorem eO {c:Code} {s:Run} (hs:Sim P N c s) (n:Nat):Sim P N (.loop c) (itF n s):=by
 intro fb fr fr' H H' e he F m lb a w Q rs h;refine wp_loop_ghost (fun k a w=>∃ fr1 H1 F1 m1 lb1,itF k s fr1 H1=some (e,fr',H')/\RS fb N w F1 H1 m1 lb1 fr1 a/\Next fb N w F1 H1 m1 fr' H' (Q (uW e))) n ⟨fr,H,F,m,lb,he,rs,h⟩ ?_;rintro k a w ⟨fr1,H1,F1,m1,lb1,he1,rs1,h1⟩;cases k with
 | zero=>cases he1
 | succ k=>
   rw [itF] at he1;cases hq:s fr1 H1 with
   | none=>rw [hq] at he1;cases he1
   | some p=>
     obtain ⟨e2,fr2,H2⟩:=p;rw [hq] at he1;refine hs fb fr1 fr2 H1 H2 e2 hq F1 m1 lb1 a w _ rs1 ?_;intro F2 m2 lb2 a2 w2 st2 rs2;cases e2 with
     | nrm=>exact ⟨k,Nat.lt_succ_self k,fr2,H2,F2,m2,lb2,he1,rs2,h1.after (lb':=lb2) st2⟩
     | exit i=>
       simp only [Option.some.injEq,Prod.mk.injEq] at he1;obtain ⟨rfl,rfl,rfl⟩:=he1;exact h1 F2 m2 lb2 a2 w2 st2 rs2
     | goto l=>
       simp only [Option.some.injEq,Prod.mk.injEq] at he1;obtain ⟨rfl,rfl,rfl⟩:=he1;exact h1 F2 m2 lb2 a2 w2 st2 rs2
     | ret=>
       simp only [Option.some.injEq,Prod.mk.injEq] at he1;obtain ⟨rfl,rfl,rfl⟩:=he1;exact h1 F2 m2 lb2 a2 w2 st2 rs2
theorem mem_opers_seq {a b:Code} {o:Oper}:o∈Code.opers (.seq a b)↔o∈Code.opers a\/o∈Code.opers b:=by simp [Code.opers]
theorem aK {x y:Code} {s1 s2:Run} (hx:Sim P N x s1) (hy:Sim P N y s2):Sim P N (.seq x y) (fun fr H=>match s1 fr H with
 | some (.nrm,fr',H')=>s2 fr' H'
 | r=>r):=by
 intro fb fr fr' H H' e he F m lb a w Q rs h;refine wp_seq ?_;dsimp only at he;cases hq:s1 fr H with
 | none=>rw [hq] at he;cases he
 | some p=>
   obtain ⟨e1,fr1,H1⟩:=p;rw [hq] at he;refine hx fb fr fr1 H H1 e1 hq F m lb a w _ rs ?_;intro F1 m1 lb1 a1 w1 st1 rs1;cases e1 with
   | nrm=>exact hy fb fr1 fr' H1 H' e he F1 m1 lb1 a1 w1 Q rs1 (h.after (lb':=lb1) st1)
   | exit i=>
     simp only [Option.some.injEq,Prod.mk.injEq] at he;obtain ⟨rfl,rfl,rfl⟩:=he;exact h F1 m1 lb1 a1 w1 st1 rs1
   | goto l=>
     simp only [Option.some.injEq,Prod.mk.injEq] at he;obtain ⟨rfl,rfl,rfl⟩:=he;exact h F1 m1 lb1 a1 w1 st1 rs1
   | ret=>
     simp only [Option.some.injEq,Prod.mk.injEq] at he;obtain ⟨rfl,rfl,rfl⟩:=he;exact h F1 m1 lb1 a1 w1 st1 rs1
theorem tI {c rest:Code} {Q:Exit->Act->World->Prop} {a:Act} {w:World} (l:Nat) (J:Nat->Act->World->Prop) (n0:Nat) (hf:findLabel c l=some rest)
 (first:c.wp P (Exit.jump l (J n0) Q) a w)
 (pass:∀ n a w,J n a w->rest.wp P (Exit.jump l (fun a' w'=>∃ k,k<n/\J k a' w') Q) a w):(Code.scope c).wp P Q a w:=by
 intro b k cs;have hg:gotoIn l (.inScope c::k)=some (.code rest::.inScope c::k):=by simp [gotoIn,hf]
 have key:∀ n a w,J n a w->∃ e a' w',Q e a' w'/\Arrives P (lone (b.at a (.code rest::.inScope c::k)) cs w) b k cs e a' w':=by
  intro n;induction n using Nat.strongRecOn with
  | _ n ih=>
    intro a w hJ;obtain ⟨e,a₁,w₁,hq,harr⟩:=pass n a w hJ b (.inScope c::k) cs;cases e with
    | normal=>exact ⟨.normal,a₁,w₁,hq,Steps.trans harr (.one step_inScope)⟩
    | exit id=>exact ⟨.exit id,a₁,w₁,hq,fun k' hk=>harr k' (by simp [exitTo,hk])⟩
    | goto l'=>
      obtain ⟨rfl,j,hlt,hJ'⟩:=hq;obtain ⟨e₂,a₂,w₂,hq₂,harr₂⟩:=ih j hlt a₁ w₁ hJ';exact ⟨e₂,a₂,w₂,hq₂,.of_steps (harr _ hg) harr₂⟩
    | ret=>exact ⟨_,a₁,w₁,hq,harr⟩
    | panic ch=>exact ⟨_,a₁,w₁,hq,harr⟩
    | outgrown=>exact ⟨_,a₁,w₁,hq,harr⟩
 obtain ⟨e,a₁,w₁,hq,harr⟩:=first b (.inScope c::k) cs;cases e with
 | normal=>exact ⟨.normal,a₁,w₁,hq,.head step_scope (Steps.trans harr (.one step_inScope))⟩
 | exit id=>exact ⟨.exit id,a₁,w₁,hq,fun k' hk=>.head step_scope (harr k' (by simp [exitTo,hk]))⟩
 | goto l'=>
   obtain ⟨rfl,hJ'⟩:=hq;obtain ⟨e₂,a₂,w₂,hq₂,harr₂⟩:=key _ a₁ w₁ hJ';exact ⟨e₂,a₂,w₂,hq₂,.of_steps (.head step_scope (harr _ hg)) harr₂⟩
 | ret=>exact ⟨_,a₁,w₁,hq,.of_steps (.one step_scope) harr⟩
 | panic ch=>exact ⟨_,a₁,w₁,hq,.of_steps (.one step_scope) harr⟩
 | outgrown=>exact ⟨_,a₁,w₁,hq,.of_steps (.one step_scope) harr⟩
theorem z63 {c rest:Code} {l n:Nat} {live:List Nat} {s1 s2:Run} (hf:findLabel c l=some rest) (h1:Sim P N c s1) (h2:Sim P N rest s2):Sim P N (.scope c) (fun fr H=>match s1 fr H with
 | some (.goto l',fr',H')=>if l'=l then M3 l (itF n (fun fr H=>I6 l (s2 (keep live fr) H)) fr' H') else none
 | r=>r):=by
 intro fb fr fr' H H' e he F m lb a w Q rs h;dsimp only at he;cases hq:s1 fr H with
 | none=>rw [hq] at he;cases he
 | some p=>
   obtain ⟨e1,fr1,H1⟩:=p;rw [hq] at he;have straight:e1≠.goto l->(∀ l',e1≠.goto l')->some (e1,fr1,H1)=some (e,fr',H')->(Code.scope c).wp P Q a w:=by
    intro _ hng hh;simp only [Option.some.injEq,Prod.mk.injEq] at hh;obtain ⟨rfl,rfl,rfl⟩:=hh;refine tI l (fun _ _ _=>False) 0 hf ?_ (fun _ _ _ h=>h.elim);refine h1 fb fr fr1 H H1 e1 hq F m lb a w _ rs ?_;intro F1 m1 lb1 a1 w1 st1 rs1;have:=h F1 m1 lb1 a1 w1 st1 rs1;cases e1 with
    | nrm=>exact this
    | exit i=>exact this
    | goto l'=>exact absurd rfl (hng l')
    | ret=>exact this
   cases e1 with
   | nrm=>exact straight (by simp) (by simp) he
   | exit i=>exact straight (by simp) (by simp) he
   | ret=>exact straight (by simp) (by simp) he
   | goto l'=>
     dsimp only at he;split at he
     . rename_i hl;subst hl;refine tI l' (fun k a w=>∃ fr2 H2 F2 m2 lb2,M3 l' (itF k (fun fr H=>I6 l' (s2 (keep live fr) H)) fr2 H2)=some (e,fr',H')/\RS fb N w F2 H2 m2 lb2 fr2 a/\Next fb N w F2 H2 m2 fr' H' (Q (uW e))) n hf ?_ ?_
       . refine h1 fb fr fr1 H H1 _ hq F m lb a w _ rs ?_;intro F1 m1 lb1 a1 w1 st1 rs1;exact ⟨rfl,fr1,H1,F1,m1,lb1,he,rs1,h.after (lb':=lb1) st1⟩
       . rintro k a w ⟨fr2,H2,F2,m2,lb2,he2,rs2,hn2⟩;cases k with
         | zero=>simp [itF,M3] at he2
         | succ k=>
           rw [itF] at he2;cases hs:s2 (keep live fr2) H2 with
           | none=>rw [hs] at he2;simp [I6,M3] at he2
           | some p=>
             obtain ⟨e3,fr3,H3⟩:=p;rw [hs] at he2;refine h2 fb _ fr3 H2 H3 e3 hs F2 m2 lb2 a w _ (vQ rs2 _) ?_;intro F3 m3 lb3 a3 w3 st3 rs3;cases e3 with
             | nrm=>
               simp only [I6,M3,if_true,Option.some.injEq,Prod.mk.injEq] at he2;obtain ⟨rfl,rfl,rfl⟩:=he2;exact hn2 F3 m3 lb3 a3 w3 st3 rs3
             | exit i=>
               simp only [I6,M3,Option.some.injEq,Prod.mk.injEq] at he2;obtain ⟨rfl,rfl,rfl⟩:=he2;exact hn2 F3 m3 lb3 a3 w3 st3 rs3
             | ret=>
               simp only [I6,M3,Option.some.injEq,Prod.mk.injEq] at he2;obtain ⟨rfl,rfl,rfl⟩:=he2;exact hn2 F3 m3 lb3 a3 w3 st3 rs3
             | goto l2=>
               simp only [I6] at he2;by_cases hl2:l2=l'
               . subst hl2;simp only [if_true] at he2;exact ⟨rfl,k,Nat.lt_succ_self k,fr3,H3,F3,m3,lb3,he2,rs3,hn2.after (lb':=lb3) st3⟩
               . simp only [if_neg hl2,M3] at he2;cases he2
     . cases he
theorem aN {md:Nat->Md} {all:List Oper} {lbs:Nat->Bool} {res:List Nat}:∀ (c:Code) (ex gs:List (Nat×List Nat)) (after:List Nat) (ic:ICode),b7 P md all lbs res c ex gs after=some ic->∀ l,findLabel c l=none->N3 ic l=none:=by
 intro c;induction c with
 | seq x y ihx ihy=>
   intro ex gs after ic hc l hl;unfold b7 at hc;split at hc
   . rename_i ix iy h1 h2;injection hc with hc;subst hc;simp only [findLabel] at hl;split at hl
     . cases hl
     . rename_i hr;simp only [N3,ihx _ _ _ _ h1 l hr,ihy _ _ _ _ h2 l hl]
   . cases hc
 | label l'=>
   intro ex gs after ic hc l hl;simp [b7] at hc;subst hc;simp only [findLabel] at hl;split at hl
   . cases hl
   . rename_i hne;simp only [N3];rw [if_neg hne]
 | region id ops draw=>
   intro ex gs after ic hc l hl;cases draw with
   | false=>
     unfold b7 at hc;split at hc
     . injection hc with hc;subst hc;rfl
     . injection hc with hc;subst hc;rfl
   | true=>
     unfold b7 at hc;split at hc
     . dsimp only at hc;split at hc
       . injection hc with hc;subst hc;rfl
       . split at hc
         . injection hc with hc;subst hc;rfl
         . injection hc with hc;subst hc;rfl
     . injection hc with hc;subst hc;rfl
 | cond x a b _ _=>
   intro ex gs after ic hc l hl;unfold b7 at hc;split at hc
   . injection hc with hc;subst hc;rfl
   . cases hc
 | block id b _=>
   intro ex gs after ic hc l hl;unfold b7 at hc;simp only [Option.map_eq_some_iff] at hc;obtain ⟨ib,_,rfl⟩:=hc;rfl
 | loop b _=>
   intro ex gs after ic hc l hl;unfold b7 at hc;simp only [Option.map_eq_some_iff] at hc;obtain ⟨ib,_,rfl⟩:=hc;rfl
 | scope b _=>
   intro ex gs after ic hc l hl;unfold b7 at hc;split at hc
   . cases hc
   . dsimp only at hc;split at hc
     . cases hc
     . split at hc
       . cases hc
       . injection hc with hc;subst hc;rfl
 | _=>intro ex gs after ic hc l hl;simp [b7] at hc<;>subst hc<;>rfl
theorem z89 {E:Env} {call:j8} (hok:O0 P call) {md:Nat->Md} {all:List Oper} {lbs:Nat->Bool} {res:List Nat} (n:Nat):∀ (c:Code) (ex gs:List (Nat×List Nat)) (after:List Nat) (ic:ICode),b7 P md all lbs res c ex gs after=some ic->(∀ o∈Code.opers c,∀ d,o.dst=some d->d<N) ->
 Sim P N c (evC E call (itF n) ic)/\∀ l r,findLabel c l=some r->∃ ir,N3 ic l=some ir/\Sim P N r (evC E call (itF n) ir):=by
 intro c;induction c with
 | skip=>
   intro ex gs after ic hc _;simp [b7] at hc;subst hc;refine ⟨?_,fun l r hl=>by simp [findLabel] at hl⟩;intro fb fr fr' H H' e he F m lb a w Q rs h;simp only [evC,Option.some.injEq,Prod.mk.injEq] at he;obtain ⟨rfl,rfl,rfl⟩:=he;exact wp_skip (h F m lb a w (Stp.refl ..) rs)
 | region id ops draw=>
   intro ex gs after ic hc hd;refine ⟨?_,fun l r hl=>by simp [findLabel] at hl⟩;intro fb fr fr' H H' e he F m lb a w Q rs h;cases draw with
   | false=>
     unfold b7 at hc;cases h1:G7 P all 6 ops ops.toList with
     | none=>rw [h1] at hc;injection hc with hc;subst hc;cases he
     | some ios=>
     rw [h1] at hc;injection hc with hc;subst hc;unfold evC at he;cases hx:K0 E call ios { fr with al:=x6 } H with
     | none=>rw [hx] at he;cases he
     | some p=>
       obtain ⟨fr1,H1⟩:=p;rw [hx] at he;simp only [Option.some.injEq,Prod.mk.injEq] at he;obtain ⟨rfl,rfl,rfl⟩:=he;refine wp_region ?_;have hr:=z78 E call [] ios { fr with al:=x6 } H;rw [hx] at hr;simp only [List.nil_append,List.length_nil,Nat.zero_add,List.map_id'] at hr;have hl:ios.length=ops.size:=by have:=qX h1;simpa using this
       rw [<-hl];exact z08 hok h1 hd (List.range ios.length) (kH rs) hr h
   | true=>
     unfold b7 at hc;cases h1:G7 P all 0 ops ops.toList with
     | none=>rw [h1] at hc;injection hc with hc;subst hc;cases he
     | some ios=>
       rw [h1] at hc;dsimp only at hc;split at hc
       . rename_i hdr;obtain ⟨hmix,hdr⟩:=hdr;injection hc with hc;subst hc;unfold evC at he;cases hx:E7 E call (ios.map fun io=>(N5 md lbs ios io.op,io)) { fr with al:=x6 } H with
         | none=>rw [hx] at he;cases he
         | some p=>
           obtain ⟨fr1,H1⟩:=p;rw [hx] at he;simp only [Option.some.injEq,Prod.mk.injEq] at he;obtain ⟨rfl,rfl,rfl⟩:=he;refine wp_region_any hmix ?_;have hr:=lN (E:=E) (call:=call) [] (ios.map fun io=>(N5 md lbs ios io.op,io)) { fr with al:=x6 } H;rw [hx] at hr;simp only [List.nil_append,List.length_nil,Nat.zero_add,List.map_id',List.length_map] at hr;have hl:ios.length=ops.size:=by have:=qX h1;simpa using this
           rw [hl] at hr;have hun:((List.range ops.size).filter fun k=>!(Array.replicate ops.size false).getD k true)=List.range ops.size:=by
            rw [List.filter_eq_self];intro k hk;have:k<ops.size:=by simpa using hk
            simp [Array.getD_eq_getD_getElem?,this]
           have st:=Stp.drawn fb F H m w (w.drawn+1);have hs1:RS fb N w F H m lb { fr with al:=x6 } a:=kH rs;have hs2:RS fb N { w with drawn:=w.drawn+1 } F H m lb { fr with al:=x6 } a:=
            ⟨yF hs1.heap,hs1.fr.step (Stp.drawn w.heap.size F H m w (w.drawn+1)),hs1.fb⟩
           refine cU hok h1 hd hdr (fun _ _ _ _=>.inr rfl) ops.size (Array.replicate ops.size false) hs2 (fun t ht=>absurd rfl ht) (by simp) ?_ ?_ (zx9 (fun x hx=>by
            obtain ⟨io,_,rfl⟩:=List.mem_map.1 hx;exact zy7 _) _ _ _) (by rw [hun];exact hr) (h.after0 st)
           . intro j o hj;simp [Array.getD_eq_getD_getElem?] at hj;by_cases hjs:j<ops.size
             . simp [hjs] at hj
             . simp [hjs] at hj
           . rw [hun];simp
       . split at hc
         . rename_i hdr;obtain ⟨hmix,hdr,hblk,hfl⟩:=hdr;injection hc with hc;subst hc;unfold evC at he;have hflat:=z41 (A:=anc ops.toList []) (n:=(ios.map fun io=>(zX (N5 md lbs ios io.op) io,io)).length) (ios.map fun io=>(zX (N5 md lbs ios io.op) io,io)) 0 [];rw [List.nil_append] at hflat;generalize X7 (anc ops.toList []) (ios.map fun io=>(zX (N5 md lbs ios io.op) io,io)).length (ios.map fun io=>(zX (N5 md lbs ios io.op) io,io)) 0 []=BS at he hblk hflat;cases hx:Q8 E call BS { fr with al:=x6 } H with
           | none=>rw [hx] at he;cases he
           | some p=>
             obtain ⟨fr1,H1⟩:=p;rw [hx] at he;simp only [Option.some.injEq,Prod.mk.injEq] at he;obtain ⟨rfl,rfl,rfl⟩:=he;obtain ⟨Ws,hx,hvis⟩:=zz3 _ [] hx;have hvis:=hvis (fun k=>(·∈Ws (V4 BS k))) (fun k _=>by simp);rw [hflat] at hx hvis;simp only [List.nil_append,List.length_nil,Nat.zero_add,List.map_id',List.length_map] at hvis;refine wp_region_any hmix ?_;have hr:=lN (E:=E) (call:=call) [] (ios.map fun io=>(zX (N5 md lbs ios io.op) io,io)) { fr with al:=x6 } H;rw [hx] at hr;simp only [List.nil_append,List.length_nil,Nat.zero_add,List.map_id',List.length_map] at hr;have hl:ios.length=ops.size:=by have:=qX h1;simpa using this
             rw [hl] at hr hvis;have hun:((List.range ops.size).filter fun k=>!(Array.replicate ops.size false).getD k true)=List.range ops.size:=by
              rw [List.filter_eq_self];intro k hk;have:k<ops.size:=by simpa using hk
              simp [Array.getD_eq_getD_getElem?,this]
             have st:=Stp.drawn fb F H m w (w.drawn+1);have hs1:RS fb N w F H m lb { fr with al:=x6 } a:=kH rs;have hs2:RS fb N { w with drawn:=w.drawn+1 } F H m lb { fr with al:=x6 } a:=
              ⟨yF hs1.heap,hs1.fr.step (Stp.drawn w.heap.size F H m w (w.drawn+1)),hs1.fb⟩
             refine cU (W:=fun k=>(·∈Ws (V4 BS k))) hok h1 hd hdr (fun j hj i hi=>by
              unfold aP at hblk;rw [List.all_eq_true] at hblk;have b1:=hblk j (by simpa using hj);rw [List.all_eq_true] at b1;have b2:=b1 i (by simpa using hi);rw [Bool.or_eq_true,beq_iff_eq] at b2;rcases b2 with b2 | b2
              . exact .inl b2
              . exact .inr (by rw [b2])) ops.size (Array.replicate ops.size false) hs2 (fun t ht=>absurd rfl ht) (by simp) ?_ ?_ (by rw [hun];exact hvis) (by rw [hun];exact hr) (h.after0 st)
             . intro j o hj;simp [Array.getD_eq_getD_getElem?] at hj;by_cases hjs:j<ops.size
               . simp [hjs] at hj
               . simp [hjs] at hj
             . rw [hun];simp
         . injection hc with hc;subst hc;cases he
 | seq x y ihx ihy=>
   intro ex gs after ic hc hd;unfold b7 at hc;split at hc
   . rename_i ix iy h1 h2;injection hc with hc;subst hc;obtain ⟨sx,lx⟩:=ihx _ _ _ _ h1 (fun o ho=>hd o (mem_opers_seq.2 (.inl ho)));obtain ⟨sy,ly⟩:=ihy _ _ _ _ h2 (fun o ho=>hd o (mem_opers_seq.2 (.inr ho)));have e:∀ i1 i2,evC E call (itF n) (.seq i1 i2)=fun fr H=>match evC E call (itF n) i1 fr H with
      | some (.nrm,fr',H')=>evC E call (itF n) i2 fr' H'
      | r=>r:=fun _ _=>rfl
     refine ⟨by rw [e];exact aK sx sy,fun l r hl=>?_⟩;simp only [findLabel] at hl;split at hl
     . rename_i rest hr;injection hl with hl;subst hl;obtain ⟨ir,k1,k2⟩:=lx l rest hr;exact ⟨.seq ir iy,by simp only [N3,k1],by rw [e];exact aK k2 sy⟩
     . rename_i hr;obtain ⟨ir,k1,k2⟩:=ly l r hl;refine ⟨ir,?_,k2⟩;have hn:N3 ix l=none:=aN _ _ _ _ _ h1 l hr;simp only [N3,hn,k1]
   . cases hc
 | cond x c1 c2 ih1 ih2=>
   intro ex gs after ic hc hd;refine ⟨?_,fun l r hl=>by simp [findLabel] at hl⟩;intro fb fr fr' H H' e he F m lb a w Q rs h;unfold b7 at hc;split at hc
   . rename_i ix i1 i2 h0 h1 h2;injection hc with hc;subst hc;unfold evC at he;obtain ⟨hx,_⟩:=j9 rs.fr h0;split at he
     . rename_i b hb;rw [hb,rh_c,rc_bool] at hx;cases b with
       | true=>exact wp_cond_true hx ((ih1 _ _ _ _ h1 (fun o ho=>hd o (by simp [Code.opers,ho]))).1 fb _ fr' H H' e (by simpa [evC] using he) F m lb a w Q (vQ rs _) h)
       | false=>exact wp_cond_false hx ((ih2 _ _ _ _ h2 (fun o ho=>hd o (by simp [Code.opers,ho]))).1 fb _ fr' H H' e (by simpa [evC] using he) F m lb a w Q (vQ rs _) h)
     . cases he
   . cases hc
 | block id b ih=>
   intro ex gs after ic hc hd;refine ⟨?_,fun l r hl=>by simp [findLabel] at hl⟩;intro fb fr fr' H H' e he F m lb a w Q rs h;unfold b7 at hc;simp only [Option.map_eq_some_iff] at hc;obtain ⟨ib,h1,rfl⟩:=hc;unfold evC at he;refine wp_block ?_;cases hx:evC E call (itF n) ib fr H with
   | none=>rw [hx] at he;cases he
   | some p=>
     obtain ⟨e1,fr1,H1⟩:=p;rw [hx] at he;refine (ih _ _ _ _ h1 hd).1 fb fr fr1 H H1 e1 hx F m lb a w _ rs ?_;intro F1 m1 lb1 a1 w1 st1 rs1;cases e1 with
     | nrm=>
       simp only [Option.some.injEq,Prod.mk.injEq] at he;obtain ⟨rfl,rfl,rfl⟩:=he;exact h F1 m1 lb1 a1 w1 st1 rs1
     | exit i=>
       dsimp only at he;show Exit.inBlock id Q (.exit i) a1 w1;unfold Exit.inBlock;dsimp only;split at he
       . rename_i hi;simp only [Option.some.injEq,Prod.mk.injEq] at he;obtain ⟨rfl,rfl,rfl⟩:=he;rw [if_pos hi];exact h F1 m1 lb1 a1 w1 st1 rs1
       . rename_i hi;simp only [Option.some.injEq,Prod.mk.injEq] at he;obtain ⟨rfl,rfl,rfl⟩:=he;rw [if_neg hi];exact h F1 m1 lb1 a1 w1 st1 rs1
     | goto l=>
       simp only [Option.some.injEq,Prod.mk.injEq] at he;obtain ⟨rfl,rfl,rfl⟩:=he;exact h F1 m1 lb1 a1 w1 st1 rs1
     | ret=>
       simp only [Option.some.injEq,Prod.mk.injEq] at he;obtain ⟨rfl,rfl,rfl⟩:=he;exact h F1 m1 lb1 a1 w1 st1 rs1
 | loop b ih=>
   intro ex gs after ic hc hd;refine ⟨?_,fun l r hl=>by simp [findLabel] at hl⟩;intro fb fr fr' H H' e he F m lb a w Q rs h;unfold b7 at hc;simp only [Option.map_eq_some_iff] at hc;obtain ⟨ib,h1,rfl⟩:=hc;unfold evC at he;refine eO (s:=fun fr H=>evC E call (itF n) ib (keep _ fr) H) ?_ n fb fr fr' H H' e he F m lb a w Q rs h;intro fb2 fr2 fr2' H2 H2' e2 he2 F2 m2 lb2 a2 w2 Q2 rs2 hn2;exact (ih _ _ _ _ h1 hd).1 fb2 _ fr2' H2 H2' e2 he2 F2 m2 lb2 a2 w2 Q2 (vQ rs2 _) hn2
 | rangeFunc f ps x y ihx ihy=>
   intro ex gs after ic hc _;simp [b7] at hc;subst hc;refine ⟨?_,fun l r hl=>by simp [findLabel] at hl⟩;intro fb fr fr' H H' e he F m lb a w Q rs h;cases he
 | exit id=>
   intro ex gs after ic hc _;simp [b7] at hc;subst hc;refine ⟨?_,fun l r hl=>by simp [findLabel] at hl⟩;intro fb fr fr' H H' e he F m lb a w Q rs h;simp only [evC,Option.some.injEq,Prod.mk.injEq] at he;obtain ⟨rfl,rfl,rfl⟩:=he;exact wp_exit (h F m lb a w (Stp.refl ..) rs)
 | scope b ih=>
   intro ex gs after ic hc hd;refine ⟨?_,fun l r hl=>by simp [findLabel] at hl⟩;unfold b7 at hc;split at hc
   . cases hc
   . rename_i l hl;dsimp only at hc;split at hc
     . cases hc
     . rename_i ib hib;split at hc
       . cases hc
       . rename_i ir hir;injection hc with hc;subst hc;obtain ⟨sb,lb⟩:=ih _ _ _ _ hib hd;cases hf:findLabel b l with
         | none=>rw [aN _ _ _ _ _ hib l hf] at hir;cases hir
         | some rest=>
           obtain ⟨ir',k1,k2⟩:=lb l rest hf;rw [hir] at k1;injection k1 with k1;subst k1;exact z63 hf sb k2
 | label l=>
   intro ex gs after ic hc _;simp [b7] at hc;subst hc;refine ⟨?_,fun l' r hl=>?_⟩;rotate_left
   . simp only [findLabel] at hl;split at hl
     . rename_i hll;injection hl with hl;subst hl;refine ⟨.skip,by simp only [N3,hll,if_true],?_⟩;intro fb fr fr' H H' e he F m lb a w Q rs h;simp only [evC,Option.some.injEq,Prod.mk.injEq] at he;obtain ⟨rfl,rfl,rfl⟩:=he;exact wp_skip (h F m lb a w (Stp.refl ..) rs)
     . cases hl
   intro fb fr fr' H H' e he F m lb a w Q rs h;simp only [evC,Option.some.injEq,Prod.mk.injEq] at he;obtain ⟨rfl,rfl,rfl⟩:=he;exact wp_label (h F m lb a w (Stp.refl ..) rs)
 | goto l=>
   intro ex gs after ic hc _;simp [b7] at hc;subst hc;refine ⟨?_,fun l r hl=>by simp [findLabel] at hl⟩;intro fb fr fr' H H' e he F m lb a w Q rs h;simp only [evC,Option.some.injEq,Prod.mk.injEq] at he;obtain ⟨rfl,rfl,rfl⟩:=he;exact wp_goto (h F m lb a w (Stp.refl ..) rs)
 | ret=>
   intro ex gs after ic hc _;simp [b7] at hc;subst hc;refine ⟨?_,fun l r hl=>by simp [findLabel] at hl⟩;intro fb fr fr' H H' e he F m lb a w Q rs h;simp only [evC,Option.some.injEq,Prod.mk.injEq] at he;obtain ⟨rfl,rfl,rfl⟩:=he;exact wp_ret (h F m lb a w (Stp.refl ..) rs)
 | refuse why=>
   intro ex gs after ic hc _;simp [b7] at hc;subst hc;refine ⟨?_,fun l r hl=>by simp [findLabel] at hl⟩;intro fb fr fr' H H' e he F m lb a w Q rs h;cases he
theorem za4 {E:Env} {call:j8} (hok:O0 P call) {md:Nat->Md} {all:List Oper} {lbs:Nat->Bool} {res:List Nat} (n:Nat) (c:Code) (ex gs:List (Nat×List Nat)) (after:List Nat) (ic:ICode) (hc:b7 P md all lbs res c ex gs after=some ic) (hd:∀ o∈Code.opers c,∀ d,o.dst=some d->d<N):Sim P N c (evC E call (itF n) ic):=
 (z89 hok n c ex gs after ic hc hd).1
end
end Go.Proofs.Lz
