/- Operations that read memory, and the values that are taken apart and put together. -/
import Derived.Test.YtlimfobeoodkjaaGreatDoorLzOps
import Derived.Deep.MidRow
set_option linter.unusedVariables false
set_option linter.unusedSimpArgs false
set_option linter.unusedSectionVars false
namespace Go.Proofs.Lz
variable [GlobTab]
section
variable {P:Program} {fb N:Nat} {w:World} {F:Nat->Prop} {H:q7} {m:j7} {lb:Nat->Nat} {fr:Fr} {a:Act} {o:Oper}
variable {K:Act->World->Prop} {Q:Exit->Act->World->Prop}
theorem rhs_cons {c:HV} {r:List HV} {vs:List Value}:RHs w F H m (c::r) vs↔∃ v us,vs=v::us/\RH w F H m c v/\RHs w F H m r us:=by
 constructor
 . intro h;unfold RHs at h;exact h
 . intro h;unfold RHs;exact h
theorem rhs_nil {vs:List Value}:RHs w F H m [] vs↔vs=[]:=by
 constructor
 . intro h;unfold RHs at h;exact h
 . intro h;unfold RHs;exact h
theorem Q6 {cs:List HV}:∀ {vs:List Value},RHs w F H m cs vs->vs.length=cs.length:=by
 induction cs with
 | nil=>intro vs h;rw [rhs_nil] at h;simp [h]
 | cons c cs ih=>intro vs h;rw [rhs_cons] at h;obtain ⟨v,us,rfl,_,h⟩:=h;simp [ih h]
theorem lM {cs:List HV}:∀ {vs:List Value} (n:Nat),RHs w F H m cs vs->RHs w F H m (cs.take n) (vs.take n):=by
 induction cs with
 | nil=>intro vs n h;rw [rhs_nil] at h;subst h;simp [rhs_nil]
 | cons c cs ih=>
   intro vs n h;rw [rhs_cons] at h;obtain ⟨v,us,rfl,h1,h2⟩:=h;cases n with
   | zero=>simp [rhs_nil]
   | succ n=>simp only [List.take_succ_cons];rw [rhs_cons];exact ⟨v,us.take n,rfl,h1,ih n h2⟩
theorem dL {cs:List HV}:∀ {vs:List Value} (n:Nat),RHs w F H m cs vs->RHs w F H m (cs.drop n) (vs.drop n):=by
 induction cs with
 | nil=>intro vs n h;rw [rhs_nil] at h;subst h;simp [rhs_nil]
 | cons c cs ih=>
   intro vs n h;have h0:=h;rw [rhs_cons] at h;obtain ⟨v,us,rfl,h1,h2⟩:=h;cases n with
   | zero=>simpa using h0
   | succ n=>simp only [List.drop_succ_cons];exact ih n h2
theorem jK {cs:List HV}:∀ {vs:List Value} {i:Nat} {c:HV},RHs w F H m cs vs->cs[i]?=some c->∃ v,vs[i]?=some v/\RH w F H m c v:=by
 induction cs with
 | nil=>intro vs i c h hc;simp at hc
 | cons c0 cs ih=>
   intro vs i c h hc;rw [rhs_cons] at h;obtain ⟨v,us,rfl,h1,h2⟩:=h;cases i with
   | zero=>simp at hc;subst hc;exact ⟨v,by simp,h1⟩
   | succ i=>simp only [List.getElem?_cons_succ] at hc ⊢;exact ih h2 hc
theorem qV {cs ds:List HV}:∀ {vs us:List Value},RHs w F H m cs vs->RHs w F H m ds us->RHs w F H m (cs++ds) (vs++us):=by
 induction cs with
 | nil=>intro vs us h k;rw [rhs_nil] at h;subst h;exact k
 | cons c cs ih=>
   intro vs us h k;rw [rhs_cons] at h;obtain ⟨v,vs',rfl,h1,h2⟩:=h;rw [List.cons_append,List.cons_append,rhs_cons];exact ⟨v,vs'++us,rfl,h1,ih h2 k⟩
theorem zN {l:List CV}:∀ {vs:List Value},RCs w F l vs->RHs w F H m (l.map .c) vs:=by
 induction l with
 | nil=>intro vs h;rw [rcs_nil] at h;subst h;rw [List.map_nil,rhs_nil]
 | cons c l ih=>
   intro vs h;rw [rcs_cons] at h;obtain ⟨v,us,rfl,h1,h2⟩:=h;rw [List.map_cons,rhs_cons];exact ⟨v,us,rfl,rh_c.2 h1,ih h2⟩
theorem X9 {ek:Option Nat} {x:CV} {v:Value} (hf:fits ek x=true) (h:RC w F x v):Shape ek v/\RCs w F x.flat v.cells.toList/\∀ u∈v.cells.toList,u.oneCell'=true:=by
 cases ek with
 | none=>
   cases x with
   | agg cs=>simp [fits] at hf
   | frz e xs=>have h0:=h;unfold RC at h;obtain ⟨a,cap,rfl,_⟩:=h;exact ⟨rfl,by simp only [CV.flat,Value.cells];rw [rcs_cons];exact ⟨_,[],rfl,h0,rcs_nil.2 rfl⟩,by simp [Value.cells,Value.oneCell']⟩
   | fptr e x off=>have h0:=h;unfold RC at h;obtain ⟨b,q,u,rfl,_⟩:=h;exact ⟨rfl,by simp only [CV.flat,Value.cells];rw [rcs_cons];exact ⟨_,[],rfl,h0,rcs_nil.2 rfl⟩,by simp [Value.cells,Value.oneCell']⟩
   | fn f a b=>have h0:=h;unfold RC at h;obtain ⟨q,u,rfl,_⟩:=h;exact ⟨rfl,by simp only [CV.flat,Value.cells];rw [rcs_cons];exact ⟨_,[],rfl,h0,rcs_nil.2 rfl⟩,by simp [Value.cells,Value.oneCell']⟩
   | iface t x=>have h0:=h;unfold RC at h;obtain ⟨q,rfl,_⟩:=h;exact ⟨rfl,by simp only [CV.flat,Value.cells];rw [rcs_cons];exact ⟨_,[],rfl,h0,rcs_nil.2 rfl⟩,by simp [Value.cells,Value.oneCell']⟩
   | opq=>have h0:=h;unfold RC at h;obtain ⟨_,q,rfl⟩:=h;exact ⟨rfl,by simp only [CV.flat,Value.cells];rw [rcs_cons];exact ⟨_,[],rfl,h0,rcs_nil.2 rfl⟩,by simp [Value.cells,Value.oneCell']⟩
   | nes=>have h0:=h;unfold RC at h;obtain ⟨_,q,rfl⟩:=h;exact ⟨rfl,by simp only [CV.flat,Value.cells];rw [rcs_cons];exact ⟨_,[],rfl,h0,rcs_nil.2 rfl⟩,by simp [Value.cells,Value.oneCell']⟩
   | nln=>have h0:=h;unfold RC at h;obtain ⟨q,rfl⟩:=h;exact ⟨rfl,by simp only [CV.flat,Value.cells];rw [rcs_cons];exact ⟨_,[],rfl,h0,rcs_nil.2 rfl⟩,by simp [Value.cells,Value.oneCell']⟩
   | _=>have h0:=h;unfold RC at h;subst h;exact ⟨rfl,by simp only [CV.flat,Value.cells];rw [rcs_cons];exact ⟨_,[],rfl,h0,rcs_nil.2 rfl⟩,by simp [Value.cells,Value.oneCell']⟩
 | some n=>
   cases x with
   | agg cs=>
     simp [fits] at hf;unfold RC at h;obtain ⟨vs,rfl,h1,h2⟩:=h;exact ⟨⟨vs,rfl,by rw [R9 h1,hf],h2⟩,by simpa [CV.flat,Value.cells] using h1,by simpa [Value.cells] using h2⟩
   | _=>simp [fits] at hf
theorem V2 {ek:Option Nat} {x:HV} {v:Value} (hf:s5 ek x=true) (h:RH w F H m x v):Shape ek v/\RHs w F H m x.flat v.cells.toList/\∀ u∈v.cells.toList,u.oneCell'=true:=by
 cases x with
 | c x=>
   have hf':fits ek x=true:=by cases ek<;>simpa [s5] using hf
   rw [rh_c] at h;obtain ⟨h1,h2,h3⟩:=X9 hf' h;refine ⟨h1,?_,h3⟩;cases x with
   | agg l=>exact zN h2
   | _=>exact zN h2
 | agg cs=>
   cases ek with
   | none=>simp [s5] at hf
   | some n=>
     simp [s5] at hf;unfold RH at h;obtain ⟨vs,rfl,h1,h2⟩:=h;exact ⟨⟨vs,rfl,by rw [Q6 h1,hf],h2⟩,by simpa [HV.flat,Value.cells] using h1,by simpa [Value.cells] using h2⟩
 | nils=>cases ek with
   | none=>have h0:=h;unfold RH at h;subst h;exact ⟨rfl,by simp only [HV.flat,Value.cells];rw [rhs_cons];exact ⟨_,[],rfl,h0,rhs_nil.2 rfl⟩,by simp [Value.cells,Value.oneCell']⟩
   | some n=>simp [s5] at hf
 | sl id ver off len=>cases ek with
   | none=>have h0:=h;unfold RH at h;obtain ⟨ad,cap,rfl,_⟩:=h;exact ⟨rfl,by simp only [HV.flat,Value.cells];rw [rhs_cons];exact ⟨_,[],rfl,h0,rhs_nil.2 rfl⟩,by simp [Value.cells,Value.oneCell']⟩
   | some n=>simp [s5] at hf
 | ptr id off=>cases ek with
   | none=>have h0:=h;unfold RH at h;obtain ⟨rfl,_⟩:=h;exact ⟨rfl,by simp only [HV.flat,Value.cells];rw [rhs_cons];exact ⟨_,[],rfl,h0,rhs_nil.2 rfl⟩,by simp [Value.cells,Value.oneCell']⟩
   | some n=>simp [s5] at hf
 | eptr id ver i off=>cases ek with
   | none=>have h0:=h;unfold RH at h;obtain ⟨ad,rfl,_⟩:=h;exact ⟨rfl,by simp only [HV.flat,Value.cells];rw [rhs_cons];exact ⟨_,[],rfl,h0,rhs_nil.2 rfl⟩,by simp [Value.cells,Value.oneCell']⟩
   | some n=>simp [s5] at hf
 | fn f a b=>cases ek with
   | none=>have h0:=h;unfold RH at h;obtain ⟨q,u,rfl,_⟩:=h;exact ⟨rfl,by simp only [HV.flat,Value.cells];rw [rhs_cons];exact ⟨_,[],rfl,h0,rhs_nil.2 rfl⟩,by simp [Value.cells,Value.oneCell']⟩
   | some n=>simp [s5] at hf
 | iface t x=>cases ek with
   | none=>have h0:=h;unfold RH at h;obtain ⟨q,rfl,_⟩:=h;exact ⟨rfl,by simp only [HV.flat,Value.cells];rw [rhs_cons];exact ⟨_,[],rfl,h0,rhs_nil.2 rfl⟩,by simp [Value.cells,Value.oneCell']⟩
   | some n=>simp [s5] at hf
 | mapr id=>cases ek with
   | none=>have h0:=h;unfold RH at h;obtain ⟨rfl,_⟩:=h;exact ⟨rfl,by simp only [HV.flat,Value.cells];rw [rhs_cons];exact ⟨_,[],rfl,h0,rhs_nil.2 rfl⟩,by simp [Value.cells,Value.oneCell']⟩
   | some n=>simp [s5] at hf
 | _=>cases ek<;>simp [s5] at hf
def SubAt (us vs:List Value) (off:Nat):Prop:=∀ (j:Nat) (v:Value),us[j]?=some v->vs[off+j]?=some v
theorem SubAt.range {us vs:List Value} {off b o':Nat} (h:SubAt us vs off) (hr:w.rangeAt b o' vs):w.rangeAt b (o'+off) us:=by
 intro j v hv;have:=hr (off+j) v (h j v hv);rw [<-Nat.add_assoc] at this;exact this
theorem yJ {cs:List HV} {vs:List Value} (hr:RHs w F H m cs vs) (h1:∀ u∈vs,u.oneCell'=true) {ek:Option Nat} {off:Nat} {y:HV} (hp:D1 ek cs off=some y) :
 ∃ u,RH w F H m y u/\Shape ek u/\SubAt u.cells.toList vs off/\(∀ e x,y≠.lbox e x):=by
 cases ek with
 | none=>
   simp only [D1] at hp;obtain ⟨v,hv,hvr⟩:=jK hr hp;have ho:=h1 v (List.mem_of_getElem? hv);have hc:v.cells.toList=[v]:=by cases v<;>first | rfl | cases ho
   refine ⟨v,hvr,ho,?_,?_⟩
   . rw [hc];intro j u hu;cases j with
     | zero=>simp at hu;subst hu;simpa using hv
     | succ j=>simp at hu
   . intro e x hh;subst hh;unfold RH at hvr;exact hvr
 | some n=>
   simp only [D1] at hp;split at hp
   . rename_i hle;injection hp with hp;subst hp;have hrr:=lM n (dL off hr);have h1':∀ u∈(vs.drop off).take n,u.oneCell'=true:=fun u hu=>h1 u (List.mem_of_mem_drop (List.mem_of_mem_take hu));refine ⟨_,jI hrr h1',⟨(vs.drop off).take n,rfl,?_,h1'⟩,?_,vB _⟩
     . rw [Q6 hrr,List.length_take,List.length_drop];omega
     . intro j u hu;simp only [Value.cells] at hu;rw [List.getElem?_take] at hu;split at hu
       . rw [List.getElem?_drop] at hu;exact hu
       . cases hu
   . cases hp
theorem zb5 {cs:List CV} {vs:List Value} (hr:RCs w F cs vs) (h1:∀ u∈vs,u.oneCell'=true) {ek:Option Nat} {off:Nat} {y:CV} (hp:R7 ek cs off=some y) :
 ∃ u,RC w F y u/\Shape ek u/\SubAt u.cells.toList vs off:=by
 cases ek with
 | none=>
   simp only [R7] at hp;obtain ⟨v,hv,hvr⟩:=cK hr hp;have ho:=h1 v (List.mem_of_getElem? hv);have hc:v.cells.toList=[v]:=by cases v<;>first | rfl | cases ho
   refine ⟨v,hvr,ho,?_⟩;rw [hc];intro j u hu;cases j with
   | zero=>simp at hu;subst hu;simpa using hv
   | succ j=>simp at hu
 | some n=>
   simp only [R7] at hp;split at hp
   . rename_i hle;injection hp with hp;subst hp;have hrr:=yY n (yR off hr);have h1':∀ u∈(vs.drop off).take n,u.oneCell'=true:=fun u hu=>h1 u (List.mem_of_mem_drop (List.mem_of_mem_take hu));refine ⟨.agg ((vs.drop off).take n).toArray,by unfold RC;exact ⟨_,rfl,hrr,h1'⟩,⟨(vs.drop off).take n,rfl,?_,h1'⟩,?_⟩
     . rw [R9 hrr,List.length_take,List.length_drop];omega
     . intro j u hu;simp only [Value.cells] at hu;rw [List.getElem?_take] at hu;split at hu
       . rw [List.getElem?_drop] at hu;exact hu
       . cases hu
   . cases hp
theorem gK {ek:Option Nat} {x:CV} {v:Value} (hs:Shape ek v) (h:RC w F x v):fits ek x=true:=by
 cases ek with
 | none=>
   cases x with
   | agg cs=>unfold RC at h;obtain ⟨vs,rfl,_⟩:=h;cases hs
   | _=>rfl
 | some n=>
   obtain ⟨vs,rfl,hl,_⟩:=hs;cases x with
   | agg cs=>unfold RC at h;obtain ⟨us,he,h1,_⟩:=h;injection he with he;have:=R9 h1;simp only [fits,beq_iff_eq];have e2:vs=us:=by simpa using he
             subst e2;omega
   | frz e xs=>unfold RC at h;obtain ⟨_,_,he,_⟩:=h;cases he
   | fptr e x off=>unfold RC at h;obtain ⟨_,_,_,he,_⟩:=h;cases he
   | fn f a b=>unfold RC at h;obtain ⟨_,_,he,_⟩:=h;cases he
   | iface t x=>unfold RC at h;obtain ⟨_,he,_⟩:=h;cases he
   | opq=>unfold RC at h;obtain ⟨_,_,he⟩:=h;cases he
   | nes=>unfold RC at h;obtain ⟨_,_,he⟩:=h;cases he
   | nln=>unfold RC at h;obtain ⟨_,he⟩:=h;cases he
   | _=>unfold RC at h;cases h
theorem bV {ek' ek:Option Nat} {x y:CV} {off:Nat} {v:Value} (hs:Shape ek' v) (h:RC w F x v) (hr:I9 ek' ek x off=some y):∃ u,RC w F y u/\Shape ek u/\SubAt u.cells.toList v.cells.toList off:=by
 unfold I9 at hr;split at hr
 . rename_i hh;obtain ⟨h1,h2⟩:=hh;subst h1;subst h2;injection hr with hr;subst hr;exact ⟨v,h,hs,fun j u hu=>by simpa using hu⟩
 . obtain ⟨_,h2,h3⟩:=X9 (gK hs h) h;exact zb5 h2 h3 hr
theorem gC {ek:Option Nat} {xs:List CV}:∀ {vs:List Value} {i:Nat} {x:CV},RRow w F ek xs vs->xs[i]?=some x->∃ u,RC w F x u/\Shape ek u/\SubAt u.cells.toList vs (i * j0 ek):=by
 have hsz:∀ {v:Value},Shape ek v->v.cells.toList.length=j0 ek:=by
  intro v hv;cases ek with
  | none=>cases v<;>first | rfl | cases hv
  | some n=>obtain ⟨l,rfl,hl,_⟩:=hv;simpa [Value.cells,j0] using hl
 induction xs with
 | nil=>intro vs i x h hx;simp at hx
 | cons c cs ih=>
   intro vs i x h hx;unfold RRow at h;obtain ⟨v,us,rfl,h1,h2,h3⟩:=h;cases i with
   | zero=>
     simp at hx;subst hx;refine ⟨v,h2,h1,?_⟩;intro j u hu;simp only [Nat.zero_mul,Nat.zero_add];rw [List.getElem?_append_left (gEs hu).1];exact hu
   | succ i=>
     simp only [List.getElem?_cons_succ] at hx;obtain ⟨u,h4,h5,h6⟩:=ih h3 hx;refine ⟨u,h4,h5,?_⟩;intro j y hy;have:=h6 j y hy;rw [List.getElem?_append_right (by rw [hsz h1,Nat.succ_mul];omega)];rw [hsz h1];rw [<-this];congr 1;rw [Nat.succ_mul];omega
theorem pG {t:TypeId} {n:Nat} (h:x5 P t=some (some n)):(∃ d,P.underlying t=some d/\d.isRow=true)/\(P.info? t).map (·.size)=some n/\0<n:=by
 unfold x5 at h;split at h
 . rename_i fs i hu hi;split at h
   . rename_i hp;injection h with h;injection h with h;exact ⟨⟨_,hu,rfl⟩,by simp [hi,h],by omega⟩
   . cases h
 . rename_i k e i hu hi;split at h
   . rename_i hp;injection h with h;injection h with h;exact ⟨⟨_,hu,rfl⟩,by simp [hi,h],by omega⟩
   . cases h
 . split at h<;>cases h
 . cases h
theorem uQ {t:TypeId} (h:x5 P t=some none):(∃ d,P.underlying t=some d/\(∀ fs,d≠.struct fs)/\∀ n e,d≠.array n e)/\(P.info? t).map (·.size)=some 1:=by
 unfold x5 at h;split at h
 . split at h<;>cases h
 . split at h<;>cases h
 . rename_i d i h1 h2 hd hi;split at h
   . rename_i hs;exact ⟨⟨d,hd,fun fs e=>h1 fs e,fun n e' e=>h2 n e' e⟩,by simp [hi,hs]⟩
   . cases h
 . cases h
theorem zf4 {t:TypeId} (hu:∃ d,P.underlying t=some d/\(∀ fs,d≠.struct fs)/\∀ n e,d≠.array n e):(isAgg t).run P w=.ok false w:=by
 obtain ⟨d,hd,h1,h2⟩:=hu;unfold isAgg;rw [Sem.run_bind,run_underlying hd w];cases d<;>first | rfl | exact absurd rfl (h1 _) | exact absurd rfl (h2 _ _)
theorem run_load {t:TypeId} {ek:Option Nat} (he:x5 P t=some ek) {b off:Nat} {v:Value} (hs:Shape ek v) (hr:w.rangeAt b off v.cells.toList):(loadVar t ⟨b,off,none⟩).run P w=.ok v w:=by
 cases ek with
 | none=>
   obtain ⟨hu,_⟩:=uQ he;have hc:v.cells.toList=[v]:=by cases v<;>first | rfl | cases hs
   rw [hc] at hr;have:=hr 0 v rfl;simp only [Nat.add_zero] at this;simp [loadVar,Sem.run_bind,zf4 hu,this]
 | some n=>
   obtain ⟨⟨fs,hu,hrow⟩,hi,_⟩:=pG he;obtain ⟨vs,rfl,hl,_⟩:=hs;simp only [Value.cells] at hr;exact run_loadVar_mid w b off t vs _ hr hu hrow (by rw [hi,hl])
theorem uN {t:TypeId} {ek:Option Nat} (he:x5 P t=some ek) {b off:Nat} {v:Value} (hs:Shape ek v) (hr:w.rangeAt b off v.cells.toList):(Instr.loadAt t (.pointer (some ⟨b,off,none⟩))).run P w=.ok v w:=by
 simp only [Instr.loadAt,Instr.sureAddr,Sem.run_bind,Sem.run_pure,Result.andThen_ok,run_load he hs hr]
theorem P8 {b e:Nat} {fz:Nat×Nat} {vs rest:List Value} (h:w.heap[b]?=some (.cells (vs++rest).toArray e fz)):w.rangeAt b 0 vs:=by
 intro j v hv;have hj:=(gEs hv).1;simp only [World.cell?,h,Nat.zero_add,Option.isSome_none,Bool.false_eq_true,if_false];rw [List.getElem?_toArray,List.getElem?_append_left hj];exact hv
theorem cM (hh:RHeap w F H m) {ek:Option Nat} {p y:HV} {u:Value} (hp:RH w F H m p u) (hl:m9 ek p H=some y):∃ b off v,u=.pointer (some ⟨b,off,none⟩)/\RH w F H m y v/\Shape ek v/\w.rangeAt b off v.cells.toList/\∀ e x,y≠.lbox e x:=by
 cases p with
 | c p=>
   cases p with
   | fptr ek' x off=>
     simp only [m9,Option.map_eq_some_iff] at hl;obtain ⟨y',hy,rfl⟩:=hl;rw [rh_c] at hp;unfold RC at hp;obtain ⟨b,o',u',rfl,_,hs,hr,hx⟩:=hp;obtain ⟨v,h1,h2,h3⟩:=bV hs hx hy;exact ⟨b,o'+off,v,rfl,rh_c.2 h1,h2,h3.range hr,G0 _⟩
   | _=>simp [m9] at hl
 | ptr id off=>
   simp only [m9] at hl;unfold RH at hp;obtain ⟨rfl,_⟩:=hp;split at hl
   . rename_i ek' cs hc;obtain ⟨_,vs,e,h1,h2,h3⟩:=hh.var id ek' cs hc;obtain ⟨v,h4,h5,h6,h7⟩:=yJ h2 h3 hl;have hr:w.rangeAt (m id).blk 0 vs:=P8 (rest:=[]) (by simpa using h1);refine ⟨_,_,v,rfl,h4,h5,?_,h7⟩;have:=h6.range hr;simpa using this
   . cases hl
 | eptr id ver i off=>
   simp only [m9] at hl;unfold RH at hp;obtain ⟨ad,rfl,_,had⟩:=hp;split at hl
   . rename_i fz e' ek' ver' xs hc;split at hl
     . rename_i hv;subst hv;split at hl
       . rename_i x hx;simp only [Option.map_eq_some_iff] at hl;obtain ⟨y',hy,rfl⟩:=hl;obtain ⟨vs,rest,⟨_,h1,_⟩,h2,_⟩:=hh.row id fz e' ek' ver' xs hc;obtain ⟨u',h3,h4,h5⟩:=gC h2 hx;obtain ⟨v,h6,h7,h8⟩:=bV h4 h3 hy;rw [had fz e' ek' xs hc];refine ⟨_,_,v,rfl,rh_c.2 h6,h7,?_,G0 _⟩;have hr:=h5.range (P8 h1);have:=h8.range hr;simpa [Nat.add_comm] using this
       . cases hl
     . cases hl
   . cases hl
 | _=>simp [m9] at hl
theorem z00 {t:TypeId} {x:Operand} {ix:Opd} {ek:Option Nat} (ho:o.op=.load t x) (he:x5 P t=some ek) (hx:j5 x=some ix) (hs:RS fb N w F H m lb fr a) (hN:∀ d,o.dst=some d->d<N)
 {fr':Fr} {H':q7} (hd:q9 (.load ek ix) o.dst fr H=some (fr',H')) (h:Next fb N w F H m fr' H' K):o.wp P a w K Q:=by
 unfold q9 at hd;dsimp only at hd;cases hp:fr.place ix with
 | some p=>
   obtain ⟨b,off⟩:=p;rw [hp] at hd;dsimp only at hd;cases hb:fr.env b with
   | lbox ek' y=>
     rw [hb] at hd;dsimp only at hd;have hpl:=(jT hs.fr hx hp).2;obtain ⟨_,_,_,_,_,_,hft,v,e,h7,h8,h9⟩:=hs.fr.box b ek' y hb;have hr:w.rangeAt (lb b) 0 v.cells.toList:=P8 (rest:=[]) (by simpa using h7);by_cases hw:off=0/\ek'=ek
     . rw [if_pos hw] at hd;obtain ⟨h1,h2⟩:=hw;subst h1;subst h2;injection hd with hd;injection hd with q1 q2;subst q1;subst q2;have hnb:∀ e x,y≠.lbox e x:=by intro e x hh;subst hh;cases ek'<;>simp [s5] at hft
       refine x7 hs hN (u:=v) h9 hnb h ?_;simp [execOp,ho,hpl,uN he h8 hr]
     . rw [if_neg hw] at hd;cases hq:D1 ek y.flat off with
       | none=>rw [hq] at hd;cases hd
       | some z=>
         rw [hq] at hd;injection hd with hd;injection hd with q1 q2;subst q1;subst q2;obtain ⟨_,hfl,hone⟩:=V2 hft h9;obtain ⟨u,h1,h2,h3,h4⟩:=yJ hfl hone hq;refine x7 hs hN (u:=u) h1 h4 h ?_;have:=h3.range hr;simp only [Nat.zero_add] at this;simp [execOp,ho,hpl,uN he h2 this]
   | _=>rw [hb] at hd;cases hd
 | none=>
   rw [hp] at hd;dsimp only at hd;cases hl:m9 ek (fr.opd ix) H with
   | none=>rw [hl] at hd;cases hd
   | some y=>
     rw [hl] at hd;injection hd with hd;injection hd with q1 q2;subst q1;subst q2;obtain ⟨h1,_⟩:=j9 hs.fr hx;obtain ⟨b,off,v,e1,e2,e3,e4,e5⟩:=cM hs.heap h1 hl;refine x7 hs hN (u:=v) e2 e5 h ?_;simp [execOp,ho,e1,uN he e3 e4]
end
end Go.Proofs.Lz
