/- More operations that leave memory alone: addresses, parts, indexes, slices, lengths, tuples, conversions, functions. -/
import Derived.Test.YtencoceemejcnaaGreatDoorLzOps
import Derived.Deep.MidRow
import Derived.Laws.Slices
import Derived.Laws.Strings
import Derived.Laws.Small
set_option linter.unusedVariables false
set_option linter.unusedSimpArgs false
set_option linter.unusedSectionVars false
namespace Go.Proofs.Lz
variable [GlobTab]
section
variable {P:Program} {fb N:Nat} {w:World} {F:Nat->Prop} {H:j6} {m:a7} {lb:Nat->Nat} {fr:Fr} {a:Act} {o:Oper}
variable {K:Act->World->Prop} {Q:Exit->Act->World->Prop}
theorem rhs_cons {c:HV} {r:List HV} {vs:List Value}:RHs w F H m (c::r) vs↔∃ v us,vs=v::us/\RH w F H m c v/\RHs w F H m r us:=by
 constructor
 . intro h;unfold RHs at h;exact h
 . intro h;unfold RHs;exact h
theorem rhs_nil {vs:List Value}:RHs w F H m [] vs↔vs=[]:=by
 constructor
 . intro h;unfold RHs at h;exact h
 . intro h;unfold RHs;exact h
theorem qM {cs:List HV}:∀ {vs:List Value},RHs w F H m cs vs->vs.length=cs.length:=by
 induction cs with
 | nil=>intro vs h;rw [rhs_nil] at h;simp [h]
 | cons c cs ih=>intro vs h;rw [rhs_cons] at h;obtain ⟨v,us,rfl,_,h⟩:=h;simp [ih h]
theorem eU {cs:List HV}:∀ {vs:List Value} (n:Nat),RHs w F H m cs vs->RHs w F H m (cs.take n) (vs.take n):=by
 induction cs with
 | nil=>intro vs n h;rw [rhs_nil] at h;subst h;simp [rhs_nil]
 | cons c cs ih=>
   intro vs n h;rw [rhs_cons] at h;obtain ⟨v,us,rfl,h1,h2⟩:=h;cases n with
   | zero=>simp [rhs_nil]
   | succ n=>simp only [List.take_succ_cons];rw [rhs_cons];exact ⟨v,us.take n,rfl,h1,ih n h2⟩
theorem zh1 {cs:List HV}:∀ {vs:List Value} (n:Nat),RHs w F H m cs vs->RHs w F H m (cs.drop n) (vs.drop n):=by
 induction cs with
 | nil=>intro vs n h;rw [rhs_nil] at h;subst h;simp [rhs_nil]
 | cons c cs ih=>
   intro vs n h;have h0:=h;rw [rhs_cons] at h;obtain ⟨v,us,rfl,h1,h2⟩:=h;cases n with
   | zero=>simpa using h0
   | succ n=>simp only [List.drop_succ_cons];exact ih n h2
theorem pE {cs:List HV}:∀ {vs:List Value} {i:Nat} {c:HV},RHs w F H m cs vs->cs[i]?=some c->∃ v,vs[i]?=some v/\RH w F H m c v:=by
 induction cs with
 | nil=>intro vs i c h hc;simp at hc
 | cons c0 cs ih=>
   intro vs i c h hc;rw [rhs_cons] at h;obtain ⟨v,us,rfl,h1,h2⟩:=h;cases i with
   | zero=>simp at hc;subst hc;exact ⟨v,by simp,h1⟩
   | succ i=>simp only [List.getElem?_cons_succ] at hc ⊢;exact ih h2 hc
theorem uR {cs ds:List HV}:∀ {vs us:List Value},RHs w F H m cs vs->RHs w F H m ds us->RHs w F H m (cs++ds) (vs++us):=by
 induction cs with
 | nil=>intro vs us h k;rw [rhs_nil] at h;subst h;exact k
 | cons c cs ih=>
   intro vs us h k;rw [rhs_cons] at h;obtain ⟨v,vs',rfl,h1,h2⟩:=h;rw [List.cons_append,List.cons_append,rhs_cons];exact ⟨v,vs'++us,rfl,h1,ih h2 k⟩
theorem yN {l:List CV}:∀ {vs:List Value},RCs w F l vs->RHs w F H m (l.map .c) vs:=by
 induction l with
 | nil=>intro vs h;rw [rcs_nil] at h;subst h;rw [List.map_nil,rhs_nil]
 | cons c l ih=>
   intro vs h;rw [rcs_cons] at h;obtain ⟨v,us,rfl,h1,h2⟩:=h;rw [List.map_cons,rhs_cons];exact ⟨v,us,rfl,rh_c.2 h1,ih h2⟩
theorem xK {ek:Option Nat} {x:CV} {v:Value} (hf:fits ek x=true) (h:RC w F x v):Shape ek v/\RCs w F x.flat v.cells.toList/\∀ u∈v.cells.toList,u.oneCell'=true:=by
 cases ek with
 | none=>
   cases x with
   | agg cs=>simp [fits] at hf
   | frz e xs=>have h0:=h;unfold RC at h;obtain ⟨a,cap,rfl,_⟩:=h;exact ⟨rfl,by simp only [CV.flat,Value.cells];rw [rcs_cons];exact ⟨_,[],rfl,h0,rcs_nil.2 rfl⟩,by simp [Value.cells,Value.oneCell']⟩
   | fptr e x off=>have h0:=h;unfold RC at h;obtain ⟨b,q,u,rfl,_⟩:=h;exact ⟨rfl,by simp only [CV.flat,Value.cells];rw [rcs_cons];exact ⟨_,[],rfl,h0,rcs_nil.2 rfl⟩,by simp [Value.cells,Value.oneCell']⟩
   | fn f a b=>have h0:=h;unfold RC at h;obtain ⟨q,u,rfl,_⟩:=h;exact ⟨rfl,by simp only [CV.flat,Value.cells];rw [rcs_cons];exact ⟨_,[],rfl,h0,rcs_nil.2 rfl⟩,by simp [Value.cells,Value.oneCell']⟩
   | iface t x=>have h0:=h;unfold RC at h;obtain ⟨q,rfl,_⟩:=h;exact ⟨rfl,by simp only [CV.flat,Value.cells];rw [rcs_cons];exact ⟨_,[],rfl,h0,rcs_nil.2 rfl⟩,by simp [Value.cells,Value.oneCell']⟩
   | opq=>have h0:=h;unfold RC at h;obtain ⟨_,q,rfl⟩:=h;exact ⟨rfl,by simp only [CV.flat,Value.cells];rw [rcs_cons];exact ⟨_,[],rfl,h0,rcs_nil.2 rfl⟩,by simp [Value.cells,Value.oneCell']⟩
   | _=>have h0:=h;unfold RC at h;subst h;exact ⟨rfl,by simp only [CV.flat,Value.cells];rw [rcs_cons];exact ⟨_,[],rfl,h0,rcs_nil.2 rfl⟩,by simp [Value.cells,Value.oneCell']⟩
 | some n=>
   cases x with
   | agg cs=>
     simp [fits] at hf;unfold RC at h;obtain ⟨vs,rfl,h1,h2⟩:=h;exact ⟨⟨vs,rfl,by rw [jE h1,hf],h2⟩,by simpa [CV.flat,Value.cells] using h1,by simpa [Value.cells] using h2⟩
   | _=>simp [fits] at hf
theorem wT {ek:Option Nat} {x:HV} {v:Value} (hf:G4 ek x=true) (h:RH w F H m x v):Shape ek v/\RHs w F H m x.flat v.cells.toList/\∀ u∈v.cells.toList,u.oneCell'=true:=by
 cases x with
 | c x=>
   have hf':fits ek x=true:=by cases ek<;>simpa [G4] using hf
   rw [rh_c] at h;obtain ⟨h1,h2,h3⟩:=xK hf' h;refine ⟨h1,?_,h3⟩;cases x with
   | agg l=>exact yN h2
   | _=>exact yN h2
 | agg cs=>
   cases ek with
   | none=>simp [G4] at hf
   | some n=>
     simp [G4] at hf;unfold RH at h;obtain ⟨vs,rfl,h1,h2⟩:=h;exact ⟨⟨vs,rfl,by rw [qM h1,hf],h2⟩,by simpa [HV.flat,Value.cells] using h1,by simpa [Value.cells] using h2⟩
 | nils=>cases ek with
   | none=>have h0:=h;unfold RH at h;subst h;exact ⟨rfl,by simp only [HV.flat,Value.cells];rw [rhs_cons];exact ⟨_,[],rfl,h0,rhs_nil.2 rfl⟩,by simp [Value.cells,Value.oneCell']⟩
   | some n=>simp [G4] at hf
 | sl id ver off len=>cases ek with
   | none=>have h0:=h;unfold RH at h;obtain ⟨ad,cap,rfl,_⟩:=h;exact ⟨rfl,by simp only [HV.flat,Value.cells];rw [rhs_cons];exact ⟨_,[],rfl,h0,rhs_nil.2 rfl⟩,by simp [Value.cells,Value.oneCell']⟩
   | some n=>simp [G4] at hf
 | ptr id off=>cases ek with
   | none=>have h0:=h;unfold RH at h;obtain ⟨rfl,_⟩:=h;exact ⟨rfl,by simp only [HV.flat,Value.cells];rw [rhs_cons];exact ⟨_,[],rfl,h0,rhs_nil.2 rfl⟩,by simp [Value.cells,Value.oneCell']⟩
   | some n=>simp [G4] at hf
 | eptr id ver i off=>cases ek with
   | none=>have h0:=h;unfold RH at h;obtain ⟨ad,rfl,_⟩:=h;exact ⟨rfl,by simp only [HV.flat,Value.cells];rw [rhs_cons];exact ⟨_,[],rfl,h0,rhs_nil.2 rfl⟩,by simp [Value.cells,Value.oneCell']⟩
   | some n=>simp [G4] at hf
 | fn f a b=>cases ek with
   | none=>have h0:=h;unfold RH at h;obtain ⟨q,u,rfl,_⟩:=h;exact ⟨rfl,by simp only [HV.flat,Value.cells];rw [rhs_cons];exact ⟨_,[],rfl,h0,rhs_nil.2 rfl⟩,by simp [Value.cells,Value.oneCell']⟩
   | some n=>simp [G4] at hf
 | iface t x=>cases ek with
   | none=>have h0:=h;unfold RH at h;obtain ⟨q,rfl,_⟩:=h;exact ⟨rfl,by simp only [HV.flat,Value.cells];rw [rhs_cons];exact ⟨_,[],rfl,h0,rhs_nil.2 rfl⟩,by simp [Value.cells,Value.oneCell']⟩
   | some n=>simp [G4] at hf
 | _=>cases ek<;>simp [G4] at hf
def SubAt (us vs:List Value) (off:Nat):Prop:=∀ (j:Nat) (v:Value),us[j]?=some v->vs[off+j]?=some v
theorem SubAt.range {us vs:List Value} {off b o':Nat} (h:SubAt us vs off) (hr:w.rangeAt b o' vs):w.rangeAt b (o'+off) us:=by
 intro j v hv;have:=hr (off+j) v (h j v hv);rw [<-Nat.add_assoc] at this;exact this
theorem tL {cs:List HV} {vs:List Value} (hr:RHs w F H m cs vs) (h1:∀ u∈vs,u.oneCell'=true) {ek:Option Nat} {off:Nat} {y:HV} (hp:G2 ek cs off=some y) :
 ∃ u,RH w F H m y u/\Shape ek u/\SubAt u.cells.toList vs off/\(∀ e x,y≠.lbox e x):=by
 cases ek with
 | none=>
   simp only [G2] at hp;obtain ⟨v,hv,hvr⟩:=pE hr hp;have ho:=h1 v (List.mem_of_getElem? hv);have hc:v.cells.toList=[v]:=by cases v<;>first | rfl | cases ho
   refine ⟨v,hvr,ho,?_,?_⟩
   . rw [hc];intro j u hu;cases j with
     | zero=>simp at hu;subst hu;simpa using hv
     | succ j=>simp at hu
   . intro e x hh;subst hh;unfold RH at hvr;exact hvr
 | some n=>
   simp only [G2] at hp;split at hp
   . rename_i hle;injection hp with hp;subst hp;have hrr:=eU n (zh1 off hr);have h1':∀ u∈(vs.drop off).take n,u.oneCell'=true:=fun u hu=>h1 u (List.mem_of_mem_drop (List.mem_of_mem_take hu));refine ⟨_,bA hrr h1',⟨(vs.drop off).take n,rfl,?_,h1'⟩,?_,sR _⟩
     . rw [qM hrr,List.length_take,List.length_drop];omega
     . intro j u hu;simp only [Value.cells] at hu;rw [List.getElem?_take] at hu;split at hu
       . rw [List.getElem?_drop] at hu;exact hu
       . cases hu
   . cases hp
theorem jd0 {cs:List CV} {vs:List Value} (hr:RCs w F cs vs) (h1:∀ u∈vs,u.oneCell'=true) {ek:Option Nat} {off:Nat} {y:CV} (hp:gG ek cs off=some y) :
 ∃ u,RC w F y u/\Shape ek u/\SubAt u.cells.toList vs off:=by
 cases ek with
 | none=>
   simp only [gG] at hp;obtain ⟨v,hv,hvr⟩:=zj2 hr hp;have ho:=h1 v (List.mem_of_getElem? hv);have hc:v.cells.toList=[v]:=by cases v<;>first | rfl | cases ho
   refine ⟨v,hvr,ho,?_⟩;rw [hc];intro j u hu;cases j with
   | zero=>simp at hu;subst hu;simpa using hv
   | succ j=>simp at hu
 | some n=>
   simp only [gG] at hp;split at hp
   . rename_i hle;injection hp with hp;subst hp;have hrr:=dC n (nB off hr);have h1':∀ u∈(vs.drop off).take n,u.oneCell'=true:=fun u hu=>h1 u (List.mem_of_mem_drop (List.mem_of_mem_take hu));refine ⟨.agg ((vs.drop off).take n).toArray,by unfold RC;exact ⟨_,rfl,hrr,h1'⟩,⟨(vs.drop off).take n,rfl,?_,h1'⟩,?_⟩
     . rw [jE hrr,List.length_take,List.length_drop];omega
     . intro j u hu;simp only [Value.cells] at hu;rw [List.getElem?_take] at hu;split at hu
       . rw [List.getElem?_drop] at hu;exact hu
       . cases hu
   . cases hp
theorem lI {ek:Option Nat} {x:CV} {v:Value} (hs:Shape ek v) (h:RC w F x v):fits ek x=true:=by
 cases ek with
 | none=>
   cases x with
   | agg cs=>unfold RC at h;obtain ⟨vs,rfl,_⟩:=h;cases hs
   | _=>rfl
 | some n=>
   obtain ⟨vs,rfl,hl,_⟩:=hs;cases x with
   | agg cs=>unfold RC at h;obtain ⟨us,he,h1,_⟩:=h;injection he with he;have:=jE h1;simp only [fits,beq_iff_eq];have e2:vs=us:=by simpa using he
             subst e2;omega
   | frz e xs=>unfold RC at h;obtain ⟨_,_,he,_⟩:=h;cases he
   | fptr e x off=>unfold RC at h;obtain ⟨_,_,_,he,_⟩:=h;cases he
   | fn f a b=>unfold RC at h;obtain ⟨_,_,he,_⟩:=h;cases he
   | iface t x=>unfold RC at h;obtain ⟨_,he,_⟩:=h;cases he
   | opq=>unfold RC at h;obtain ⟨_,_,he⟩:=h;cases he
   | _=>unfold RC at h;cases h
theorem zm4 {ek' ek:Option Nat} {x y:CV} {off:Nat} {v:Value} (hs:Shape ek' v) (h:RC w F x v) (hr:P4 ek' ek x off=some y):∃ u,RC w F y u/\Shape ek u/\SubAt u.cells.toList v.cells.toList off:=by
 unfold P4 at hr;split at hr
 . rename_i hh;obtain ⟨h1,h2⟩:=hh;subst h1;subst h2;injection hr with hr;subst hr;exact ⟨v,h,hs,fun j u hu=>by simpa using hu⟩
 . obtain ⟨_,h2,h3⟩:=xK (lI hs h) h;exact jd0 h2 h3 hr
theorem sC {ek:Option Nat} {xs:List CV}:∀ {vs:List Value} {i:Nat} {x:CV},RRow w F ek xs vs->xs[i]?=some x->∃ u,RC w F x u/\Shape ek u/\SubAt u.cells.toList vs (i * g7 ek):=by
 have hsz:∀ {v:Value},Shape ek v->v.cells.toList.length=g7 ek:=by
  intro v hv;cases ek with
  | none=>cases v<;>first | rfl | cases hv
  | some n=>obtain ⟨l,rfl,hl,_⟩:=hv;simpa [Value.cells,g7] using hl
 induction xs with
 | nil=>intro vs i x h hx;simp at hx
 | cons c cs ih=>
   intro vs i x h hx;unfold RRow at h;obtain ⟨v,us,rfl,h1,h2,h3⟩:=h;cases i with
   | zero=>
     simp at hx;subst hx;refine ⟨v,h2,h1,?_⟩;intro j u hu;simp only [Nat.zero_mul,Nat.zero_add];rw [List.getElem?_append_left (gEs hu).1];exact hu
   | succ i=>
     simp only [List.getElem?_cons_succ] at hx;obtain ⟨u,h4,h5,h6⟩:=ih h3 hx;refine ⟨u,h4,h5,?_⟩;intro j y hy;have:=h6 j y hy;rw [List.getElem?_append_right (by rw [hsz h1,Nat.succ_mul];omega)];rw [hsz h1];rw [<-this];congr 1;rw [Nat.succ_mul];omega
theorem tM {t:TypeId} {n:Nat} (h:A0 P t=some (some n)):(∃ fs,P.underlying t=some (.struct fs))/\(P.info? t).map (·.size)=some n/\0<n:=by
 unfold A0 at h;split at h
 . rename_i fs i hu hi;split at h
   . rename_i hp;injection h with h;injection h with h;exact ⟨⟨fs,hu⟩,by simp [hi,h],by omega⟩
   . cases h
 . cases h
 . split at h<;>cases h
 . cases h
theorem aG {t:TypeId} (h:A0 P t=some none):(∃ d,P.underlying t=some d/\(∀ fs,d≠.struct fs)/\∀ n e,d≠.array n e)/\(P.info? t).map (·.size)=some 1:=by
 unfold A0 at h;split at h
 . split at h<;>cases h
 . cases h
 . rename_i d i h1 h2 hd hi;split at h
   . rename_i hs;exact ⟨⟨d,hd,fun fs e=>h1 fs e,fun n e' e=>h2 n e' e⟩,by simp [hi,hs]⟩
   . cases h
 . cases h
theorem zz0 {t:TypeId} (hu:∃ d,P.underlying t=some d/\(∀ fs,d≠.struct fs)/\∀ n e,d≠.array n e):(isAgg t).run P w=.ok false w:=by
 obtain ⟨d,hd,h1,h2⟩:=hu;unfold isAgg;rw [Sem.run_bind,run_underlying hd w];cases d<;>first | rfl | exact absurd rfl (h1 _) | exact absurd rfl (h2 _ _)
theorem run_load {t:TypeId} {ek:Option Nat} (he:A0 P t=some ek) {b off:Nat} {v:Value} (hs:Shape ek v) (hr:w.rangeAt b off v.cells.toList):(loadVar t ⟨b,off,none⟩).run P w=.ok v w:=by
 cases ek with
 | none=>
   obtain ⟨hu,_⟩:=aG he;have hc:v.cells.toList=[v]:=by cases v<;>first | rfl | cases hs
   rw [hc] at hr;have:=hr 0 v rfl;simp only [Nat.add_zero] at this;simp [loadVar,Sem.run_bind,zz0 hu,this]
 | some n=>
   obtain ⟨⟨fs,hu⟩,hi,_⟩:=tM he;obtain ⟨vs,rfl,hl,_⟩:=hs;simp only [Value.cells] at hr;exact run_loadVar_mid w b off t vs _ hr hu rfl (by rw [hi,hl])
theorem rW {t:TypeId} {ek:Option Nat} (he:A0 P t=some ek) {b off:Nat} {v:Value} (hs:Shape ek v) (hr:w.rangeAt b off v.cells.toList):(Instr.loadAt t (.pointer (some ⟨b,off,none⟩))).run P w=.ok v w:=by
 simp only [Instr.loadAt,Instr.sureAddr,Sem.run_bind,Sem.run_pure,Result.andThen_ok,run_load he hs hr]
theorem Y8 {b e:Nat} {fz:Nat×Nat} {vs rest:List Value} (h:w.heap[b]?=some (.cells (vs++rest).toArray e fz)):w.rangeAt b 0 vs:=by
 intro j v hv;have hj:=(gEs hv).1;simp only [World.cell?,h,Nat.zero_add,Option.isSome_none,Bool.false_eq_true,if_false];rw [List.getElem?_toArray,List.getElem?_append_left hj];exact hv
theorem z58 (hh:RHeap w F H m) {ek:Option Nat} {p y:HV} {u:Value} (hp:RH w F H m p u) (hl:B7 ek p H=some y):∃ b off v,u=.pointer (some ⟨b,off,none⟩)/\RH w F H m y v/\Shape ek v/\w.rangeAt b off v.cells.toList/\∀ e x,y≠.lbox e x:=by
 cases p with
 | c p=>
   cases p with
   | fptr ek' x off=>
     simp only [B7,Option.map_eq_some_iff] at hl;obtain ⟨y',hy,rfl⟩:=hl;rw [rh_c] at hp;unfold RC at hp;obtain ⟨b,o',u',rfl,_,hs,hr,hx⟩:=hp;obtain ⟨v,h1,h2,h3⟩:=zm4 hs hx hy;exact ⟨b,o'+off,v,rfl,rh_c.2 h1,h2,h3.range hr,Q4 _⟩
   | _=>simp [B7] at hl
 | ptr id off=>
   simp only [B7] at hl;unfold RH at hp;obtain ⟨rfl,_⟩:=hp;split at hl
   . rename_i ek' cs hc;obtain ⟨_,vs,e,h1,h2,h3⟩:=hh.var id ek' cs hc;obtain ⟨v,h4,h5,h6,h7⟩:=tL h2 h3 hl;have hr:w.rangeAt (m id).blk 0 vs:=Y8 (rest:=[]) (by simpa using h1);refine ⟨_,_,v,rfl,h4,h5,?_,h7⟩;have:=h6.range hr;simpa using this
   . cases hl
 | eptr id ver i off=>
   simp only [B7] at hl;unfold RH at hp;obtain ⟨ad,rfl,_,had⟩:=hp;split at hl
   . rename_i fz e' ek' ver' xs hc;split at hl
     . rename_i hv;subst hv;split at hl
       . rename_i x hx;simp only [Option.map_eq_some_iff] at hl;obtain ⟨y',hy,rfl⟩:=hl;obtain ⟨vs,rest,⟨_,h1,_⟩,h2,_⟩:=hh.row id fz e' ek' ver' xs hc;obtain ⟨u',h3,h4,h5⟩:=sC h2 hx;obtain ⟨v,h6,h7,h8⟩:=zm4 h4 h3 hy;rw [had fz e' ek' xs hc];refine ⟨_,_,v,rfl,rh_c.2 h6,h7,?_,Q4 _⟩;have hr:=h5.range (Y8 h1);have:=h8.range hr;simpa [Nat.add_comm] using this
       . cases hl
     . cases hl
   . cases hl
 | _=>simp [B7] at hl
theorem zt4 {t:TypeId} {x:Operand} {ix:Opd} {ek:Option Nat} (ho:o.op=.load t x) (he:A0 P t=some ek) (hx:c7 x=some ix) (hs:RS fb N w F H m lb fr a) (hN:∀ d,o.dst=some d->d<N)
 {fr':Fr} {H':j6} (hd:x4 (.load ek ix) o.dst fr H=some (fr',H')) (h:Next fb N w F H m fr' H' K):o.wp P a w K Q:=by
 unfold x4 at hd;dsimp only at hd;cases hp:fr.place ix with
 | some p=>
   obtain ⟨b,off⟩:=p;rw [hp] at hd;dsimp only at hd;cases hb:fr.env b with
   | lbox ek' y=>
     rw [hb] at hd;dsimp only at hd;have hpl:=(pD hs.fr hx hp).2;obtain ⟨_,_,_,_,_,_,hft,v,e,h7,h8,h9⟩:=hs.fr.box b ek' y hb;have hr:w.rangeAt (lb b) 0 v.cells.toList:=Y8 (rest:=[]) (by simpa using h7);by_cases hw:off=0/\ek'=ek
     . rw [if_pos hw] at hd;obtain ⟨h1,h2⟩:=hw;subst h1;subst h2;injection hd with hd;injection hd with q1 q2;subst q1;subst q2;have hnb:∀ e x,y≠.lbox e x:=by intro e x hh;subst hh;cases ek'<;>simp [G4] at hft
       refine B0 hs hN (u:=v) h9 hnb h ?_;simp [execOp,ho,hpl,rW he h8 hr]
     . rw [if_neg hw] at hd;cases hq:G2 ek y.flat off with
       | none=>rw [hq] at hd;cases hd
       | some z=>
         rw [hq] at hd;injection hd with hd;injection hd with q1 q2;subst q1;subst q2;obtain ⟨_,hfl,hone⟩:=wT hft h9;obtain ⟨u,h1,h2,h3,h4⟩:=tL hfl hone hq;refine B0 hs hN (u:=u) h1 h4 h ?_;have:=h3.range hr;simp only [Nat.zero_add] at this;simp [execOp,ho,hpl,rW he h2 this]
   | _=>rw [hb] at hd;cases hd
 | none=>
   rw [hp] at hd;dsimp only at hd;cases hl:B7 ek (fr.opd ix) H with
   | none=>rw [hl] at hd;cases hd
   | some y=>
     rw [hl] at hd;injection hd with hd;injection hd with q1 q2;subst q1;subst q2;obtain ⟨h1,_⟩:=B8 hs.fr hx;obtain ⟨b,off,v,e1,e2,e3,e4,e5⟩:=z58 hs.heap h1 hl;refine B0 hs hN (u:=v) e2 e5 h ?_;simp [execOp,ho,e1,rW he e3 e4]
end
end Go.Proofs.Lz
namespace Go.Proofs.Lz
variable [GlobTab]
section
variable {P:Program} {fb N:Nat} {w:World} {F:Nat->Prop} {H:j6} {m:a7} {lb:Nat->Nat} {fr:Fr} {a:Act} {o:Oper}
variable {K:Act->World->Prop} {Q:Exit->Act->World->Prop}
theorem q73 {c x y:Operand} {ic ix iy:Opd} (ho:o.op=.pick c x y) (hc:c7 c=some ic) (hx:c7 x=some ix) (hy:c7 y=some iy) (hs:RS fb N w F H m lb fr a) (hN:∀ d,o.dst=some d->d<N)
 {fr':Fr} {H':j6} (hd:x4 (.pick ic ix iy) o.dst fr H=some (fr',H')) (h:Next fb N w F H m fr' H' K):o.wp P a w K Q:=by
 obtain ⟨h1,_⟩:=B8 hs.fr hc;obtain ⟨h3,h4⟩:=B8 hs.fr hx;obtain ⟨h5,h6⟩:=B8 hs.fr hy;unfold x4 at hd;dsimp only at hd;split at hd
 . rename_i t e;rw [e,rh_c,rc_bool] at h1;injection hd with hd;injection hd with q1 q2;subst q1;subst q2;cases t with
   | true=>refine B0 hs hN (u:=a.eval x) h3 h4 h ?_;simp [execOp,ho,h1,asBool]
   | false=>refine B0 hs hN (u:=a.eval y) h5 h6 h ?_;simp [execOp,ho,h1,asBool]
 . cases hd
theorem vC {t:TypeId} {ek:Option Nat} (h:A0 P t=some ek):(P.info? t).map (·.size)=some (g7 ek)/\0<g7 ek:=by
 cases ek with
 | none=>exact ⟨(aG h).2,by decide⟩
 | some n=>obtain ⟨_,h1,h2⟩:=tM h;exact ⟨h1,h2⟩
theorem run_sizeOf {t:TypeId} {ek:Option Nat} (h:A0 P t=some ek):(sizeOf t).run P w=.ok (g7 ek) w:=by
 obtain ⟨h1,_⟩:=vC h;cases hi:P.info? t with
 | none=>simp [hi] at h1
 | some i=>simp [hi] at h1;simp [sizeOf,typeInfo,hi,h1]
theorem nZ {s:TypeId} {fs:Array Field} {f:Nat} {fd:Field} {ek:Option Nat} (hu:P.underlying s=some (.struct fs)) (hf:fs[f]?=some fd) (he:A0 P fd.type=some ek) (ad:Addr) :
 (Instr.fieldAt s (.pointer (some ad)) f).run P w=.ok (.pointer (some (ad.add fd.offset))) w:=by
 have h1:=run_sizeOf (w:=w) he;have h2:=(vC he).2;unfold Instr.fieldAt;simp only [Sem.run_bind,run_underlying hu,Result.andThen_ok,hf,Instr.sureAddr,Sem.run_pure,fieldPlace,h1];rw [if_neg (by omega)];simp
theorem j43 {s:TypeId} {x:Operand} {f:Nat} {fs:Array Field} {fd:Field} {ek:Option Nat} {ix:Opd} (ho:o.op=.fieldAddr s x f) (hu:P.underlying s=some (.struct fs)) (hf:fs[f]?=some fd) (he:A0 P fd.type=some ek)
 (hx:c7 x=some ix) (hs:RS fb N w F H m lb fr a) (hN:∀ d,o.dst=some d->d<N)
 {fr':Fr} {H':j6} (hd:x4 (.faddr fd.offset ix) o.dst fr H=some (fr',H')) (h:Next fb N w F H m fr' H' K):o.wp P a w K Q:=by
 unfold x4 at hd;dsimp only at hd;cases hp:fr.place ix with
 | some p=>
   obtain ⟨b,off⟩:=p;rw [hp] at hd;obtain ⟨_,hpl⟩:=pD hs.fr hx hp;refine tB hs hN hd (u:=.pointer (some ⟨lb b,off+fd.offset,none⟩)) (fun _ _ _=>rfl) h ?_;simp [execOp,ho,hpl,nZ hu hf he,Addr.add_mid]
 | none=>
   rw [hp] at hd;dsimp only at hd;obtain ⟨h1,_⟩:=B8 hs.fr hx;split at hd
   . rename_i id off e;injection hd with hd;injection hd with q1 q2;subst q1;subst q2;rw [e] at h1;unfold RH at h1;obtain ⟨h1,h2⟩:=h1;refine B0 hs hN (u:=.pointer (some ⟨(m id).blk,off+fd.offset,none⟩)) (by unfold RH;exact ⟨rfl,h2⟩) (by simp) h ?_;simp [execOp,ho,h1,nZ hu hf he,Addr.add_mid]
   . rename_i id ver i off e;injection hd with hd;injection hd with q1 q2;subst q1;subst q2;rw [e] at h1;unfold RH at h1;obtain ⟨ad,h1,h2,h3⟩:=h1;refine B0 hs hN (u:=.pointer (some (ad.add fd.offset))) (by
      unfold RH;refine ⟨_,rfl,h2,fun fz e ek xs hH=>?_⟩;rw [h3 fz e ek xs hH,Addr.add_mid,Nat.add_assoc]) (by simp) h ?_
     simp [execOp,ho,h1,nZ hu hf he]
   . rename_i ek' y off e;injection hd with hd;injection hd with q1 q2;subst q1;subst q2;rw [e,rh_c] at h1;unfold RC at h1;obtain ⟨b,q,u,h1,h2,h3,h4,h5⟩:=h1;refine B0 hs hN (u:=.pointer (some ⟨b,q+off+fd.offset,none⟩)) (by rw [rh_c];unfold RC;exact ⟨b,q,u,by rw [Nat.add_assoc],h2,h3,h4,h5⟩) (by simp) h ?_;simp [execOp,ho,h1,nZ hu hf he,Addr.add_mid]
   . cases hd
theorem qy2 {x:Operand} {ix:Opd} (ho:o.op=.nilCheck x) (hx:c7 x=some ix) (hs:RS fb N w F H m lb fr a) (hN:∀ d,o.dst=some d->d<N)
 {fr':Fr} {H':j6} (hd:x4 (.nck ix) o.dst fr H=some (fr',H')) (h:Next fb N w F H m fr' H' K):o.wp P a w K Q:=by
 unfold x4 at hd;dsimp only at hd;cases hp:fr.place ix with
 | some p=>
   obtain ⟨b,off⟩:=p;rw [hp] at hd;obtain ⟨_,hpl⟩:=pD hs.fr hx hp;refine tB hs hN hd (u:=.pointer (some ⟨lb b,off,none⟩)) (fun _ _ _=>rfl) h ?_;simp [execOp,ho,hpl]
 | none=>
   rw [hp] at hd;dsimp only at hd;obtain ⟨h1,_⟩:=B8 hs.fr hx;split at hd
   . rename_i id off e;injection hd with hd;injection hd with q1 q2;subst q1;subst q2;rw [e] at h1;have h0:=h1;unfold RH at h1;obtain ⟨h1,h2⟩:=h1;refine B0 hs hN h0 (by simp) h ?_;simp [execOp,ho,h1]
   . rename_i id ver i off e;injection hd with hd;injection hd with q1 q2;subst q1;subst q2;rw [e] at h1;have h0:=h1;unfold RH at h1;obtain ⟨ad,h1,h2,h3⟩:=h1;refine B0 hs hN h0 (by simp) h ?_;simp [execOp,ho,h1]
   . rename_i ek' y off e;injection hd with hd;injection hd with q1 q2;subst q1;subst q2;rw [e] at h1;have h0:=h1;rw [rh_c] at h1;unfold RC at h1;obtain ⟨b,q,u,h1,h2,h3,h4,h5⟩:=h1;refine B0 hs hN h0 (by simp) h ?_;simp [execOp,ho,h1]
   . cases hd
theorem qr8 {t:TypeId} {ek:Option Nat} (he:A0 P t=some ek) {cs:List Value} {off:Nat} {u:Value} (hs:Shape ek u) (hsub:SubAt u.cells.toList cs off):(part t cs.toArray off).run P w=.ok u w:=by
 cases ek with
 | none=>
   obtain ⟨hu,_⟩:=aG he;have hc:u.cells.toList=[u]:=by cases u<;>first | rfl | cases hs
   rw [hc] at hsub;exact zb3 hu (by simpa using hsub 0 u rfl)
 | some n=>
   obtain ⟨⟨fs,hu⟩,hi,_⟩:=tM he;obtain ⟨vs,rfl,hl,_⟩:=hs;simp only [Value.cells] at hsub;have hn:P.cellsOf t=n:=by simp [Program.cellsOf,hi]
   rw [ze1 hu,hn];congr 2;congr 1;apply List.ext_getElem?;intro j;rw [List.getElem?_take];by_cases hj:j<n
   . rw [if_pos hj,List.getElem?_drop];have hj':j<vs.length:=by omega
     have:=hsub j vs[j] (gEg hj');rw [this,gEg hj']
   . rw [if_neg hj,List.getElem?_eq_none (by omega)]
theorem q82 {x:HV} {v:Value} {cs:List HV} (ha:qU x=some cs) (h:RH w F H m x v):∃ vs:List Value,v=.agg vs.toArray/\RHs w F H m cs vs/\∀ u∈vs,u.oneCell'=true:=by
 cases x with
 | agg l=>simp [qU] at ha;subst ha;unfold RH at h;exact h
 | c y=>
   cases y with
   | agg l=>
     simp [qU] at ha;subst ha;rw [rh_c] at h;unfold RC at h;obtain ⟨vs,h1,h2,h3⟩:=h;exact ⟨vs,h1,yN h2,h3⟩
   | _=>simp [qU] at ha
 | _=>simp [qU] at ha
theorem q62 {s:TypeId} {x:Operand} {f:Nat} {fs:Array Field} {fd:Field} {ek:Option Nat} {ix:Opd} (ho:o.op=.field s x f) (hu:P.underlying s=some (.struct fs)) (hf:fs[f]?=some fd) (he:A0 P fd.type=some ek)
 (hx:c7 x=some ix) (hs:RS fb N w F H m lb fr a) (hN:∀ d,o.dst=some d->d<N)
 {fr':Fr} {H':j6} (hd:x4 (.fld ek fd.offset ix) o.dst fr H=some (fr',H')) (h:Next fb N w F H m fr' H' K):o.wp P a w K Q:=by
 unfold x4 at hd;dsimp only at hd;obtain ⟨h1,_⟩:=B8 hs.fr hx;cases ha:qU (fr.opd ix) with
 | none=>rw [ha] at hd;cases hd
 | some cs=>
   rw [ha] at hd;dsimp only at hd;cases hp:G2 ek cs fd.offset with
   | none=>rw [hp] at hd;cases hd
   | some y=>
     rw [hp] at hd;injection hd with hd;injection hd with q1 q2;subst q1;subst q2;obtain ⟨vs,e,h2,h3⟩:=q82 ha h1;obtain ⟨u,h4,h5,h6,h7⟩:=tL h2 h3 hp;refine B0 hs hN h4 h7 h ?_;simp [execOp,ho,e,Instr.field,Sem.run_bind,run_underlying hu,hf,asAgg,qr8 he h5 h6]
theorem cZ {x:HV} {v:Value} {n:Int} (hg:qI x=some n) (h:RH w F H m x v):∃ k,v=.int k n:=by
 unfold qI at hg;split at hg
 . injection hg with hg;subst hg;rw [rh_c,G3] at h;exact ⟨_,h⟩
 . cases hg
theorem zb7 {t e:TypeId} {ek:Option Nat} (hu:P.underlying t=some (.slice e)) (he:A0 P e=some ek) (ad:Addr) (len cap:Nat) (k:IntKind) (i:Int) (h0:0<=i) (h1:i<len) :
 (Instr.indexAt t (.slice (some ad) len cap) (.int k i)).run P w=.ok (.pointer (some (ad.add (i.toNat * g7 ek)))) w:=by
 have hs:=run_sizeOf (w:=w) he;unfold Instr.indexAt;simp [Sem.run_bind,asIntOf,run_underlying hu,h0,h1,hs]
theorem j45 {t e:TypeId} {x i:Operand} {ek:Option Nat} {ix ii:Opd} (ho:o.op=.indexAddr t x i) (hu:P.underlying t=some (.slice e)) (he:A0 P e=some ek) (hx:c7 x=some ix) (hi:c7 i=some ii)
 (hs:RS fb N w F H m lb fr a) (hN:∀ d,o.dst=some d->d<N)
 {fr':Fr} {H':j6} (hd:x4 (.ix ek ix ii) o.dst fr H=some (fr',H')) (h:Next fb N w F H m fr' H' K):o.wp P a w K Q:=by
 unfold x4 at hd;dsimp only at hd;obtain ⟨h1,_⟩:=B8 hs.fr hx;obtain ⟨h2,_⟩:=B8 hs.fr hi;cases hg:qI (fr.opd ii) with
 | none=>rw [hg] at hd;cases hd
 | some n=>
   rw [hg] at hd;dsimp only at hd;obtain ⟨k,h2⟩:=cZ hg h2;generalize fr.opd ix=vx at hd h1;cases vx with
   | c v=>
     cases v with
     | frz ek' xs=>
       simp only [ixH] at hd;by_cases hc:ek'=ek/\0<=n
       . rw [if_pos hc] at hd;obtain ⟨rfl,h0⟩:=hc;cases hv:xs[n.toNat]? with
         | none=>rw [hv] at hd;cases hd
         | some v=>
           rw [hv] at hd;injection hd with hd;injection hd with q1 q2;subst q1;subst q2;rw [rh_c] at h1;unfold RC at h1;obtain ⟨ad,cap,h1,_,hne⟩:=h1;have hlt:=(gEs hv).1;obtain ⟨b,off,vs,rfl,hF,hr,hrow⟩:=hne (by intro e;subst e;simp at hlt);obtain ⟨u,h3,h4,h5⟩:=sC hrow hv;refine B0 hs hN (u:=.pointer (some ⟨b,off+n.toNat * g7 ek',none⟩)) (by
            rw [rh_c];unfold RC;exact ⟨b,off+n.toNat * g7 ek',u,by simp,hF,h4,h5.range hr,h3⟩) (by simp) h ?_
           simp [execOp,ho,h1,h2,zb7 hu he ⟨b,off,none⟩ xs.length cap k n h0 (by omega),Addr.add_mid]
       . rw [if_neg hc] at hd;cases hd
     | _=>simp [ixH] at hd
   | sl id ver off len=>
     simp only [ixH] at hd;split at hd
     . rename_i fr'' hix;split at hix
       . rename_i fz e' ek' ver' xs hH;split at hix
         . rename_i hc;obtain ⟨rfl,rfl,h0,hlt⟩:=hc;injection hix with hix;subst hix;injection hd with hd;injection hd with q1 q2;subst q1;subst q2;unfold RH at h1;obtain ⟨ad,cap,h1,h3,h4⟩:=h1;obtain ⟨h5,h6,h7,h8⟩:=h4 _ _ _ _ hH;have had:=h8 (.inl (by omega));refine B0 hs hN (u:=.pointer (some (ad.add (n.toNat * g7 ek')))) (by
            unfold RH;refine ⟨_,rfl,h3,fun fz2 e2 ek2 xs2 hH2=>?_⟩;rw [hH] at hH2;injection hH2 with hH2;injection hH2 with z1 z2 z3 z4 z5;subst z3;rw [had,Addr.add_mid,Nat.add_zero,Nat.add_mul]) (by simp) h ?_
           simp [execOp,ho,h1,h2,zb7 hu he ad len cap k n h0 hlt]
         . cases hix
       . cases hix
     . cases hd
   | _=>simp [ixH] at hd
theorem qh4 {t:TypeId} {x i:Operand} {ix ii:Opd} (ho:o.op=.index t x i) (hu:P.underlying t=some .string) (hx:c7 x=some ix) (hi:c7 i=some ii)
 (hs:RS fb N w F H m lb fr a) (hN:∀ d,o.dst=some d->d<N)
 {fr':Fr} {H':j6} (hd:x4 (.six ix ii) o.dst fr H=some (fr',H')) (h:Next fb N w F H m fr' H' K):o.wp P a w K Q:=by
 unfold x4 at hd;dsimp only at hd;obtain ⟨h1,_⟩:=B8 hs.fr hx;obtain ⟨h2,_⟩:=B8 hs.fr hi;split at hd
 . rename_i s n e1 e2;obtain ⟨k,h2⟩:=cZ e2 h2;rw [e1,rh_c,I1] at h1;split at hd
   . rename_i h0;cases hv:s[n.toNat]? with
     | none=>rw [hv] at hd;cases hd
     | some c=>
       rw [hv] at hd;injection hd with hd;injection hd with q1 q2;subst q1;subst q2;have hlt:=(gEs hv).1;have hget:(⟨s.toArray⟩:ByteArray)[n.toNat]?=some c:=by
        have hsz:n.toNat<(⟨s.toArray⟩:ByteArray).size:=by simpa [ByteArray.size] using hlt
        rw [getElem?_pos (⟨s.toArray⟩:ByteArray) n.toNat hsz];have:=(gEs hv).2;simp [ByteArray.getElem_eq_getElem_data,this]
       refine B0 hs hN (u:=.int .u8 c.toNat) (by rw [rh_c,G3]) (by simp) h ?_;simp [execOp,ho,h1,h2,Instr.index,Sem.run_bind,asIntOf,run_underlying hu,h0,hget]
   . cases hd
 . cases hd
theorem zh6 {t ty:TypeId} {st:Bool} {x:Operand} {ix:Opd} (ho:o.op=.call { callee:=.builtin .len,args:=#[x],argTypes:=#[t] }) (hu:(st=true/\P.underlying t=some .string)\/(st=false/\∃ e,P.underlying t=some (.slice e))) (hx:c7 x=some ix)
 (hs:RS fb N w F H m lb fr a) (hN:∀ d,o.dst=some d->d<N)
 {fr':Fr} {H':j6} (hd:x4 (.len st ix) o.dst fr H=some (fr',H')) (h:Next fb N w F H m fr' H' K):o.wp P a w K Q:=by
 unfold x4 at hd;dsimp only at hd;obtain ⟨h1,_⟩:=B8 hs.fr hx;cases hl:gP st (fr.opd ix) with
 | none=>rw [hl] at hd;cases hd
 | some n=>
   rw [hl] at hd;injection hd with hd;injection hd with q1 q2;subst q1;subst q2;refine B0 hs hN (u:=.int .i64 n) (by rw [rh_c,G3]) (by simp) h ?_;have key:(Builtin.len_ #[t] o.type #[a.eval x]).run P w=.ok (.int .i64 n) w:=by
    generalize fr.opd ix=vx at hl h1;unfold gP at hl;split at hl
    . rename_i s;rw [rh_c,I1] at h1;split at hl
      . injection hl with hl;subst hl;rcases hu with ⟨_,hu⟩ | ⟨hst,_⟩
        . have hz:(⟨s.toArray⟩:ByteArray).size=s.length:=by simp [ByteArray.size]
          rw [h1,<-hz];exact run_len_string (P:=P) w t o.type ⟨s.toArray⟩ hu
        . subst hst;simp_all
      . cases hl
    . rename_i ek xs;rw [rh_c] at h1;unfold RC at h1;obtain ⟨ad,cap,h1,_⟩:=h1;split at hl
      . cases hl
      . injection hl with hl;subst hl;rcases hu with ⟨hst,_⟩ | ⟨_,e,hu⟩
        . subst hst;simp_all
        . rw [h1];simp [Builtin.len_,Sem.run_bind,run_underlying hu,goInt]
    . unfold RH at h1;split at hl
      . cases hl
      . injection hl with hl;subst hl;rcases hu with ⟨hst,_⟩ | ⟨_,e,hu⟩
        . subst hst;simp_all
        . rw [h1];simp [Builtin.len_,Sem.run_bind,run_underlying hu,goInt]
    . unfold RH at h1;obtain ⟨ad,cap,h1,_⟩:=h1;split at hl
      . cases hl
      . injection hl with hl;subst hl;rcases hu with ⟨hst,_⟩ | ⟨_,e,hu⟩
        . subst hst;simp_all
        . rw [h1];simp [Builtin.len_,Sem.run_bind,run_underlying hu,goInt]
    . cases hl
   simp [execOp,ho,resolve,invoke,builtin,Sem.run_bind,key]
theorem j74 {x:Operand} {i:Nat} {ix:Opd} (ho:o.op=.extract x i) (hx:c7 x=some ix) (hs:RS fb N w F H m lb fr a) (hN:∀ d,o.dst=some d->d<N)
 {fr':Fr} {H':j6} (hd:x4 (.ext ix i) o.dst fr H=some (fr',H')) (h:Next fb N w F H m fr' H' K):o.wp P a w K Q:=by
 unfold x4 at hd;dsimp only at hd;obtain ⟨h1,_⟩:=B8 hs.fr hx;split at hd
 . rename_i vs e;rw [e] at h1;unfold RH at h1;obtain ⟨us,h1,h2⟩:=h1;cases hv:vs[i]? with
   | none=>rw [hv] at hd;cases hd
   | some v=>
     rw [hv] at hd;injection hd with hd;injection hd with q1 q2;subst q1;subst q2;obtain ⟨u,h3,h4⟩:=pE h2 hv;refine B0 hs hN h4 (by intro ek y hh;subst hh;unfold RH at h4;exact h4) h ?_;simp [execOp,ho,h1,Instr.extract,h3]
 . cases hd
theorem qb4 {s d:TypeId} {k' k:IntKind} {x:Operand} {ix:Opd} (ho:o.op=.convert s d x) (h1':P.underlying s=some (.int k')) (h2':P.underlying d=some (.int k)) (hx:c7 x=some ix) (hs:RS fb N w F H m lb fr a) (hN:∀ d,o.dst=some d->d<N)
 {fr':Fr} {H':j6} (hd:x4 (.cvt k ix) o.dst fr H=some (fr',H')) (h:Next fb N w F H m fr' H' K):o.wp P a w K Q:=by
 unfold x4 at hd;dsimp only at hd;obtain ⟨h1,_⟩:=B8 hs.fr hx;split at hd
 . rename_i kk n e;rw [e,rh_c,G3] at h1;injection hd with hd;injection hd with q1 q2;subst q1;subst q2;refine B0 hs hN (u:=.int k (k.wrap n)) (by rw [rh_c,G3]) (by simp) h ?_;simp [execOp,ho,h1,convert,Sem.run_bind,run_underlying h1',run_underlying h2',Conv.intToInt]
 . cases hd
theorem wB {op:BinOp} {xt yt:TypeId} {x y:Operand} {ix:Opd} {k:Nat} {d:TypeDesc} (ho:o.op=.binOp op xt x y yt) (hop:op=.eql\/op=.neq) (ht:P.underlying xt=some d) (hk:(k=0/\∃ e,d=.pointer e)\/(k=1/\∃ e,d=.interface e)\/(k=2/\∃ e f g,d=.func e f g)\/(k=3/\∃ e,d=.slice e))
 (hn:isNil k y=true) (hx:c7 x=some ix) (hs:RS fb N w F H m lb fr a) (hN:∀ d,o.dst=some d->d<N)
 {fr':Fr} {H':j6} (hd:x4 (.isn (op matches .neq) k ix) o.dst fr H=some (fr',H')) (h:Next fb N w F H m fr' H' K):o.wp P a w K Q:=by
 obtain ⟨h1,_⟩:=B8 hs.fr hx;unfold x4 at hd;dsimp only at hd;cases hb:zX k (fr.opd ix) with
 | none=>rw [hb] at hd;cases hd
 | some b=>
   rw [hb] at hd;injection hd with hd;injection hd with q1 q2;subst q1;subst q2;obtain ⟨u,hu,hy⟩:∃ u,y=.const u/\((k=0/\u=.pointer none)\/(k=1/\u=.nilIface)\/(k=2/\u=.nilFunc)\/(k=3/\∃ n c,u=.slice none n c)):=by
    unfold isNil at hn;split at hn<;>simp only [beq_iff_eq,Bool.false_eq_true] at hn<;>exact ⟨_,rfl,by simp [hn]⟩
   subst hu;have key:(∀ dd,(Op.equalIn (dd+1) xt (a.eval x) u).run P w=.ok b w)/\(eqGuard op xt x (.const u) (a.eval x) u).run P w=.ok () w:=by
    generalize a.eval x=v at h1;generalize fr.opd ix=hv at h1 hb;unfold zX at hb;split at hb
    . rename_i c;rw [rh_c] at h1;unfold qT at hb;split at hb<;>first
       | (cases hb;done)
       | (split at hb<;>first
           | (cases hb;done)
           | (rename_i hkk
              subst hkk;injection hb with hb;subst hb;rcases hk with ⟨e0,hk⟩ | ⟨e0,hk⟩ | ⟨e0,hk⟩ | ⟨e0,hk⟩<;>try (exact absurd e0 (by decide))
              rcases hy with ⟨e1,hy⟩ | ⟨e1,hy⟩ | ⟨e1,hy⟩ | ⟨e1,hy⟩<;>try (exact absurd e1 (by decide))
              obtain ⟨e,rfl⟩:=hk;subst hy;unfold RC at h1;constructor
              . first|(subst h1;intro dd;simp [Op.equalIn,run_underlying ht];done)|(obtain ⟨_,_,_,rfl,_⟩:=h1;intro dd;simp [Op.equalIn,run_underlying ht];done)|(obtain ⟨_,rfl,_⟩:=h1;intro dd;simp [Op.equalIn,run_underlying ht];done)
              . first
                 | (subst h1;unfold eqGuard;cases op<;>simp;done)
                 | (obtain ⟨_,_,_,rfl,_⟩:=h1;unfold eqGuard;cases op<;>simp;done)
                 | (obtain ⟨_,rfl,_⟩:=h1;unfold eqGuard;cases op<;>simp;done))
           | (rename_i hkk
              subst hkk;injection hb with hb;subst hb;rcases hk with ⟨e0,hk⟩ | ⟨e0,hk⟩ | ⟨e0,hk⟩ | ⟨e0,hk⟩<;>try (exact absurd e0 (by decide))
              rcases hy with ⟨e1,hy⟩ | ⟨e1,hy⟩ | ⟨e1,hy⟩ | ⟨e1,hy⟩<;>try (exact absurd e1 (by decide))
              obtain ⟨e,f,g,rfl⟩:=hk;subst hy;unfold RC at h1;constructor
              . first|(subst h1;intro dd;simp [Op.equalIn,run_underlying ht];done)|(obtain ⟨_,_,rfl,_⟩:=h1;intro dd;simp [Op.equalIn,run_underlying ht];done)
              . first
                 | (subst h1;unfold eqGuard;cases op<;>simp;done)
                 | (obtain ⟨_,_,rfl,_⟩:=h1;unfold eqGuard;cases op<;>simp;done))
           | (rename_i hkk
              subst hkk;injection hb with hb;subst hb;rcases hk with ⟨e0,hk⟩ | ⟨e0,hk⟩ | ⟨e0,hk⟩ | ⟨e0,hk⟩<;>try (exact absurd e0 (by decide))
              rcases hy with ⟨e1,hy⟩ | ⟨e1,hy⟩ | ⟨e1,hy⟩ | ⟨e1,hy⟩<;>try (exact absurd e1 (by decide))
              obtain ⟨e,rfl⟩:=hk;obtain ⟨n,c,rfl⟩:=hy;unfold RC at h1;obtain ⟨ad,cap,rfl,_,h2⟩:=h1;obtain ⟨_,_,_,rfl,_⟩:=h2 (by simp);constructor
              . intro dd;simp [Op.equalIn,run_underlying ht]
              . unfold eqGuard;cases op<;>simp))
    all_goals first
     | (cases hb;done)
     | (split at hb<;>first
         | (cases hb;done)
         | (rename_i hkk
            subst hkk;injection hb with hb;subst hb;rcases hk with ⟨e0,hk⟩ | ⟨e0,hk⟩ | ⟨e0,hk⟩ | ⟨e0,hk⟩<;>try (exact absurd e0 (by decide))
            rcases hy with ⟨e1,hy⟩ | ⟨e1,hy⟩ | ⟨e1,hy⟩ | ⟨e1,hy⟩<;>try (exact absurd e1 (by decide))
            unfold RH at h1;first
             | (obtain ⟨e,rfl⟩:=hk
                subst hy;obtain ⟨rfl,_⟩:=h1;exact ⟨fun dd=>by simp [Op.equalIn,run_underlying ht],by unfold eqGuard;cases op<;>simp⟩)
             | (obtain ⟨e,rfl⟩:=hk
                subst hy;obtain ⟨_,rfl,_⟩:=h1;exact ⟨fun dd=>by simp [Op.equalIn,run_underlying ht],by unfold eqGuard;cases op<;>simp⟩)
             | (obtain ⟨e,f,g,rfl⟩:=hk
                subst hy;obtain ⟨_,_,rfl,_⟩:=h1;exact ⟨fun dd=>by simp [Op.equalIn,run_underlying ht],by unfold eqGuard;cases op<;>simp⟩)
             | (obtain ⟨e,rfl⟩:=hk
                obtain ⟨n,c,rfl⟩:=hy;subst h1;exact ⟨fun dd=>by simp [Op.equalIn,run_underlying ht],by unfold eqGuard;cases op<;>simp⟩)
             | (obtain ⟨e,rfl⟩:=hk
                obtain ⟨n,c,rfl⟩:=hy;obtain ⟨_,_,rfl,_⟩:=h1;exact ⟨fun dd=>by simp [Op.equalIn,run_underlying ht],by unfold eqGuard;cases op<;>simp⟩)))
   obtain ⟨k1,k2⟩:=key;have k1:=k1 9999;have hnot:∀ v,(binOp .eql xt v u).run P w=(Op.equal xt v u >>= fun r=>pure (.bool r):Sem Value).run P w/\(binOp .neq xt v u).run P w=(Op.equal xt v u >>= fun r=>pure (.bool (!r)):Sem Value).run P w:=by
    intro v;rcases hy with ⟨_,rfl⟩ | ⟨_,rfl⟩ | ⟨_,rfl⟩ | ⟨_,n,c,rfl⟩<;>cases v<;>exact ⟨rfl,rfl⟩
   have hyu:a.eval (.const u)=u:=rfl;rcases hop with rfl | rfl
   . refine B0 hs hN (u:=.bool b) (by rw [rh_c,rc_bool];rfl) (Q4 _) h ?_;simp [execOp,ho,hyu,k2,(hnot _).1,Op.equal,Op.maxDepth,k1]
   . refine B0 hs hN (u:=.bool (!b)) (by rw [rh_c,rc_bool];rfl) (Q4 _) h ?_;simp [execOp,ho,hyu,k2,(hnot _).2,Op.equal,Op.maxDepth,k1]
theorem qt0 {s d:TypeId} {x:Operand} {ix:Opd} (ho:o.op=.convert s d x) (h1':P.underlying s=some .string) (h2':P.underlying d=some .string) (hx:c7 x=some ix) (hs:RS fb N w F H m lb fr a) (hN:∀ d,o.dst=some d->d<N)
 {fr':Fr} {H':j6} (hd:x4 (.cvs ix) o.dst fr H=some (fr',H')) (h:Next fb N w F H m fr' H' K):o.wp P a w K Q:=by
 unfold x4 at hd;dsimp only at hd;obtain ⟨h1,_⟩:=B8 hs.fr hx;split at hd
 . rename_i n e;rw [e,rh_c,I1] at h1;injection hd with hd;injection hd with q1 q2;subst q1;subst q2;refine B0 hs hN (u:=.string ⟨n.toArray⟩) (by rw [rh_c,I1]) (by simp) h ?_;simp [execOp,ho,h1,convert,Sem.run_bind,run_underlying h1',run_underlying h2']
 . cases hd
theorem zb1 {isMax:Bool} {ts:Array TypeId} {x y:Operand} {ix iy:Opd} (ho:o.op=.call { callee:=.builtin (if isMax then .max else .min),args:=#[x,y],argTypes:=ts }) (hx:c7 x=some ix) (hy:c7 y=some iy) (hs:RS fb N w F H m lb fr a) (hN:∀ d,o.dst=some d->d<N)
 {fr':Fr} {H':j6} (hd:x4 (.mx isMax ix iy) o.dst fr H=some (fr',H')) (h:Next fb N w F H m fr' H' K):o.wp P a w K Q:=by
 unfold x4 at hd;dsimp only at hd;obtain ⟨h1,_⟩:=B8 hs.fr hx;obtain ⟨h2,_⟩:=B8 hs.fr hy;split at hd
 . rename_i k p k' q e1 e2;rw [e1,rh_c,G3] at h1;rw [e2,rh_c,G3] at h2;injection hd with hd;injection hd with q1 q2;subst q1;subst q2;refine B0 hs hN (u:=.int k (if isMax then max p q else min p q)) (by rw [rh_c,G3]) (by simp) h ?_;cases isMax with
   | true=>
     have:(if q > p then q else p)=max p q:=by split<;>omega
     simp [execOp,ho,h1,h2,resolve,invoke,builtin,Sem.run_bind,Builtin.max_,Builtin.max2,this]
   | false=>
     have:(if q<p then q else p)=min p q:=by split<;>omega
     simp [execOp,ho,h1,h2,resolve,invoke,builtin,Sem.run_bind,Builtin.min_,Builtin.min2,this]
 . cases hd
theorem j93 {f:FuncId} {first cap:Array Operand} {i1 i2:List Opd} (ho:o.op=.makeFunc (.func f) first cap) (h1':X1 first.toList=some i1) (h2':X1 cap.toList=some i2) (hs:RS fb N w F H m lb fr a) (hN:∀ d,o.dst=some d->d<N)
 {fr':Fr} {H':j6} (hd:x4 (.mkf f i1 i2) o.dst fr H=some (fr',H')) (h:Next fb N w F H m fr' H' K):o.wp P a w K Q:=by
 unfold x4 at hd;dsimp only at hd;have h1:=bJ hs.fr h1';have h2:=bJ hs.fr h2';injection hd with hd;injection hd with q1 q2;subst q1;subst q2;have hrun:(execOp a.eval o).run P w=.ok (.value (.func (.func f) ((first.toList.map a.eval).toArray) ((cap.toList.map a.eval).toArray))) w:=by
  have e:∀ l:Array Operand,l.map a.eval=(l.toList.map a.eval).toArray:=by intro l;apply Array.ext';simp
  simp [execOp,ho,Instr.makeFunc,e]
 split at h
 . rename_i l1 l2 e1 e2;refine B0 hs hN ?_ (by simp) h hrun;rw [rh_c];unfold RC;exact ⟨_,_,rfl,tX e1 h1,tX e2 h2⟩
 . refine B0 hs hN ?_ (by simp) h hrun;unfold RH;exact ⟨_,_,rfl,h1,h2⟩
end
end Go.Proofs.Lz
