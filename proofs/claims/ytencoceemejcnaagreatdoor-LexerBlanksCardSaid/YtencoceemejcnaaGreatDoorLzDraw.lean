/- Drawn regions: two operations that keep to classes which do not meet may change places. Nothing of the model is in sight here. -/
import Derived.Test.YtencoceemejcnaaGreatDoorLzCall2
import Derived.Test.YtencoceemejcnaaGreatDoorLzOm
set_option linter.unusedVariables false
set_option linter.unusedSimpArgs false
set_option linter.unusedSectionVars false
namespace Go.Proofs.Lz
variable [GlobTab]
section
variable {P:Program} {fb N:Nat} {w:World} {F:Nat→Prop} {H:Heap} {m:LMap} {lb:Nat→Nat} {fr:Fr} {a:Act} {o:Oper}
variable {K:Act→World→Prop} {Q:Exit→Act→World→Prop}
theorem wm9 {t:TypeId} {v:Value}:(Instr.box t v).run P w=.ok (.pointer (some ⟨w.heap.size,0,none⟩)) (w.alloc (.cells v.cells t (0,0))):=by
 simp [Instr.box,newVar,newRow]
theorem w06 {t:TypeId} {z:Value} (hz:zeroOf P t=some z):(Instr.alloc t true (.tuple #[])).run P w=.ok (.pointer (some ⟨w.heap.size,0,none⟩)) (w.alloc (.cells z.cells t (0,0))):=by
 unfold zeroOf at hz
 cases hi:P.info? t with
 | none=>simp [hi] at hz
 | some i=>
   simp [hi] at hz
   simp [Instr.alloc,zeroValue,typeInfo,hi,hz,newVar,newRow]
theorem wz2 {x:HV} {v:Value} (hx:hvOf v=some x):RH w F H m (fr.opd (.k x)) v:=(jw8 hx).1
theorem j01:∀ {l:List Value} {cs:List CV},qd8 l=some cs→cs.length=l.length:=by
 intro l
 induction l with
 | nil=>intro cs h;simp [qd8] at h;subst h;rfl
 | cons v l ih=>
   intro cs h
   unfold qd8 at h
   cases h1:cvOf v with
   | none=>rw [h1] at h;cases h
   | some c=>
     cases h2:qd8 l with
     | none=>rw [h1,h2] at h;cases h
     | some cs'=>rw [h1,h2] at h;injection h with h;subst h;simp [ih h2]
theorem we8 {E:Env} {call:za3} (hok:zu8 P call) {all:List Oper} {lvl:Nat} {io:IOp} (hc:ja0 P all lvl o=some io) (hs:RS fb N w F H m lb fr a) (hN:∀ d,o.dst=some d→d<N)
 {fr':Fr} {H':Heap} (hd:doOp E call io o.dst fr H=some (fr',H')) (h:Next fb N w F H m fr' H' K):o.wp P a w K Q:=by
 unfold ja0 at hc
 split at hc
 · rename_i x ho
   simp only [Option.map_eq_some_iff] at hc
   obtain ⟨ix,hx,rfl⟩:=hc
   exact wf2 (.inl ho) hx hs hN hd h
 · rename_i x ho
   simp only [Option.map_eq_some_iff] at hc
   obtain ⟨ix,hx,rfl⟩:=hc
   exact wf2 (.inr ho) hx hs hN hd h
 · rename_i c x y ho
   split at hc
   · rename_i ic ix iy h1 h2 h3
     injection hc with hc;subst hc
     exact wc4 ho h1 h2 h3 hs hN hd h
   · cases hc
 · rename_i e ho
   split at hc
   · rename_i z ek h1 h2
     cases hz:zeroOf P e with
     | none=>rw [hz] at h1;cases h1
     | some zv=>
       rw [hz] at h1
       simp only [Option.bind_some] at h1
       have hrun:(execOp a.eval o).run P w=.ok (.value (.pointer (some ⟨w.heap.size,0,none⟩))) (w.alloc (.cells zv.cells e (0,0))):=by
        simp only [execOp,ho,Sem.run_bind,w06 hz,Result.andThen_ok,Sem.run_pure]
       split at hc
       · injection hc with hc;subst hc;exact ja1 hrun (wz2 h1) hs hN hd h
       · simp only [Option.map_eq_some_iff] at hc
         obtain ⟨k,hk,rfl⟩:=hc
         exact jd8 hrun (wz2 h1) (je1 hk) hs hN hd h
   · cases hc
 · rename_i e x ho
   split at hc
   · rename_i ix ek h1 h2
     have hrun:(execOp a.eval o).run P w=.ok (.value (.pointer (some ⟨w.heap.size,0,none⟩))) (w.alloc (.cells (a.eval x).cells e (0,0))):=by
      simp only [execOp,ho,Sem.run_bind,wm9,Result.andThen_ok,Sem.run_pure]
     split at hc
     · injection hc with hc;subst hc;exact w42 hrun (z78 hs.fr h1).1 hs hN hd h
     split at hc
     · injection hc with hc;subst hc;exact ja1 hrun (z78 hs.fr h1).1 hs hN hd h
     · simp only [Option.map_eq_some_iff] at hc
       obtain ⟨k,hk,rfl⟩:=hc
       exact jd8 hrun (z78 hs.fr h1).1 (je1 hk) hs hN hd h
   · cases hc
 · rename_i t parts ho
   split at hc
   · rename_i fs z h1 h2
     split at hc
     · rename_i pl h3
       simp only [Option.map_eq_some_iff] at hc
       obtain ⟨ips,h4,rfl⟩:=hc
       exact jz1 ho h1 h2 h3 h4 hs hN hd h
     · cases hc
   · cases hc
 · rename_i t len parts ho
   split at hc
   · rename_i e h1
     split at hc
     · rename_i ek z ps h2 h3 h4
       split at hc
       · rename_i hlim
         injection hc with hc;subst hc
         cases hi:P.info? e with
         | none=>simp [zeroOf,hi] at h3
         | some i=>
           cases hz:i.zero with
           | none=>simp [zeroOf,hi,hz] at h3
           | some zv=>
             simp only [zeroOf,hi,hz,Option.bind_some] at h3
             exact wm5 ho h1 h2 hi hz (by have:=j01 h3;rw [hlim.2] at this;simpa using this.symm) h3 h4 hlim.1 hs hN hd h
       · cases hc
     · cases hc
   · cases hc
 · rename_i t x ho
   split at hc
   · rename_i ek ix h1 h2
     injection hc with hc;subst hc
     exact w79 ho h1 h2 hs hN hd h
   · cases hc
 · rename_i t x y ho
   split at hc
   · rename_i ek ix iy h0 h1 h2 h3
     injection hc with hc;subst hc
     exact jn9 ho h0 h1 h2 h3 hs hd h
   · cases hc
 · rename_i x ho
   simp only [Option.map_eq_some_iff] at hc
   obtain ⟨ix,hx,rfl⟩:=hc
   exact wh6 ho hx hs hN hd h
 · rename_i op xt x y yt ho
   split at hc
   · rename_i ix iy h1 h2
     split at hc
     · split at hc
       · rename_i hu
         injection hc with hc;subst hc
         exact w22 ho (.inl rfl) hu h1 h2 hs hN hd h
       · injection hc with hc;subst hc
         exact qf3 ho h1 h2 hs hN hd h
       · injection hc with hc;subst hc
         exact qf3 ho h1 h2 hs hN hd h
       · rename_i fs hu
         split at hc
         · cases hc
         · rename_i hg
           simp only [Option.map_eq_some_iff] at hc
           obtain ⟨ks,hk,rfl⟩:=hc
           exact jt2 ho (.inl rfl) hu (by simpa using hg) hk h1 h2 hs hN hd h
       · rename_i hu
         split at hc
         · rename_i hn
           injection hc with hc;subst hc
           exact zv8 ho (.inl rfl) hu (.inl ⟨rfl,_,rfl⟩) hn h1 hs hN hd h
         · cases hc
       · rename_i hu
         split at hc
         · rename_i hn
           injection hc with hc;subst hc
           exact zv8 ho (.inl rfl) hu (.inr (.inl ⟨rfl,_,rfl⟩)) hn h1 hs hN hd h
         · cases hc
       · rename_i hu
         split at hc
         · rename_i hn
           injection hc with hc;subst hc
           exact zv8 ho (.inl rfl) hu (.inr (.inr (.inl ⟨rfl,_,_,_,rfl⟩))) hn h1 hs hN hd h
         · cases hc
       · rename_i hu
         split at hc
         · rename_i hn
           injection hc with hc;subst hc
           exact zv8 ho (.inl rfl) hu (.inr (.inr (.inr ⟨rfl,_,rfl⟩))) hn h1 hs hN hd h
         · cases hc
       · cases hc
     · split at hc
       · rename_i hu
         injection hc with hc;subst hc
         exact w22 ho (.inr rfl) hu h1 h2 hs hN hd h
       · injection hc with hc;subst hc
         exact qf3 ho h1 h2 hs hN hd h
       · injection hc with hc;subst hc
         exact qf3 ho h1 h2 hs hN hd h
       · rename_i fs hu
         split at hc
         · cases hc
         · rename_i hg
           simp only [Option.map_eq_some_iff] at hc
           obtain ⟨ks,hk,rfl⟩:=hc
           exact jt2 ho (.inr rfl) hu (by simpa using hg) hk h1 h2 hs hN hd h
       · rename_i hu
         split at hc
         · rename_i hn
           injection hc with hc;subst hc
           exact zv8 ho (.inr rfl) hu (.inl ⟨rfl,_,rfl⟩) hn h1 hs hN hd h
         · cases hc
       · rename_i hu
         split at hc
         · rename_i hn
           injection hc with hc;subst hc
           exact zv8 ho (.inr rfl) hu (.inr (.inl ⟨rfl,_,rfl⟩)) hn h1 hs hN hd h
         · cases hc
       · rename_i hu
         split at hc
         · rename_i hn
           injection hc with hc;subst hc
           exact zv8 ho (.inr rfl) hu (.inr (.inr (.inl ⟨rfl,_,_,_,rfl⟩))) hn h1 hs hN hd h
         · cases hc
       · rename_i hu
         split at hc
         · rename_i hn
           injection hc with hc;subst hc
           exact zv8 ho (.inr rfl) hu (.inr (.inr (.inr ⟨rfl,_,rfl⟩))) hn h1 hs hN hd h
         · cases hc
       · cases hc
     · injection hc with hc;subst hc
       exact qf3 ho h1 h2 hs hN hd h
   · cases hc
 · rename_i op xt x ho
   simp only [Option.map_eq_some_iff] at hc
   obtain ⟨ix,hx,rfl⟩:=hc
   exact wu6 ho hx hs hN hd h
 · rename_i s d x ho
   split at hc
   · rename_i k1 k h1 h2
     simp only [Option.map_eq_some_iff] at hc
     obtain ⟨ix,hx,rfl⟩:=hc
     exact wi0 ho h1 h2 hx hs hN hd h
   · rename_i h1 h2
     simp only [Option.map_eq_some_iff] at hc
     obtain ⟨ix,hx,rfl⟩:=hc
     exact wm4 ho h1 h2 hx hs hN hd h
   · rename_i e h1 h2
     split at hc
     · rename_i he
       simp only [Option.map_eq_some_iff] at hc
       obtain ⟨ix,hx,rfl⟩:=hc
       exact wt9 ho h1 h2 he hx hs hN hd h
     · cases hc
   · cases hc
 · rename_i f first cap ho
   split at hc
   · rename_i i1 i2 h1 h2
     injection hc with hc;subst hc
     exact wo5 ho h1 h2 hs hN hd h
   · cases hc
 · rename_i t x lo hi ho
   split at hc
   · rename_i ix il ih h1 h2 h3 h4
     injection hc with hc;subst hc
     exact jz4 ho (.inl ⟨rfl,h1⟩) h2 h3 h4 hs hN hd h
   · rename_i e ix il ih h1 h2 h3 h4
     simp only [Option.map_eq_some_iff] at hc
     obtain ⟨ek,he,rfl⟩:=hc
     exact jz4 ho (.inr ⟨rfl,e,h1,he⟩) h2 h3 h4 hs hN hd h
   · cases hc
 · rename_i s x f ho
   split at hc
   · rename_i fs h1
     split at hc
     · rename_i fd h2
       split at hc
       · rename_i ek ix h3 h4
         injection hc with hc;subst hc
         exact w29 ho h1 h2 h3 h4 hs hN hd h
       · cases hc
     · cases hc
   · cases hc
 · rename_i s x f ho
   split at hc
   · rename_i fs h1
     split at hc
     · rename_i fd h2
       split at hc
       · rename_i ek ix h3 h4
         injection hc with hc;subst hc
         exact ws4 ho h1 h2 h3 h4 hs hN hd h
       · cases hc
     · cases hc
   · cases hc
 · rename_i t x i ho
   split at hc
   · rename_i e h1
     split at hc
     · rename_i ek ix ii h2 h3 h4
       injection hc with hc;subst hc
       exact v25 ho h1 h2 h3 h4 hs hN hd h
     · cases hc
   · cases hc
 · rename_i t x i ho
   split at hc
   · rename_i ix ii h1 h2 h3
     injection hc with hc;subst hc
     exact wi5 ho h1 h2 h3 hs hN hd h
   · cases hc
 · rename_i x i ho
   simp only [Option.map_eq_some_iff] at hc
   obtain ⟨ix,hx,rfl⟩:=hc
   exact wu1 ho hx hs hN hd h
 · rename_i b args ts ho
   have harr:∀ {l:List Operand},args.toList=l→args=l.toArray:=fun e=>by rw [← e]
   have harr2:∀ {l:List TypeId},ts.toList=l→ts=l.toArray:=fun e=>by rw [← e]
   split at hc
   · rename_i x t e1 e2
     rw [harr e1,harr2 e2] at ho
     split at hc
     · rename_i ix h1 h2
       injection hc with hc;subst hc
       exact w27 (ty:=o.type) ho (.inl ⟨rfl,h1⟩) h2 hs hN hd h
     · rename_i e ix h1 h2
       injection hc with hc;subst hc
       exact w27 (ty:=o.type) ho (.inr ⟨rfl,e,h1⟩) h2 hs hN hd h
     · cases hc
   · rename_i s x t u e1 e2
     rw [harr e1,harr2 e2] at ho
     split at hc
     · rename_i e e' is ix h1 h2 h3 h4
       split at hc
       · rename_i htu
         subst htu
         split at hc
         · rename_i ek n z h5 h6 h7
           split at hc
           · rename_i hz
             injection hc with hc;subst hc
             cases hi:P.info? e with
             | none=>simp [zeroOf,hi] at h7
             | some i=>
               simp [zeroOf,hi] at h7
               simp [qa4,hi] at h6
               subst h6
               exact jt0 ho h1 (.inl ⟨_,h1⟩) h5 hi h7 hz h3 h4 hs hN hd h
           · cases hc
         · cases hc
       · cases hc
     · rename_i e is ix h1 h2 h3 h4
       split at hc
       · rename_i ek n z h5 h6 h7
         split at hc
         · rename_i hz
           injection hc with hc;subst hc
           cases hi:P.info? e with
           | none=>simp [zeroOf,hi] at h7
           | some i=>
             simp [zeroOf,hi] at h7
             simp [qa4,hi] at h6
             subst h6
             exact jt0 ho h1 (.inr h2) h5 hi h7 hz h3 h4 hs hN hd h
         · cases hc
       · cases hc
     · cases hc
   · rename_i x y e1
     rw [harr e1] at ho
     split at hc
     · rename_i ix iy h1 h2
       injection hc with hc;subst hc
       exact we4 (isMax:=true) ho h1 h2 hs hN hd h
     · cases hc
   · rename_i x y e1
     rw [harr e1] at ho
     split at hc
     · rename_i ix iy h1 h2
       injection hc with hc;subst hc
       exact we4 (isMax:=false) ho h1 h2 hs hN hd h
     · cases hc
   · cases hc
 · rename_i f args ts ho
   simp only [Option.map_eq_some_iff] at hc
   obtain ⟨ias,hx,rfl⟩:=hc
   exact wc9 hok ho hx hs hN hd h
 · rename_i t args ts ho
   simp only [Option.map_eq_some_iff] at hc
   obtain ⟨ias,hx,rfl⟩:=hc
   exact jw3 hok ho hx hs hN hd h
 · cases hc
end
end Go.Proofs.Lz
namespace Go.Proofs.Lz
def isB:HV→Bool
 | .lbox _ _=>true
 | _=>false
def Fr.setD (fr:Fr) (dst:Option Nat) (r:HV×Option (Nat×Nat)):Fr:=
 match dst with
 | none=>fr
 | some d=>{ env:=upd fr.env d r.1,al:=upd fr.al d r.2 }
def Fr.setB (fr:Fr) (bx:Option (Nat×HV)):Fr:=
 match bx with
 | none=>fr
 | some (b,y)=>{ fr with env:=upd fr.env b y }
def Fr.unl (fr:Fr):Option Nat→Fr
 | none=>fr
 | some d=>{ fr with al:=unlink d fr.al }
def Fr.eff (fr:Fr) (bx:Option (Nat×HV)) (lb:Option Nat) (dst:Option Nat) (r:HV×Option (Nat×Nat)):Fr:=((fr.setB bx).unl lb).setD dst r
def Agr (R:List Nat) (fr fr':Fr):Prop:=∀ t∈R,fr.place (.t t)=fr'.place (.t t)∧zd2 (fr.env t)=zd2 (fr'.env t)
def AgrD (D:Option Nat) (fr fr':Fr):Prop:=∀ d,D=some d→isB (fr.env d)=isB (fr'.env d)
def AgrB (R:List Nat) (fr fr':Fr):Prop:=∀ t∈R,∀ b off,fr.place (.t t)=some (b,off)→fr.env b=fr'.env b
def qx2 (fr:Fr):Prop:=∀ t,fr.al t≠none→isB (fr.env t)=false
theorem qb1 {v:HV} (h:isB v=true):∃ ek y,v=.lbox ek y:=by cases v<;>first | exact ⟨_,_,rfl⟩ | cases h
theorem jq7 (fr:Fr) (t:Nat):fr.place (.t t)=match fr.al t with
 | some (b,off)=>if isB (fr.env b)=true then some (b,off) else none
 | none=>if isB (fr.env t)=true then some (t,0) else none:=by
 have key:∀ (b:Nat) (o:Option (Nat×Nat)),(match fr.env b with
  | .lbox _ _=>o
  | _=>none)=if isB (fr.env b)=true then o else none:=by
  intro b o
  cases fr.env b<;>rfl
 simp only [Fr.place]
 cases fr.al t with
 | none=>exact key t _
 | some p=>exact key p.1 _
theorem jt4 {xs:List Opd} {fr fr':Fr} (h:Agr (zm6 xs) fr fr'):∀ x∈xs,fr.opd x=fr'.opd x∧fr.place x=fr'.place x:=by
 induction xs with
 | nil=>intro x hx;simp at hx
 | cons y ys ih=>
   intro x hx
   cases y with
   | k v=>
     rcases List.mem_cons.1 hx with rfl | hx
     · exact ⟨rfl,rfl⟩
     · exact ih h x hx
   | t i=>
     rcases List.mem_cons.1 hx with rfl | hx
     · obtain ⟨h1,h2⟩:=h i (by simp [zm6])
       exact ⟨h2,h1⟩
     · exact ih (fun t ht=>h t (by simp [zm6,ht])) x hx
theorem zb5 {xs:List Opd} {fr fr':Fr} (h:Agr (zm6 xs) fr fr'):∀ x∈xs,fr'.opd x=fr.opd x∧fr'.place x=fr.place x:=
 fun x hx=>⟨(jt4 h x hx).1.symm,(jt4 h x hx).2.symm⟩
theorem zz5 {xs:List Opd} {fr:Fr} {x:Opd} {b off:Nat} (hx:x∈xs) (h:fr.place x=some (b,off)):∃ t∈zm6 xs,∃ off,fr.place (.t t)=some (b,off):=by
 cases x with
 | k v=>simp [Fr.place] at h
 | t i=>
   refine ⟨i,?_,off,h⟩
   induction xs with
   | nil=>simp at hx
   | cons y ys ih=>
     rcases List.mem_cons.1 hx with e | hx2
     · subst e;simp [zm6]
     · cases y with
       | k v=>exact ih hx2
       | t j=>simp [zm6,ih hx2]
theorem zf5 (fr:Fr) (dst:Option Nat) (v:HV):fr.put dst v=fr.setD dst (v,none):=by cases dst<;>rfl
theorem qd9 (fr:Fr) (dst:Option Nat) (b off:Nat):fr.link dst b off=fr.setD dst (.undef,some (b,off)):=by cases dst<;>rfl
theorem ext_get {H:Heap} {x:HO} {id:Nat} (ext:Heap) (h:H[id]?=some x):(H++ext)[id]?=some x:=by
 rw [List.getElem?_append_left]
 · exact h
 · exact (List.getElem?_eq_some_iff.1 h).1
theorem qe1 {H:Heap} (ext:Heap) {v:HV} {u:CV} (h:zj3 H v=some u):zj3 (H++ext) v=some u:=by
 cases v with
 | sl id ver off len=>
   unfold zj3 at h ⊢
   dsimp only at h ⊢
   cases hg:H[id]? with
   | none=>rw [hg] at h;cases h
   | some x=>rw [hg] at h;rw [ext_get ext hg];exact h
 | _=>exact h
theorem q70 {H:Heap} (ext:Heap):∀ {vs:List HV} {us:List CV},zc2 H vs=some us→zc2 (H++ext) vs=some us:=by
 intro vs
 induction vs with
 | nil=>intro us h;exact h
 | cons v vs ih=>
   intro us h
   unfold zc2 at h ⊢
   cases h1:zj3 H v with
   | none=>rw [h1] at h;cases h
   | some a=>
     cases h2:zc2 H vs with
     | none=>rw [h1,h2] at h;cases h
     | some b=>rw [h1,h2] at h;rw [qe1 ext h1,ih h2];exact h
theorem qv5 {H:Heap} (ext:Heap) {v:HV} {u:CV} (h:zg3 H v=some u):zg3 (H++ext) v=some u:=by
 unfold zg3 at h ⊢
 split at h
 · rename_i cs
   cases h1:zc2 H cs with
   | none=>rw [h1] at h;cases h
   | some l=>rw [h1] at h;rw [q70 ext h1];exact h
 · rename_i t cs
   cases h1:zc2 H cs with
   | none=>rw [h1] at h;cases h
   | some l=>rw [h1] at h;rw [q70 ext h1];exact h
 · rename_i t v hn
   cases h1:zj3 H v with
   | none=>rw [h1] at h;cases h
   | some l=>rw [h1] at h;rw [qe1 ext h1];exact h
 · exact qe1 ext h
theorem qu2 {H:Heap} (ext:Heap) {v:HV} {u:CV} (h:q47 H v=some u):q47 (H++ext) v=some u:=by
 unfold q47 at h ⊢
 split at h
 · rename_i id off
   cases hg:H[id]? with
   | none=>rw [hg] at h;cases h
   | some x=>
     rw [hg] at h
     rw [ext_get ext hg]
     cases x with
     | row fz e ek ver xs=>exact h
     | var ek cs=>
       dsimp only at h ⊢
       cases h1:zc2 H cs with
       | none=>rw [h1] at h;cases h
       | some l=>rw [h1] at h;rw [q70 ext h1];exact h
 · exact qv5 ext h
theorem qm4 {H:Heap} (ext:Heap):∀ {vs:List HV} {us:List CV},zk6 H vs=some us→zk6 (H++ext) vs=some us:=by
 intro vs
 induction vs with
 | nil=>intro us h;exact h
 | cons v vs ih=>
   intro us h
   unfold zk6 at h ⊢
   cases h1:q47 H v with
   | none=>rw [h1] at h;cases h
   | some a=>
     cases h2:zk6 H vs with
     | none=>rw [h1,h2] at h;cases h
     | some b=>rw [h1,h2] at h;rw [qu2 ext h1,ih h2];exact h
theorem w37 {H:Heap} (ext:Heap) {v:HV} {u:CV} (h:thaw H v=some u):thaw (H++ext) v=some u:=by
 unfold thaw at h ⊢
 split at h
 · rename_i f first cap
   cases h1:zk6 H first with
   | none=>rw [h1] at h;cases h
   | some a=>
     cases h2:zk6 H cap with
     | none=>rw [h1,h2] at h;cases h
     | some b=>rw [h1,h2] at h;rw [qm4 ext h1,qm4 ext h2];exact h
 · exact qu2 ext h
theorem j17 {H:Heap} (ext:Heap):∀ {vs us:List HV},z99 H vs=some us→z99 (H++ext) vs=some us:=by
 intro vs
 induction vs with
 | nil=>intro us h;exact h
 | cons v vs ih=>
   intro us h
   unfold z99 at h ⊢
   cases h1:thaw H v with
   | none=>rw [h1] at h;cases h
   | some a=>
     cases h2:z99 H vs with
     | none=>rw [h1,h2] at h;cases h
     | some b=>rw [h1,h2] at h;rw [w37 ext h1,ih h2];exact h
section
variable {E:Env} {call:za3}
theorem qz5 {f:Nat} {args:List HV} {H H':Heap} {v:HV} (hm:E.md f=.P) (h:z91 E call f args H=some (v,H')) (hn:noRef v=true∨args.all isC=true) :
 H'=H∧∀ ext,z91 E call f args (H++ext)=some (v,H++ext):=by
 unfold z91 at h
 rw [hm] at h
 dsimp only at h
 cases ha:z99 H args with
 | none=>rw [ha] at h;cases h
 | some a5=>
   rw [ha] at h
   dsimp only at h
   cases hc:call f a5 [] with
   | none=>rw [hc] at h;cases h
   | some p=>
     obtain ⟨r,H1⟩:=p
     rw [hc] at h
     dsimp only at h
     cases hr:zn8 H1 r with
     | none=>rw [hr] at h;cases h
     | some r'=>
       rw [hr] at h
       dsimp only at h
       have hv:v=r':=by
        split at h
        · injection h with h;injection h with h1 h2;exact h1.symm
        · split at h
          · injection h with h;injection h with h1 h2;exact h1.symm
          · cases h
       subst hv
       have hcond:(args.all isC||noRef v)=true:=by
        rcases hn with hn | hn
        · simp [hn]
        · simp [hn]
       rw [if_pos hcond] at h
       injection h with h
       injection h with h1 h2
       refine ⟨h2.symm,fun ext=>?_⟩
       unfold z91
       rw [hm]
       dsimp only
       rw [j17 ext ha]
       dsimp only
       rw [hc]
       dsimp only
       rw [hr]
       dsimp only
       rw [if_pos hcond]
theorem w70 {o:IOp} {dst:Option Nat} {fr fr1:Fr} {H H1:Heap} (hb:∀ fz e ek z n ps,o≠.bsl fz e ek z n ps) (h:doD E call .pure o dst fr H=some (fr1,H1)) :
 H1=H∧∃ r,fr1=fr.setD dst r∧(∀ b off,r.2=some (b,off)→∃ t∈zm6 o.opds,∃ off,fr.place (.t t)=some (b,off))∧∀ fr',Agr (zm6 o.opds) fr fr'→∀ H',doD E call .pure o dst fr' H'=some (fr'.setD dst r,H'):=by
 cases o
 case mv x | faddr off x | nck x=>
  simp only [doD,zn1,z42,if_true,zx4] at h
  (repeat' split at h)<;>first
    | (cases h;done)
    | (injection h with hh;injection hh with z1 z2;subst z1;subst z2;(first | refine ⟨rfl,_,zf5 _ _ _,fun _ _ q=>(by cases q),fun fr' ha H'=>?_⟩ | refine ⟨rfl,_,qd9 _ _ _ _,fun _ _ q=>(by injection q with q;injection q with q1 q2;subst q1;exact zz5 (x:=x) (by simp [IOp.opds]) (by assumption)),fun fr' ha H'=>?_⟩);have hop:=zb5 ha;simp_all [doD,z42,zn1,IOp.opds,zf5,zx4,qd9])
 case un | bin | eqs | eqb | pick | fld | cvs | fbox | six | len | ext | isn | cvt | mx=>
  simp only [doD,zn1,z42,if_true] at h
  (repeat' split at h)<;>first
    | (cases h;done)
    | (injection h with hh;injection hh with z1 z2;subst z1;subst z2;refine ⟨rfl,_,zf5 _ _ _,fun _ _ q=>(by cases q),fun fr' ha H'=>?_⟩;have hop:=zb5 ha;simp_all [doD,z42,zn1,IOp.opds,zf5,zx4,qd9])
 case build z ps=>
  simp only [doD,zn1,z42,if_true] at h
  split at h
  · rename_i cs hf
    injection h with hh;injection hh with z1 z2;subst z1;subst z2
    refine ⟨rfl,_,zf5 _ _ _,fun _ _ q=>(by cases q),fun fr' ha H'=>?_⟩
    have hop:=zb5 ha
    have:(ps.map fun p=>(p.1,p.2.1,fr'.opd p.2.2))=(ps.map fun p=>(p.1,p.2.1,fr.opd p.2.2)):=
     List.map_congr_left fun p hp=>by rw [(hop p.2.2 (by simp only [IOp.opds];exact List.mem_map_of_mem hp)).1]
    simp only [doD,zn1,z42,if_true,this,hf,zf5]
  · cases h
 case mkf f a5 bs=>
  simp only [doD,zn1,z42,if_true] at h
  injection h with hh;injection hh with z1 z2;subst z1;subst z2
  refine ⟨rfl,_,zf5 _ _ _,fun _ _ q=>(by cases q),fun fr' ha H'=>?_⟩
  have hop:=zb5 ha
  have h1:a5.map fr'.opd=a5.map fr.opd:=List.map_congr_left fun x hx=>(hop x (by simp [IOp.opds,hx])).1
  have h2:bs.map fr'.opd=bs.map fr.opd:=List.map_congr_left fun x hx=>(hop x (by simp [IOp.opds,hx])).1
  simp only [doD,zn1,z42,if_true,h1,h2,zf5]
 case bsl fz e ek z n ps=>exact absurd rfl (hb fz e ek z n ps)
 all_goals simp [doD,zn1] at h
theorem qm3:∀ {vs:List HV} {us:List CV},zc2 [] vs=some us→∀ H,zk2 vs H=H:=by
 intro vs
 induction vs with
 | nil=>intro us h H;rfl
 | cons v vs ih=>
   intro us h H
   unfold zc2 at h
   cases h1:zj3 [] v with
   | none=>rw [h1] at h;cases h
   | some a=>
     cases h2:zc2 [] vs with
     | none=>rw [h1,h2] at h;cases h
     | some b=>
       cases v with
       | sl id ver off len=>simp [zj3] at h1
       | _=>unfold zk2;exact ih h2 H
theorem qg2 {v:HV} {u:CV} (h:zg3 [] v=some u) (H:Heap):zm2 v H=some (u,H):=by
 have h2:zg3 H v=some u:=by have:=qv5 H h;simpa using this
 have h3:frzV v H=H:=by
  cases v with
  | sl id ver off len=>simp [zg3,zj3] at h
  | agg cs=>
    show zk2 cs H=H
    unfold zg3 at h
    dsimp only at h
    cases h1:zc2 [] cs with
    | none=>rw [h1] at h;cases h
    | some l=>exact qm3 h1 H
  | iface t x=>
    cases x with
    | sl id ver off len=>simp [zg3,zj3] at h
    | agg cs=>
      show zk2 cs H=H
      unfold zg3 at h
      dsimp only at h
      cases h1:zc2 [] cs with
      | none=>rw [h1] at h;cases h
      | some l=>exact qm3 h1 H
    | _=>rfl
  | _=>rfl
 unfold zm2
 split
 · simp [zg3,zj3] at h;rw [h]
 · rw [h2];dsimp only;rw [h3]
theorem qu4 {ek:Option Nat}:∀ (ps:List (Nat×HV)) (xs:List CV) (H:Heap) (ys:List CV) (H1:Heap),(∀ p∈ps,(zg3 [] p.2).isSome=true)→zd7 ek xs H ps=some (ys,H1)→H1=H∧∀ H',zd7 ek xs H' ps=some (ys,H'):=by
 intro ps
 induction ps with
 | nil=>
   intro xs H ys H1 _ h
   simp only [zd7,Option.some.injEq,Prod.mk.injEq] at h
   obtain ⟨rfl,rfl⟩:=h
   exact ⟨rfl,fun _=>rfl⟩
 | cons p ps ih=>
   intro xs H ys H1 hp h
   obtain ⟨i,v⟩:=p
   obtain ⟨u,hu⟩:=Option.isSome_iff_exists.1 (hp (i,v) (by simp))
   unfold zd7 at h
   rw [qg2 hu] at h
   dsimp only at h
   split at h
   · rename_i hc
     obtain ⟨k1,k2⟩:=ih _ _ _ _ (fun q hq=>hp q (by simp [hq])) h
     refine ⟨k1,fun H'=>?_⟩
     unfold zd7
     rw [qg2 hu]
     dsimp only
     rw [if_pos hc]
     exact k2 H'
   · cases h
theorem wq6 {fz:Bool} {e:Nat} {ek:Option Nat} {z:List CV} {n:Nat} {ps:List (Nat×Opd)} {dst:Option Nat} {fr fr1:Fr} {H H1:Heap} (h:doD E call .pure (.bsl fz e ek z n ps) dst fr H=some (fr1,H1)) :
 H1=H∧∃ r,fr1=fr.setD dst r∧(∀ b off,r.2=some (b,off)→∃ t∈zm6 (IOp.bsl fz e ek z n ps).opds,∃ off,fr.place (.t t)=some (b,off))∧∀ fr',Agr (zm6 (IOp.bsl fz e ek z n ps).opds) fr fr'→∀ H',doD E call .pure (.bsl fz e ek z n ps) dst fr' H'=some (fr'.setD dst r,H'):=by
 simp only [doD] at h
 split at h
 · rename_i hc
   obtain ⟨rfl,hps⟩:=hc
   simp only [z42] at h
   cases hz:zc0 ek z with
   | none=>rw [hz] at h;cases h
   | some zz=>
     rw [hz] at h
     dsimp only at h
     split at h
     · rename_i hfit
       cases hf:zd7 ek (List.replicate n zz) H (ps.map fun p=>(p.1,fr.opd p.2)) with
       | none=>rw [hf] at h;cases h
       | some q=>
         obtain ⟨ys,H2⟩:=q
         rw [hf] at h
         simp only [if_true] at h
         injection h with hh;injection hh with z1 z2;subst z1;subst z2
         obtain ⟨k1,k2⟩:=qu4 _ _ _ _ _ (by
          intro p hp
          obtain ⟨q,hq,rfl⟩:=List.mem_map.1 hp
          exact List.all_eq_true.1 hps q hq) hf
         refine ⟨k1,_,zf5 _ _ _,fun _ _ q=>(by cases q),fun fr' ha H'=>?_⟩
         have hop:=zb5 ha
         have e1:(ps.map fun p=>(p.1,fr'.opd p.2))=(ps.map fun p=>(p.1,fr.opd p.2)):=
          List.map_congr_left fun p hp=>by rw [(hop p.2 (by simp only [IOp.opds];exact List.mem_map_of_mem hp)).1]
         have e2:(ps.all fun p=>(zg3 [] (fr'.opd p.2)).isSome)=true:=by
          rw [List.all_eq_true] at hps ⊢
          intro p hp
          rw [(hop p.2 (by simp only [IOp.opds];exact List.mem_map_of_mem hp)).1]
          exact hps p hp
         simp only [doD,e2,z42,e1,hz,hfit,k2 H',zf5,if_true,and_self]
     · cases h
 · cases h
def HRel (c:Cls) (H H1 H' H1':Heap):Prop:=match c with
 | .pure | .rdb | .wrb | .lb=>H1'=H'
 | .rd=>(∃ ext,H'=H++ext)∧H1'=H'
 | .wr | .hb=>H'=H∧H1'=H1
def boxy:Cls→Bool
 | .rdb | .wrb=>true
 | _=>false
def EffD (c:Cls) (R:List Nat) (dst:Option Nat) (fr:Fr) (H:Heap) (fr1:Fr) (H1:Heap) (step:Fr→Heap→Option (Fr×Heap)):Prop:=
 ((c≠.wr→c≠.hb→H1=H)∧(c=.hb→∃ ext,H1=H++ext)) ∧
 ∃ (r:HV×Option (Nat×Nat)) (bx:Option (Nat×HV)) (lb:Option Nat),(∀ b y,bx=some (b,y)→isB (fr.env b)=true∧isB y=true∧∃ t∈R,∃ off,fr.place (.t t)=some (b,off))∧(c≠.wrb→bx=none)∧(bx≠none→dst=none) ∧
  (c≠.lb→lb=none)∧(c=.lb→lb=none→isB r.1=false)∧(∀ d,lb=some d→dst=some d∧bx=none∧r.2=none)∧(∀ b off,r.2=some (b,off)→∃ t∈R,∃ off,fr.place (.t t)=some (b,off))∧fr1=fr.eff bx lb dst r ∧
  ∀ fr',Agr R fr fr'→AgrD dst fr fr'→(boxy c=true→AgrB R fr fr')→∀ H' H1',HRel c H H1 H' H1'→step fr' H'=some (fr'.eff bx lb dst r,H1')
theorem EffD.mono {c:Cls} {R R':List Nat} {dst:Option Nat} {fr fr1:Fr} {H H1:Heap} {step:Fr→Heap→Option (Fr×Heap)} (h:EffD c R dst fr H fr1 H1 step) (hR:∀ t∈R,t∈R'):EffD c R' dst fr H fr1 H1 step:=by
 obtain ⟨h1,r,bx,lb,h2,h3,h4,h5,hx,h6,h7,h8,h9⟩:=h
 exact ⟨h1,r,bx,lb,fun b y e=>⟨(h2 b y e).1,(h2 b y e).2.1,(h2 b y e).2.2.elim fun t q=>⟨t,hR t q.1,q.2⟩⟩,h3,h4,h5,hx,h6,fun b off e=>(h7 b off e).elim fun t q=>⟨t,hR t q.1,q.2⟩,h8,
  fun fr' ha hd hab=>h9 fr' (fun t ht=>ha t (hR t ht)) hd (fun hc t ht=>hab hc t (hR t ht))⟩
theorem zr7 {fr:Fr} {x:Opd} {b off:Nat} (h:fr.place x=some (b,off)):isB (fr.env b)=true:=by
 cases x with
 | k v=>simp [Fr.place] at h
 | t i=>
   simp only [Fr.place] at h
   split at h
   · rename_i b' off' _
     split at h
     · rename_i he
       injection h with h;injection h with h1 h2;subst h1
       rw [he];rfl
     · cases h
   · split at h
     · rename_i he
       injection h with h;injection h with h1 h2;subst h1
       rw [he];rfl
     · cases h
theorem wj8 {ek:Option Nat} {a:Opd} {dst:Option Nat} {fr fr1:Fr} {H H1:Heap} (h:doD E call .rdb (.load ek a) dst fr H=some (fr1,H1)) :
 EffD .rdb (zm6 (IOp.load ek a).opds) dst fr H fr1 H1 (doD E call .rdb (.load ek a) dst):=by
 simp only [doD] at h
 split at h
 · rename_i hp
   simp only [z42] at h
   cases hpl:fr.place a with
   | none=>rw [hpl] at hp;cases hp
   | some q=>
     obtain ⟨b,off⟩:=q
     rw [hpl] at h
     dsimp only at h
     obtain ⟨ek',y,hb⟩:=qb1 (zr7 hpl)
     rw [hb] at h
     dsimp only at h
     split at h
     · rename_i v hv
       injection h with hh;injection hh with z1 z2;subst z1;subst z2
       refine ⟨⟨fun _ _=>rfl,fun h=>by cases h⟩,(v,none),none,none,fun _ _ h=>(by cases h),fun _=>rfl,fun h=>absurd rfl h,fun _=>rfl,(fun h=>by cases h),fun _ h=>(by cases h),fun _ _ h=>(by cases h),zf5 _ _ _,?_⟩
       intro fr' ha had hab H' H1' hr
       cases hr
       have hop:=zb5 ha a (by simp [IOp.opds])
       have he:fr'.env b=.lbox ek' y:=by obtain ⟨t,ht,off',hp'⟩:=zz5 (xs:=(IOp.load ek a).opds) (x:=a) (by simp [IOp.opds]) hpl;rw [← hab rfl t ht b off' hp'];exact hb
       simp only [doD,z42,hop.2,hpl,he,hv,zf5,Option.isSome_some,if_true]
       rfl
     · cases h
 · cases h
theorem wi6 {ek:Option Nat} {a x:Opd} {dst:Option Nat} {fr fr1:Fr} {H H1:Heap} (h:doD E call .wrb (.store ek a x) dst fr H=some (fr1,H1)) :
 EffD .wrb (zm6 (IOp.store ek a x).opds) dst fr H fr1 H1 (doD E call .wrb (.store ek a x) dst):=by
 simp only [doD] at h
 split at h
 · rename_i hp
   obtain ⟨hp,rfl⟩:=hp
   simp only [z42] at h
   cases hpl:fr.place a with
   | none=>rw [hpl] at hp;cases hp
   | some q=>
     obtain ⟨b,off⟩:=q
     rw [hpl] at h
     dsimp only at h
     have hbb:=zr7 hpl
     obtain ⟨ek',y,hb⟩:=qb1 hbb
     rw [hb] at h
     dsimp only at h
     split at h
     · rename_i hf
       split at h
       · rename_i hc
         injection h with hh;injection hh with z1 z2;subst z1;subst z2
         refine ⟨⟨fun _ _=>rfl,fun h=>by cases h⟩,(.undef,none),some (b,.lbox ek' (fr.opd x)),none,fun b' y' h=>by injection h with h;injection h with e1 e2;subst e1;subst e2;exact ⟨hbb,rfl,zz5 (x:=a) (by simp [IOp.opds]) hpl⟩,fun h=>absurd rfl h,fun _=>rfl,fun _=>rfl,(fun h=>by cases h),fun _ h=>(by cases h),fun _ _ h=>(by cases h),rfl,?_⟩
         intro fr' ha had hab H' H1' hr
         cases hr
         have hop:=zb5 ha
         have h1:=hop a (by simp [IOp.opds])
         have h2:=hop x (by simp [IOp.opds])
         have he:fr'.env b=.lbox ek' y:=by obtain ⟨t,ht,off',hp'⟩:=zz5 (xs:=(IOp.store ek a x).opds) (x:=a) (by simp [IOp.opds]) hpl;rw [← hab rfl t ht b off' hp'];exact hb
         simp only [doD,z42,h1.2,hpl,he,h2.1,hf,Option.isSome_some,if_true,and_self]
         rw [if_pos hc]
         rfl
       · rename_i hc
         split at h
         · rename_i hl
           split at h
           · rename_i x' hu
             split at h
             · rename_i hf2
               injection h with hh;injection hh with z1 z2;subst z1;subst z2
               refine ⟨⟨fun _ _=>rfl,fun h=>by cases h⟩,(.undef,none),some (b,.lbox ek' x'),none,fun b' y' h=>by injection h with h;injection h with e1 e2;subst e1;subst e2;exact ⟨hbb,rfl,zz5 (x:=a) (by simp [IOp.opds]) hpl⟩,fun h=>absurd rfl h,fun _=>rfl,fun _=>rfl,(fun h=>by cases h),fun _ h=>(by cases h),fun _ _ h=>(by cases h),rfl,?_⟩
               intro fr' ha had hab H' H1' hr
               cases hr
               have hop:=zb5 ha
               have h1:=hop a (by simp [IOp.opds])
               have h2:=hop x (by simp [IOp.opds])
               have he:fr'.env b=.lbox ek' y:=by obtain ⟨t,ht,off',hp'⟩:=zz5 (xs:=(IOp.store ek a x).opds) (x:=a) (by simp [IOp.opds]) hpl;rw [← hab rfl t ht b off' hp'];exact hb
               simp only [doD,z42,h1.2,hpl,he,h2.1,hf,Option.isSome_some,if_true,and_self]
               rw [if_neg hc,if_pos hl,hu]
               dsimp only
               rw [if_pos hf2]
               rfl
             · cases h
           · cases h
         · cases h
     · cases h
 · cases h
theorem jp6 {ek:Option Nat} {p v:HV} {H:Heap} (ext:Heap) (h:zd0 ek p H=some v):zd0 ek p (H++ext)=some v:=by
 unfold zd0 at h ⊢
 split at h
 · exact h
 · rename_i id off
   cases hg:H[id]? with
   | none=>rw [hg] at h;cases h
   | some x=>rw [hg] at h;rw [ext_get ext hg];exact h
 · rename_i id ver i off
   cases hg:H[id]? with
   | none=>rw [hg] at h;cases h
   | some x=>rw [hg] at h;rw [ext_get ext hg];exact h
 · cases h
theorem wo1 {ek:Option Nat} {p v:HV} {n:Int} {H:Heap} (ext:Heap) (h:ixH ek p n H=some v):ixH ek p n (H++ext)=some v:=by
 unfold ixH at h ⊢
 split at h
 · exact h
 · rename_i id ver off len
   cases hg:H[id]? with
   | none=>rw [hg] at h;cases h
   | some x=>rw [hg] at h;rw [ext_get ext hg];exact h
 · cases h
theorem wd6 {st:Bool} {ek:Option Nat} {p v:HV} {lo hi:Option Int} {H:Heap} (ext:Heap) (h:slcH st ek p lo hi H=some v):slcH st ek p lo hi (H++ext)=some v:=by
 unfold slcH at h ⊢
 split at h
 · exact h
 · exact h
 · exact h
 · rename_i id ver off len
   cases hg:H[id]? with
   | none=>rw [hg] at h;cases h
   | some x=>rw [hg] at h;rw [ext_get ext hg];exact h
 · cases h
theorem ja6 {fr fr':Fr} {o:Option Opd} (h:∀ x,o=some x→fr'.opd x=fr.opd x):optI fr' o=optI fr o:=by
 cases o with
 | none=>rfl
 | some x=>unfold optI;dsimp only;rw [h x rfl]
theorem zn6 {c:Cls} {R:List Nat} {dst:Option Nat} {fr:Fr} {H H1:Heap} {v:HV} {step:Fr→Heap→Option (Fr×Heap)} (hv:c=.lb→isB v=false) (hm:(c≠.wr→c≠.hb→H1=H)∧(c=.hb→∃ ext,H1=H++ext)) (h:∀ fr',Agr R fr fr'→(boxy c=true→AgrB R fr fr')→∀ H' H1',HRel c H H1 H' H1'→step fr' H'=some (fr'.put dst v,H1')):EffD c R dst fr H (fr.put dst v) H1 step:=by
 refine ⟨hm,(v,none),none,none,fun _ _ h=>(by cases h),fun _=>rfl,fun h=>absurd rfl h,fun _=>rfl,(fun h _=>hv h),fun _ h=>(by cases h),fun _ _ h=>(by cases h),zf5 _ _ _,?_⟩
 intro fr' ha had hab H' H1' hr
 rw [h fr' ha hab H' H1' hr,zf5]
 rfl
theorem v32 {o:IOp} {dst:Option Nat} {fr fr1:Fr} {H H1:Heap} (h:doD E call .lb o dst fr H=some (fr1,H1)):EffD .lb (zm6 o.opds) dst fr H fr1 H1 (doD E call .lb o dst):=by
 cases o with
 | lbox ek x=>
   cases dst with
   | none=>simp [doD,z42] at h
   | some d=>
     simp only [doD,z42] at h
     split at h
     · rename_i hf
       injection h with hh;injection hh with z1 z2;subst z1;subst z2
       refine ⟨⟨fun _ _=>rfl,fun h=>by cases h⟩,(.lbox ek (fr.opd x),none),none,some d,fun _ _ h=>(by cases h),fun _=>rfl,fun h=>absurd rfl h,fun h=>absurd rfl h,(fun _ h=>by cases h),fun d' h=>(by injection h with h;subst h;exact ⟨rfl,rfl,rfl⟩),fun _ _ h=>(by cases h),?_,?_⟩
       · simp only [Fr.eff,Fr.setB,Fr.unl,Fr.setD]
         congr 1
         funext t
         simp only [upd,unlink]
         split<;>rfl
       · intro fr' ha had hab H' H1' hr
         cases hr
         have hop:=zb5 ha x (by simp [IOp.opds])
         simp only [doD,z42,hop.1,hf,if_true,Fr.eff,Fr.setB,Fr.unl,Fr.setD]
         congr 3
         funext t
         simp only [upd,unlink]
         split<;>rfl
     · cases h
 | _=>simp [doD] at h
theorem wu8 {o:IOp} {dst:Option Nat} {fr fr1:Fr} {H H1:Heap} (h:doD E call .rd o dst fr H=some (fr1,H1)):EffD .rd (zm6 o.opds) dst fr H fr1 H1 (doD E call .rd o dst):=by
 cases o with
 | load ek a=>
   simp only [doD] at h
   split at h
   · cases h
   · rename_i hp
     simp only [z42] at h
     cases hpl:fr.place a with
     | some q=>rw [hpl] at hp;simp at hp
     | none=>
       rw [hpl] at h
       dsimp only at h
       cases hl:zd0 ek (fr.opd a) H with
       | none=>rw [hl] at h;cases h
       | some v=>
         rw [hl] at h
         injection h with hh;injection hh with z1 z2;subst z1;subst z2
         refine zn6 (fun h=>by cases h) ⟨fun _ _=>rfl,fun h=>by cases h⟩ fun fr' ha hab H' H1' hr=>?_
         obtain ⟨⟨ext,rfl⟩,rfl⟩:=hr
         have hop:=zb5 ha a (by simp [IOp.opds])
         simp only [doD,z42,hop.2,hop.1,hpl,jp6 ext hl]
         rfl
 | ix ek x i=>
   simp only [doD,z42] at h
   cases hi:q05 (fr.opd i) with
   | none=>rw [hi] at h;cases h
   | some n=>
     rw [hi] at h
     dsimp only at h
     cases hl:ixH ek (fr.opd x) n H with
     | none=>rw [hl] at h;cases h
     | some v=>
       rw [hl] at h
       injection h with hh;injection hh with z1 z2;subst z1;subst z2
       refine zn6 (fun h=>by cases h) ⟨fun _ _=>rfl,fun h=>by cases h⟩ fun fr' ha hab H' H1' hr=>?_
       obtain ⟨⟨ext,rfl⟩,rfl⟩:=hr
       have hop:=zb5 ha
       simp only [doD,z42,(hop x (by simp [IOp.opds])).1,(hop i (by simp [IOp.opds])).1,hi,wo1 ext hl]
 | slc st ek x lo hi=>
   simp only [doD,z42] at h
   cases h1:optI fr lo with
   | none=>rw [h1] at h;cases h
   | some l=>
     cases h2:optI fr hi with
     | none=>rw [h1,h2] at h;cases h
     | some u=>
       rw [h1,h2] at h
       dsimp only at h
       cases hl:slcH st ek (fr.opd x) l u H with
       | none=>rw [hl] at h;cases h
       | some v=>
         rw [hl] at h
         injection h with hh;injection hh with z1 z2;subst z1;subst z2
         refine zn6 (fun h=>by cases h) ⟨fun _ _=>rfl,fun h=>by cases h⟩ fun fr' ha hab H' H1' hr=>?_
         obtain ⟨⟨ext,rfl⟩,rfl⟩:=hr
         have hop:=zb5 ha
         have e1:optI fr' lo=optI fr lo:=ja6 fun y hy=>(hop y (by simp [IOp.opds,hy])).1
         have e2:optI fr' hi=optI fr hi:=ja6 fun y hy=>(hop y (by simp [IOp.opds,hy])).1
         simp only [doD,z42,(hop x (by simp [IOp.opds])).1,e1,e2,h1,h2,wd6 ext hl]
 | call f args=>
   simp only [doD] at h
   split at h
   · rename_i hm
     cases hc:z91 E call f (args.map fr.opd) H with
     | none=>rw [hc] at h;cases h
     | some p=>
       obtain ⟨v,H2⟩:=p
       rw [hc] at h
       dsimp only at h
       split at h
       · rename_i hn
         injection h with hh;injection hh with z1 z2;subst z1;subst z2
         refine zn6 (fun h=>by cases h) ⟨fun _ _=>rfl,fun h=>by cases h⟩ fun fr' ha hab H' H1' hr=>?_
         obtain ⟨⟨ext,rfl⟩,rfl⟩:=hr
         have hop:=zb5 ha
         have e1:args.map fr'.opd=args.map fr.opd:=List.map_congr_left fun x hx=>(hop x (by simp [IOp.opds,hx])).1
         have:=(qz5 hm hc hn).2 ext
         simp only [doD,e1,this,hm,if_true]
         rw [if_pos hn]
       · cases h
   · cases h
 | _=>simp [doD] at h
theorem v12 {o:IOp} {dst:Option Nat} {fr fr1:Fr} {H H1:Heap} (h:doD E call .hb o dst fr H=some (fr1,H1)):EffD .hb (zm6 o.opds) dst fr H fr1 H1 (doD E call .hb o dst):=by
 cases o with
 | hbox ek x=>
   simp only [doD,z42] at h
   split at h
   · rename_i hf
     injection h with hh;injection hh with z1 z2;subst z1;subst z2
     refine zn6 (fun h=>by cases h) ⟨fun _ h=>absurd rfl h,fun _=>⟨_,rfl⟩⟩ fun fr' ha hab H' H1' hr=>?_
     obtain ⟨rfl,rfl⟩:=hr
     have hop:=zb5 ha x (by simp [IOp.opds])
     simp only [doD,z42,hop.1,hf,if_true]
   · cases h
 | _=>simp [doD] at h
theorem ww7 {o:IOp} {dst:Option Nat} {fr fr1:Fr} {H H1:Heap} (h:doD E call .wr o dst fr H=some (fr1,H1)):EffD .wr (zm6 o.opds) dst fr H fr1 H1 (doD E call .wr o dst):=by
 have hm:(Cls.wr≠.wr→Cls.wr≠.hb→H1=H)∧(Cls.wr=.hb→∃ ext,H1=H++ext):=⟨fun h=>absurd rfl h,fun h=>by cases h⟩
 cases o with
 | store ek a x=>
   simp only [doD] at h
   split at h
   · cases h
   · rename_i hp
     have hdst:dst=none:=by
      cases dst with
      | none=>rfl
      | some d=>exact absurd (.inr (by simp)) hp
     subst hdst
     simp only [z42] at h
     cases hpl:fr.place a with
     | some q=>rw [hpl] at hp;simp at hp
     | none=>
       rw [hpl] at h
       dsimp only at h
       cases hl:zo1 ek (fr.opd a) (fr.opd x) H with
       | none=>rw [hl] at h;cases h
       | some H2=>
         rw [hl] at h
         injection h with hh;injection hh with z1 z2;subst z1;subst z2
         refine ⟨hm,(.undef,none),none,none,fun _ _ h=>(by cases h),fun _=>rfl,fun h=>absurd rfl h,fun _=>rfl,(fun h=>by cases h),fun _ h=>(by cases h),fun _ _ h=>(by cases h),rfl,?_⟩
         intro fr' ha had hab H' H1' hr
         obtain ⟨rfl,rfl⟩:=hr
         have hop:=zb5 ha
         have h1:=hop a (by simp [IOp.opds])
         have h2:=hop x (by simp [IOp.opds])
         simp only [doD,z42,h1.1,h1.2,h2.1,hpl,hl]
         simp [Fr.setB,Fr.setD,Fr.eff,Fr.unl]
 | app e ek n s x=>
   simp only [doD,z42] at h
   cases hl:appH e ek n (fr.opd s) (fr.opd x) H with
   | none=>rw [hl] at h;cases h
   | some q=>
     rw [hl] at h
     injection h with hh;injection hh with z1 z2;subst z1;subst z2
     refine zn6 (fun h=>by cases h) hm fun fr' ha hab H' H1' hr=>?_
     obtain ⟨rfl,rfl⟩:=hr
     have hop:=zb5 ha
     simp only [doD,z42,(hop s (by simp [IOp.opds])).1,(hop x (by simp [IOp.opds])).1,hl]
 | bsl fz e ek z n ps=>
   simp only [doD,z42] at h
   cases hz:zc0 ek z with
   | none=>rw [hz] at h;cases h
   | some zz=>
     rw [hz] at h
     dsimp only at h
     split at h
     · rename_i hfit
       cases hf:zd7 ek (List.replicate n zz) H (ps.map fun p=>(p.1,fr.opd p.2)) with
       | none=>rw [hf] at h;cases h
       | some q=>
         obtain ⟨ys,H2⟩:=q
         rw [hf] at h
         dsimp only at h
         have e1:∀ fr',Agr (zm6 (IOp.bsl fz e ek z n ps).opds) fr fr'→(ps.map fun p=>(p.1,fr'.opd p.2))=(ps.map fun p=>(p.1,fr.opd p.2)):=
          fun fr' ha=>List.map_congr_left fun p hp=>by rw [(zb5 ha p.2 (by simp only [IOp.opds];exact List.mem_map_of_mem hp)).1]
         split at h
         · rename_i hfz
           injection h with hh;injection hh with z1 z2;subst z1;subst z2
           refine zn6 (fun h=>by cases h) hm fun fr' ha hab H' H1' hr=>?_
           obtain ⟨rfl,rfl⟩:=hr
           simp only [doD,z42,hz,hfit,e1 fr' ha,hf,hfz,if_true]
         · rename_i hfz
           injection h with hh;injection hh with z1 z2;subst z1;subst z2
           refine zn6 (fun h=>by cases h) hm fun fr' ha hab H' H1' hr=>?_
           obtain ⟨rfl,rfl⟩:=hr
           simp only [doD,z42,hz,hfit,e1 fr' ha,hf,if_true]
           rw [if_neg hfz]
     · cases h
 | call f args=>
   simp only [doD,doOp,zh7] at h
   cases hc:z91 E call f (args.map fr.opd) H with
   | none=>rw [hc] at h;cases h
   | some p=>
     obtain ⟨v,H2⟩:=p
     rw [hc] at h
     injection h with hh;injection hh with z1 z2;subst z1;subst z2
     refine zn6 (fun h=>by cases h) hm fun fr' ha hab H' H1' hr=>?_
     obtain ⟨rfl,rfl⟩:=hr
     have hop:=zb5 ha
     have e1:args.map fr'.opd=args.map fr.opd:=List.map_congr_left fun x hx=>(hop x (by simp [IOp.opds,hx])).1
     simp only [doD,doOp,zh7,e1,hc]
 | callv x args=>
   simp only [doD,doOp,zh7] at h
   cases ht:zt0 (fr.opd x) (args.map fr.opd) with
   | none=>rw [ht] at h;cases h
   | some q=>
     rw [ht] at h
     dsimp only at h
     cases hc:z91 E call q.1 q.2 H with
     | none=>rw [hc] at h;cases h
     | some p=>
       obtain ⟨v,H2⟩:=p
       rw [hc] at h
       injection h with hh;injection hh with z1 z2;subst z1;subst z2
       refine zn6 (fun h=>by cases h) hm fun fr' ha hab H' H1' hr=>?_
       obtain ⟨rfl,rfl⟩:=hr
       have hop:=zb5 ha
       have e1:args.map fr'.opd=args.map fr.opd:=List.map_congr_left fun x hx=>(hop x (by simp [IOp.opds,hx])).1
       simp only [doD,doOp,zh7,e1,(hop x (by simp [IOp.opds])).1,ht,hc]
 | _=>simp [doD] at h
theorem jt9 {c:Cls} {o:IOp} {dst:Option Nat} {fr fr1:Fr} {H H1:Heap} (h:doD E call c o dst fr H=some (fr1,H1)):EffD c (zm6 o.opds) dst fr H fr1 H1 (doD E call c o dst):=by
 cases c with
 | pure=>
   have key:H1=H∧∃ r,fr1=fr.setD dst r∧(∀ b off,r.2=some (b,off)→∃ t∈zm6 o.opds,∃ off,fr.place (.t t)=some (b,off))∧∀ fr',Agr (zm6 o.opds) fr fr'→∀ H',doD E call .pure o dst fr' H'=some (fr'.setD dst r,H'):=by
    cases o with
    | bsl fz e ek z n ps=>exact wq6 h
    | _=>exact w70 (by intros;simp) h
   obtain ⟨k1,r,k2,kl,k3⟩:=key
   refine ⟨⟨fun _ _=>k1,fun h=>by cases h⟩,r,none,none,fun _ _ h=>(by cases h),fun _=>rfl,fun h=>absurd rfl h,fun _=>rfl,(fun h=>by cases h),fun _ h=>(by cases h),kl,k2,?_⟩
   intro fr' ha had hab H' H1' hr
   cases hr
   exact k3 fr' ha H'
 | rdb=>cases o<;>first | exact wj8 h | simp [doD] at h
 | wrb=>cases o<;>first | exact wi6 h | simp [doD] at h
 | rd=>exact wu8 h
 | wr=>exact ww7 h
 | hb=>exact v12 h
 | lb=>exact v32 h
end
end Go.Proofs.Lz
