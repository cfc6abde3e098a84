/- Maps. -/
import Derived.Test.YtlimfobeoodkjaaGreatDoorLzStore2
import Derived.MapKept
set_option linter.unusedVariables false
set_option linter.unusedSimpArgs false
set_option linter.unusedSectionVars false
namespace Go.Proofs.Lz
variable [GlobTab]
section
variable {P:Program} {fb N:Nat} {w:World} {F:Nat->Prop} {H:q7} {m:j7} {lb:Nat->Nat} {fr:Fr} {a:Act} {o:Oper}
variable {K:Act->World->Prop} {Q:Exit->Act->World->Prop}
theorem vX {x:HV} {v:Value} (h:RH w F H m x v):RH w F H m (r7 x) v/\∀ ek y,r7 x≠.lbox ek y:=by
 cases x<;>first | exact ⟨h,fun _ _ q=>by cases q⟩ | exact ⟨by unfold r7 RH;exact trivial,fun _ _ q=>by cases q⟩
theorem jM {kt:TypeId} {d:TypeDesc} {kd:Nat} {v:Value} (hd:P.underlying kt=some d) (hk:S2 d=some kd) (e:Bool) (n:Nat):(Instr.checkKey e (n+1) kt v).run P w=.ok () w:=by
 unfold Instr.checkKey;simp only [Sem.run_bind,run_underlying hd,Result.andThen];cases d<;>simp_all [S2]
theorem oL {d:TypeDesc} {kd:Nat} {k k':CV} {u v:Value} {r:Bool} (hk:S2 d=some kd) (h:uA kd k k'=some r) (h1:RC w F k u) (h2:RC w F k' v) :
 Instr.sameNow d u v=some r/\(r=true->u=v)/\Instr.sameBits 10000 u u=true:=by
 unfold uA at h;split at h
 . injection h with h;rw [rc_bool] at h1 h2;subst h1;subst h2;cases d<;>simp [S2] at hk
   subst h;exact ⟨rfl,fun q=>by simpa using q,by simp [Instr.sameBits]⟩
 . split at h
   . rename_i hkk;injection h with h;rw [m7] at h1 h2;subst h1;subst h2;subst hkk;cases d<;>simp [S2] at hk
     subst h;exact ⟨by simp [Instr.sameNow],fun q=>by simp at q;rw [q],by simp [Instr.sameBits]⟩
   . cases h
 . injection h with h;rename_i a b;rw [a6] at h1 h2;subst h1;subst h2;cases d<;>simp [S2] at hk
   subst h;refine ⟨?_,fun q=>by simp at q;rw [q],by simp [Instr.sameBits,MapKept.bytes_beq]⟩;simp only [Instr.sameNow,Option.some.injEq];rw [Bool.eq_iff_iff,MapKept.bytes_beq];simp
 . cases h
theorem uY:∀ {es:List (CV×HV×Nat)} {l:List MapEntry} {i:Nat} {k:CV} {x:HV} {b:Nat},REnt w F H m es l->es[i]?=some (k,x,b)->∃ e,l[i]?=some e/\RC w F k e.key/\RH w F H m x e.val/\e.born=b:=by
 intro es;induction es with
 | nil=>intro l i k x b _ h;simp at h
 | cons p r ih=>
   intro l i k x b hr h;obtain ⟨k0,x0,b0⟩:=p;obtain ⟨e,l',rfl,h1,h2,h3,h4⟩:=hr;cases i with
   | zero=>simp at h;obtain ⟨rfl,rfl,rfl⟩:=h;exact ⟨e,rfl,h1,h2,h3⟩
   | succ i=>simpa using ih h4 (by simpa using h)
theorem pP:∀ {es:List (CV×HV×Nat)} {l:List MapEntry} {i:Nat} {k0:CV} {x0:HV} {b:Nat} {k:CV} {x:HV} {f:MapEntry->MapEntry},REnt w F H m es l->es[i]?=some (k0,x0,b) ->
 (∀ e,l[i]?=some e->RC w F k (f e).key/\RH w F H m x (f e).val/\(f e).born=e.born)->REnt w F H m (es.set i (k,x,b)) (l.modify i f):=by
 intro es;induction es with
 | nil=>intro l i k0 x0 b k x f _ h;simp at h
 | cons p r ih=>
   intro l i k0 x0 b k x f hr h hf;obtain ⟨k1,x1,b1⟩:=p;obtain ⟨e,l',rfl,h1,h2,h3,h4⟩:=hr;cases i with
   | zero=>
     simp at h;obtain ⟨rfl,rfl,rfl⟩:=h;obtain ⟨q1,q2,q3⟩:=hf e rfl;simp only [List.set_cons_zero,List.modify_zero_cons];exact ⟨f e,l',rfl,q1,q2,q3.trans h3,h4⟩
   | succ i=>
     simp only [List.set_cons_succ,List.modify_succ_cons];exact ⟨e,l'.modify i f,rfl,h1,h2,h3,ih h4 (by simpa using h) (fun e he=>hf e (by simpa using he))⟩
theorem aA:∀ {es:List (CV×HV×Nat)} {l:List MapEntry} {k:CV} {x:HV} {e:MapEntry},REnt w F H m es l->RC w F k e.key->RH w F H m x e.val->REnt w F H m (es++[(k,x,e.born)]) (l++[e]):=by
 intro es;induction es with
 | nil=>intro l k x e h h1 h2;cases h;exact ⟨e,[],rfl,h1,h2,rfl,rfl⟩
 | cons p r ih=>
   intro l k x e h h1 h2;obtain ⟨k1,x1,b1⟩:=p;obtain ⟨e1,l',rfl,q1,q2,q3,q4⟩:=h;exact ⟨e1,l'++[e],rfl,q1,q2,q3,ih q4 h1 h2⟩
theorem iZ:∀ {es:List (CV×HV×Nat)} {l:List MapEntry},REnt w F H m es l->l.length=es.length:=by
 intro es;induction es with
 | nil=>intro l h;cases h;rfl
 | cons p r ih=>
   intro l h;obtain ⟨k1,x1,b1⟩:=p;obtain ⟨e1,l',rfl,q1,q2,q3,q4⟩:=h;simp [ih q4]
theorem bL {d:TypeDesc} {kd:Nat} (hk:S2 d=some kd) {key:CV} {kv:Value} (hkey:RC w F key kv):∀ {es:List (CV×HV×Nat)} {l:List MapEntry} {j:Nat} {r:Option (Nat×HV×Nat)},REnt w F H m es l->J9 kd key es j=some r ->
 match r with
 | none=>Instr.findNow d kv l j=some none
 | some (i,x,b)=>∃ i' k' e,i=j+i'/\es[i']?=some (k',x,b)/\l[i']?=some e/\e.key=kv/\Instr.sameBits 10000 kv kv=true/\Instr.findNow d kv l j=some (some (i,e.val)):=by
 intro es;induction es with
 | nil=>
   intro l j r hr h;cases hr;simp only [J9,Option.some.injEq] at h;subst h;rfl
 | cons p rest ih=>
   intro l j r hr h;obtain ⟨k1,x1,b1⟩:=p;obtain ⟨e,l',rfl,h1,h2,h3,h4⟩:=hr;unfold J9 at h;cases hq:uA kd key k1 with
   | none=>rw [hq] at h;cases h
   | some t=>
     rw [hq] at h;obtain ⟨s1,s2,s3⟩:=oL hk hq hkey h1;cases t with
     | true=>
       dsimp only at h;injection h with h;subst h;exact ⟨0,k1,e,rfl,rfl,rfl,(s2 rfl).symm,s3,by simp [Instr.findNow,s1]⟩
     | false=>
       dsimp only at h;have:=ih (j:=j+1) h4 h;cases r with
       | none=>simpa [Instr.findNow,s1] using this
       | some q=>
         obtain ⟨i,x,b⟩:=q;obtain ⟨i',k',e',q1,q2,q3,q4,q5,q6⟩:=this;exact ⟨i'+1,k',e',by omega,by simpa using q2,by simpa using q3,q4,q5,by simpa [Instr.findNow,s1] using q6⟩
def World.setObj' (w:World) (g:Nat) (o:Obj):World:={ w with heap:=w.heap.setIfInBounds g o }
theorem pZ (g:Nat) (ob:Obj):(World.setObj' w g ob).heap.size=w.heap.size:=by simp [World.setObj']
theorem qK (g b:Nat) (ob:Obj) (h:b≠g):(World.setObj' w g ob).heap[b]?=w.heap[b]?:=by
 simp [World.setObj',Ne.symm h]
theorem z28 {g:Nat} {ob:Obj} (ob':Obj) (h:w.heap[g]?=some ob):(World.setObj' w g ob').heap[g]?=some ob':=by
 have hlt:g<w.heap.size:=(Array.getElem?_eq_some_iff.1 h).1;simp [World.setObj',hlt]
theorem jE (hh:RHeap w F H m) {id ck ck':Nat} {es es':List (CV×HV×Nat)} {l':List MapEntry} (hH:H[id]?=some (.mp es ck)) (hr:REnt w F H m es' l') :
 RHeap (World.setObj' w (m id).blk (.map l'.toArray ck')) F (H.set id (.mp es' ck')) m/\Stp w.heap.size F F H (H.set id (.mp es' ck')) m m w (World.setObj' w (m id).blk (.map l'.toArray ck')):=by
 have hid:=(gEs hH).1;obtain ⟨hnF,l,hl0,_⟩:=hh.mp id es ck hH;have hsame:∀ j,j≠id->(H.set id (.mp es' ck'))[j]?=H[j]?:=fun j hj=>List.getElem?_set_ne (Ne.symm hj);have hself:(H.set id (.mp es' ck'))[id]?=some (.mp es' ck'):=by simp [hid]
 have hg:Grows F F H (H.set id (.mp es' ck')) m m w (World.setObj' w (m id).blk (.map l'.toArray ck')):=by
  refine ⟨Keeps.of (fun _ h=>h) (fun b hb=>qK _ b _ (fun e=>hnF (e▸hb))),?_,?_,?_⟩
  . intro j ek2 cs2 hj;have:j≠id:=by rintro rfl;rw [hH] at hj;cases hj
    exact ⟨rfl,cs2,by rw [hsame j this];exact hj,rfl⟩
  . intro j fz e2 ek2 ver xs hj;have:j≠id:=by rintro rfl;rw [hH] at hj;cases hj
    exact ⟨fz,ver,xs,by rw [hsame j this];exact hj,Nat.le_refl _,fun _=>⟨rfl,rfl⟩⟩
  . intro j es2 ck2 hj;by_cases e2:j=id
    . subst e2;exact ⟨rfl,es',ck',hself⟩
    . exact ⟨rfl,es2,ck2,by rw [hsame j e2];exact hj⟩
 have hblk:∀ j,j≠id->j<H.length->(m j).blk≠(m id).blk:=fun j hj hl he=>hj (hh.inj j id hl hid he);refine ⟨⟨?_,?_,?_,?_,?_,?_,hh.glob.keep hg.keeps,?_⟩,hg,by rw [pZ];exact Nat.le_refl _,rfl,rfl,rfl,?_⟩
 . intro j o' ho';rw [pZ];have hl:j<H.length:=by have:=(gEs ho').1;simpa using this
   exact hh.there j H[j] (gEg hl)
 . intro b hb;rw [pZ];exact hh.fthere b hb
 . intro j ek2 cs2 hj;have e2:j≠id:=by rintro rfl;rw [hself] at hj;cases hj
   rw [hsame j e2] at hj;have hl:=(gEs hj).1;obtain ⟨k1,vs2,e3,k2,k3,k4⟩:=hh.var j ek2 cs2 hj;exact ⟨k1,vs2,e3,(qK _ _ _ (hblk j e2 hl)).trans k2,RHs.grow hg _ _ k3,k4⟩
 . intro j ek2 cs2 T hj hT;have e2:j≠id:=by rintro rfl;rw [hself] at hj;cases hj
   rw [hsame j e2] at hj;have hl:=(gEs hj).1;exact (hh.ty j ek2 cs2 T hj hT).imp fun vs k=>(qK _ _ _ (hblk j e2 hl)).trans k
 . intro j fz e2 ek2 ver xs hj;have e4:j≠id:=by rintro rfl;rw [hself] at hj;cases hj
   rw [hsame j e4] at hj;have hl:=(gEs hj).1;obtain ⟨us,rest,k1,k2,k3,k4,k5,k6,k7⟩:=hh.row j fz e2 ek2 ver xs hj;exact ⟨us,rest,k1.imp fun q k=>⟨(qK _ _ _ (hblk j e4 hl)).trans k.1,k.2⟩,RRow.keep hg.keeps _ _ _ k2,k3,k4,k5,k6,k7⟩
 . intro j es2 ck2 hj;by_cases e2:j=id
   . subst e2;rw [hself] at hj;injection hj with hj;injection hj with z1 z2;subst z1;subst z2;exact ⟨hnF,l',z28 _ hl0,REnt.grow hg _ _ hr⟩
   . rw [hsame j e2] at hj;have hl:=(gEs hj).1;obtain ⟨k1,l2,k2,k3⟩:=hh.mp j es2 ck2 hj;exact ⟨k1,l2,(qK _ _ _ (hblk j e2 hl)).trans k2,REnt.grow hg _ _ k3⟩
 . intro i j hi hj he;rw [List.length_set] at hi hj;exact hh.inj i j hi hj he
 . intro b hb hid';refine ⟨qK _ b _ (fun e2=>hid' id hid e2.symm),fun j hj=>hid' j (by simpa using hj),fun h=>h⟩
theorem sT (hh:RHeap w F H m) {x:HV} {v:Value} {es:List (CV×HV×Nat)} (h:N4 x H=some es) (hv:RH w F H m x v) :
 ∃ l:List MapEntry,REnt w F H m es l/\((v=.map none/\l=[])\/∃ r ck,v=.map (some r)/\w.heap[r]?=some (.map l.toArray ck)):=by
 unfold N4 at h;split at h
 . injection h with h;subst h;rw [rh_c] at hv;unfold RC at hv;exact ⟨[],rfl,.inl ⟨hv,rfl⟩⟩
 . rename_i id;unfold RH at hv;cases hg:H[id]? with
   | none=>rw [hg] at h;cases h
   | some ob=>
     rw [hg] at h;cases ob with
     | mp es0 ck=>
       dsimp only at h;injection h with h;subst h;obtain ⟨h1,l,h2,h3⟩:=hh.mp id _ ck hg;exact ⟨l,h3,.inr ⟨_,ck,hv.1,h2⟩⟩
     | _=>cases h
 . cases h
theorem uJ {t:TypeId} {kd:Nat} {z:HV} (h:mapOf P t=some (kd,z)):∃ kt et d i zv,P.underlying t=some (.map kt et)/\P.underlying kt=some d/\S2 d=some kd/\P.info? et=some i/\i.zero=some zv/\Y8 zv=some z:=by
 unfold mapOf at h;split at h
 . rename_i kt et hu;cases hd:P.underlying kt with
   | none=>rw [hd] at h;simp at h
   | some d=>
     rw [hd] at h;simp only [Option.bind_some] at h;cases hi:P.info? et with
     | none=>simp [zeroOf,hi] at h
     | some i=>
       cases hz:i.zero with
       | none=>simp [zeroOf,hi,hz] at h
       | some zv=>
         simp only [zeroOf,hi,hz,Option.bind_some] at h;split at h
         . rename_i kd' z' h1 h2;injection h with h;injection h with z1 z2;subst z1;subst z2;exact ⟨kt,et,d,i,zv,hu,hd,h1,hi,hz,h2⟩
         . cases h
 . cases h
theorem qG {kt:TypeId} {d:TypeDesc} {k:Value} {l:List MapEntry} {r:Option (Nat×Value)} (hd:P.underlying kt=some d) (h:Instr.findNow d k l 0=some r):(Instr.findKey kt k l).run P w=.ok r w:=MapKept.run_findKey hd h
theorem jU {et:TypeId} {i:TypeInfo} {zv:Value} (hi:P.info? et=some i) (hz:i.zero=some zv):(zeroValue et).run P w=.ok zv w:=by
 simp [zeroValue,typeInfo,hi,hz]
theorem hQ {t:TypeId} {x k:Operand} {ok:Bool} {kd:Nat} {z:HV} {ix ik:Opd} (ho:o.op=.lookup t x k ok) (ht:mapOf P t=some (kd,z)) (hx:j5 x=some ix) (hk:j5 k=some ik) (hs:RS fb N w F H m lb fr a) (hN:∀ d,o.dst=some d->d<N)
 {fr':Fr} {H':q7} (hd:q9 (.mget kd ok z ix ik) o.dst fr H=some (fr',H')) (h:Next fb N w F H m fr' H' K):o.wp P a w K Q:=by
 obtain ⟨kt,et,d,i,zv,hu,hdd,hkd,hi,hz,hzv⟩:=uJ ht;obtain ⟨h1,_⟩:=j9 hs.fr hx;obtain ⟨h2,_⟩:=j9 hs.fr hk;unfold q9 at hd;dsimp only at hd;cases he:N4 (fr.opd ix) H with
 | none=>rw [he] at hd;cases hd
 | some es=>
   rw [he] at hd;cases hkv:fr.opd ik with
   | c key=>
     rw [hkv] at hd h2;rw [rh_c] at h2;dsimp only at hd;obtain ⟨l,hrl,hl⟩:=sT hs.heap he h1;have hget:∀ {r:Option (Nat×Value)},Instr.findNow d (a.eval k) l 0=some r->(Instr.lookup t (a.eval x) (a.eval k) ok).run P w=.ok (let p:=match r with
      | some (_,v)=>(v,true)
      | none=>(zv,false)
      if ok then .tuple #[p.1,.bool p.2] else p.1) w:=by
      intro r hr;rcases hl with ⟨hv,rfl⟩ | ⟨g,ck,hv,hg⟩
      . rw [hv];have hr':=hr;simp only [Instr.findNow,Option.some.injEq] at hr';subst hr';have hf:=qG (w:=w) hdd hr;simp only [Instr.lookup,Sem.run_bind,run_underlying hu,Result.andThen_ok,Sem.run_pure,jM hdd hkd,hf,jU hi hz];try rfl
      . rw [hv];have hf:=qG (w:=w) hdd hr;cases r with
        | none=>
          simp only [Instr.lookup,Sem.run_bind,run_underlying hu,Result.andThen_ok,Sem.run_pure,MapKept.run_getObj_map hg,jM hdd hkd,hf,jU hi hz];try rfl
        | some q=>
          obtain ⟨q1,q2⟩:=q;simp only [Instr.lookup,Sem.run_bind,run_underlying hu,Result.andThen_ok,Sem.run_pure,MapKept.run_getObj_map hg,jM hdd hkd,hf,jU hi hz];try rfl
     cases hf:J9 kd key es 0 with
     | none=>rw [hf] at hd;cases hd
     | some r=>
       rw [hf] at hd;have hfr:=bL hkd h2 hrl hf;cases r with
       | none=>
         dsimp only at hd hfr;injection hd with hd;injection hd with q1 q2;subst q1;subst q2;have hrun:=hget hfr;dsimp only at hrun;obtain ⟨u1,u2⟩:=vX (xB (w:=w) (F:=F) (H:=H) (m:=m) hzv).1;refine x7 hs hN (u:=if ok then .tuple #[zv,.bool false] else zv) ?_ ?_ h ?_
         . cases ok with
           | false=>exact u1
           | true=>
             simp only [if_true];unfold RH;exact ⟨[zv,.bool false],rfl,by unfold RHs;exact ⟨_,_,rfl,u1,by unfold RHs;exact ⟨_,_,rfl,by rw [rh_c,rc_bool],by unfold RHs;rfl⟩⟩⟩
         . cases ok with
           | false=>exact u2
           | true=>intro _ _ q;cases q
         . simp only [execOp,ho,Sem.run_bind,hrun,Result.andThen_ok,Sem.run_pure]
       | some q=>
         obtain ⟨j,xv,b⟩:=q;dsimp only at hd hfr;injection hd with hd;injection hd with q1 q2;subst q1;subst q2;obtain ⟨i',k',e,_,g2,g3,g4,_,g6⟩:=hfr;have hrun:=hget g6;dsimp only at hrun;obtain ⟨e',g7,g8,g9,g10⟩:=uY hrl g2;rw [g3] at g7;injection g7 with g7;subst g7;obtain ⟨u1,u2⟩:=vX g9;refine x7 hs hN (u:=if ok then .tuple #[e.val,.bool true] else e.val) ?_ ?_ h ?_
         . cases ok with
           | false=>exact u1
           | true=>
             simp only [if_true];unfold RH;exact ⟨[e.val,.bool true],rfl,by unfold RHs;exact ⟨_,_,rfl,u1,by unfold RHs;exact ⟨_,_,rfl,by rw [rh_c,rc_bool],by unfold RHs;rfl⟩⟩⟩
         . cases ok with
           | false=>exact u2
           | true=>intro _ _ q;cases q
         . simp only [execOp,ho,Sem.run_bind,hrun,Result.andThen_ok,Sem.run_pure]
   | _=>rw [hkv] at hd;cases hd
theorem jN {g:Nat} {es:Array MapEntry} {ck:Nat} (ob:Obj) (h:w.heap[g]?=some (.map es ck)):(setObj g ob).run P w=.ok () (World.setObj' w g ob):=MapKept.run_setObj_map ob h
theorem tL {kv:Value} (h:Instr.sameBits 10000 kv kv=true):(Instr.keyThatStays kv kv).run P w=.ok kv w:=by
 simp [Instr.keyThatStays,h]
theorem uF (l:List MapEntry) (i:Nat) (f:MapEntry->MapEntry):l.toArray.modify i f=(l.modify i f).toArray:=by
 apply Array.ext';simp
theorem nB (l:List MapEntry) (e:MapEntry):l.toArray.push e=(l++[e]).toArray:=by simp
theorem fF (l:List MapEntry) (i:Nat):l.toArray[i]?=l[i]?:=by simp
theorem kY {w':World} {s:Sem Unit} (hr:execOp a.eval o=(do s;pure .skip:Sem Go.Next)) (hdst:o.dst=none) (hs:s.run P w=.ok () w') (hK:K a w'):o.wp P a w K Q:=by
 unfold Oper.wp;rw [hr];simp only [Sem.run_bind,hs,Result.andThen_ok,Sem.run_pure];show K (a.put o.dst undef) w';rw [hdst];exact hK
theorem nA {t:TypeId} {x k v:Operand} {kd:Nat} {z:HV} {ix ik iv:Opd} (ho:o.op=.mapUpdate t x k v\/o.op=.insert t x k v) (ht:mapOf P t=some (kd,z)) (hdst:o.dst=none) (hx:j5 x=some ix) (hk:j5 k=some ik) (hv:j5 v=some iv) (hs:RS fb N w F H m lb fr a)
 {fr':Fr} {H':q7} (hd:q9 (.mset kd ix ik iv) o.dst fr H=some (fr',H')) (h:Next fb N w F H m fr' H' K):o.wp P a w K Q:=by
 obtain ⟨kt,et,d,i,zv,hu,hdd,hkd,hi,hz,hzv⟩:=uJ ht;obtain ⟨h1,_⟩:=j9 hs.fr hx;obtain ⟨h2,_⟩:=j9 hs.fr hk;obtain ⟨h3,_⟩:=j9 hs.fr hv;have hex:execOp a.eval o=(do Instr.mapUpdate t (a.eval x) (a.eval k) (a.eval v);pure .skip:Sem Go.Next):=by
  rcases ho with ho | ho<;>simp only [execOp,ho]
 unfold q9 at hd;dsimp only at hd;rw [hdst] at hd;split at hd
 . rename_i id key _ hxx hkk;rw [hxx] at h1;rw [hkk,rh_c] at h2;unfold RH at h1;cases hg:H[id]? with
   | none=>rw [hg] at hd;cases hd
   | some ob=>
     rw [hg] at hd;cases ob with
     | mp es ck=>
       dsimp only at hd;obtain ⟨k1,l,k2,k3⟩:=hs.heap.mp id _ ck hg;have hck:=jM (P:=P) (w:=w) (v:=a.eval k) hdd hkd false 9999;cases hf:J9 kd key es 0 with
       | none=>rw [hf] at hd;cases hd
       | some r=>
         rw [hf] at hd;have hfr:=bL hkd h2 k3 hf;cases r with
         | none=>
           dsimp only at hd hfr;injection hd with hd;injection hd with q1 q2;subst q1;subst q2;obtain ⟨r1,r2⟩:=jE hs.heap (ck':=ck+1) hg (aA (e:={ key:=a.eval k,val:=a.eval v,born:=ck }) k3 h2 h3);refine kY (s:=Instr.mapUpdate t (a.eval x) (a.eval k) (a.eval v)) hex hdst (w':=World.setObj' w (m id).blk (.map (l++[({ key:=a.eval k,val:=a.eval v,born:=ck }:MapEntry)]).toArray (ck+1))) ?_ (h F m lb a _ (r2.mono hs.fb) ⟨r1,hs.fr.step r2,Nat.le_trans hs.fb r2.size⟩);rw [h1.1];simp only [Instr.mapUpdate,Sem.run_bind,run_underlying hu,Result.andThen_ok,Sem.run_pure,MapKept.run_getObj_map k2,hck,qG hdd hfr,jN _ k2,nB]
         | some q=>
           obtain ⟨j,xv,b⟩:=q;dsimp only at hd hfr;injection hd with hd;injection hd with q1 q2;subst q1;subst q2;obtain ⟨i',k',e,g1,g2,g3,g4,g5,g6⟩:=hfr;have g1:j=i':=by omega
           subst g1;obtain ⟨r1,r2⟩:=jE hs.heap (ck':=ck) hg (pP (k:=key) (x:=fr.opd iv) (f:=fun e=>{ e with key:=a.eval k,val:=a.eval v }) k3 g2 (fun e he=>⟨h2,h3,rfl⟩));refine kY (s:=Instr.mapUpdate t (a.eval x) (a.eval k) (a.eval v)) hex hdst (w':=World.setObj' w (m id).blk (.map (l.modify j fun e=>{ e with key:=a.eval k,val:=a.eval v }).toArray ck)) ?_ (h F m lb a _ (r2.mono hs.fb) ⟨r1,hs.fr.step r2,Nat.le_trans hs.fb r2.size⟩);rw [h1.1];simp only [Instr.mapUpdate,Sem.run_bind,run_underlying hu,Result.andThen_ok,Sem.run_pure,MapKept.run_getObj_map k2,hck,qG hdd g6,fF,g3,Option.map_some,Option.getD_some,g4,tL g5,jN _ k2,uF]
     | _=>cases hd
 . cases hd
theorem zz7 {t:TypeId} {x k:Operand} {kd:Nat} {z:HV} {ix ik:Opd} (ho:o.op=.mapEntry t x k) (ht:mapOf P t=some (kd,z)) (hx:j5 x=some ix) (hk:j5 k=some ik) (hs:RS fb N w F H m lb fr a) (hN:∀ d,o.dst=some d->d<N)
 {fr':Fr} {H':q7} (hd:q9 (.ment kd z ix ik) o.dst fr H=some (fr',H')) (h:Next fb N w F H m fr' H' K):o.wp P a w K Q:=by
 obtain ⟨kt,et,d,i,zv,hu,hdd,hkd,hi,hz,hzv⟩:=uJ ht;obtain ⟨h1,_⟩:=j9 hs.fr hx;obtain ⟨h2,_⟩:=j9 hs.fr hk;unfold q9 at hd;dsimp only at hd;split at hd
 . rename_i id key hxx hkk;rw [hxx] at h1;rw [hkk,rh_c] at h2;unfold RH at h1;cases hg:H[id]? with
   | none=>rw [hg] at hd;cases hd
   | some ob=>
     rw [hg] at hd;cases ob with
     | mp es ck=>
       dsimp only at hd;obtain ⟨k1,l,k2,k3⟩:=hs.heap.mp id _ ck hg;have hck:=jM (P:=P) (w:=w) (v:=a.eval k) hdd hkd false 9999;cases hf:J9 kd key es 0 with
       | none=>rw [hf] at hd;cases hd
       | some r=>
         rw [hf] at hd;have hfr:=bL hkd h2 k3 hf;have htup:∀ {w':World} {H2:q7} {xv:HV} {vv:Value} {n:Nat},RH w' F H2 m xv vv->RH w' F H2 m (.tup [xv,.c (.int .i64 n)]) (.tuple #[vv,goInt n]):=by
          intro w' H2 xv vv n hq;unfold RH;exact ⟨[vv,goInt n],rfl,by unfold RHs;exact ⟨_,_,rfl,hq,by unfold RHs;exact ⟨_,_,rfl,by rw [rh_c,m7];rfl,by unfold RHs;rfl⟩⟩⟩
         cases r with
         | none=>
           dsimp only at hd hfr;injection hd with hd;injection hd with q1 q2;subst q1;subst q2;obtain ⟨u1,u2⟩:=vX (xB (w:=w) (F:=F) (H:=H) (m:=m) hzv).1;obtain ⟨r1,r2⟩:=jE hs.heap (ck':=ck+1) hg (aA (e:={ key:=a.eval k,val:=zv,born:=ck }) k3 h2 u1);refine O4 hs hN r2 r1 (u:=.tuple #[zv,goInt ck]) (htup (RH.grow r2.g _ _ u1)) (by simp) h ?_;simp only [execOp,ho];rw [h1.1];simp only [Instr.mapEntry,Sem.run_bind,run_underlying hu,Result.andThen_ok,Sem.run_pure,MapKept.run_getObj_map k2,hck,qG hdd hfr,jU hi hz,jN _ k2,nB]
         | some q=>
           obtain ⟨j,xv,b⟩:=q;dsimp only at hd hfr;injection hd with hd;injection hd with q1 q2;subst q1;subst q2;obtain ⟨i',k',e,g1,g2,g3,g4,g5,g6⟩:=hfr;have g1:j=i':=by omega
           subst g1;obtain ⟨e',g7,g8,g9,g10⟩:=uY k3 g2;rw [g3] at g7;injection g7 with g7;subst g7;obtain ⟨u1,u2⟩:=vX g9;obtain ⟨r1,r2⟩:=jE hs.heap (ck':=ck) hg (pP (k:=key) (x:=r7 xv) (f:=fun e=>{ e with key:=a.eval k }) k3 g2 (fun e0 he=>by
            rw [g3] at he;injection he with he;subst he;exact ⟨h2,u1,rfl⟩))
           refine O4 hs hN r2 r1 (u:=.tuple #[e.val,goInt b]) (htup (RH.grow r2.g _ _ u1)) (by simp) h ?_;simp only [execOp,ho];rw [h1.1];simp only [Instr.mapEntry,Sem.run_bind,run_underlying hu,Result.andThen_ok,Sem.run_pure,MapKept.run_getObj_map k2,hck,qG hdd g6,fF,g3,Option.map_some,Option.getD_some,g4,g10,tL g5,jN _ k2,uF]
     | _=>cases hd
 . cases hd
theorem z81 {n:Int}:∀ {es:List (CV×HV×Nat)} {l:List MapEntry} {j i:Nat} {k:CV} {b:Nat},REnt w F H m es l->X3 n es j=some (i,k,b) ->
 ∃ i' x e,i=j+i'/\es[i']?=some (k,x,b)/\l[i']?=some e/\l.findIdx? (fun e=>(e.born:Int)==n)=some i':=by
 intro es;induction es with
 | nil=>intro l j i k b _ h;simp [X3] at h
 | cons p r ih=>
   intro l j i k b hr h;obtain ⟨k1,x1,b1⟩:=p;obtain ⟨e,l',rfl,h1,h2,h3,h4⟩:=hr;unfold X3 at h;split at h
   . rename_i hb;injection h with h;injection h with z1 z2;injection z2 with z2 z3;subst z1;subst z2;subst z3;exact ⟨0,x1,e,rfl,rfl,rfl,by simp [List.findIdx?_cons,h3,hb]⟩
   . rename_i hb;obtain ⟨i',x,e',q1,q2,q3,q4⟩:=ih (j:=j+1) h4 h;exact ⟨i'+1,x,e',by omega,by simpa using q2,by simpa using q3,by simp [List.findIdx?_cons,h3,hb,q4]⟩
theorem zo7 {t:TypeId} {x s v:Operand} {ix is iv:Opd} (ho:o.op=.entryStore t x s v) (hdst:o.dst=none) (hx:j5 x=some ix) (hsx:j5 s=some is) (hv:j5 v=some iv) (hs:RS fb N w F H m lb fr a)
 {fr':Fr} {H':q7} (hd:q9 (.msto ix is iv) o.dst fr H=some (fr',H')) (h:Next fb N w F H m fr' H' K):o.wp P a w K Q:=by
 obtain ⟨h1,_⟩:=j9 hs.fr hx;obtain ⟨h2,_⟩:=j9 hs.fr hsx;obtain ⟨h3,_⟩:=j9 hs.fr hv;unfold q9 at hd;dsimp only at hd;rw [hdst] at hd;split at hd
 . rename_i id kk n _ hxx hkk;rw [hxx] at h1;rw [hkk,rh_c,m7] at h2;unfold RH at h1;cases hg:H[id]? with
   | none=>rw [hg] at hd;cases hd
   | some ob=>
     rw [hg] at hd;cases ob with
     | mp es ck=>
       dsimp only at hd;obtain ⟨k1,l,k2,k3⟩:=hs.heap.mp id _ ck hg;cases hf:X3 n es 0 with
       | none=>rw [hf] at hd;cases hd
       | some r=>
         obtain ⟨j,k,b⟩:=r;rw [hf] at hd;dsimp only at hd;injection hd with hd;injection hd with q1 q2;subst q1;subst q2;obtain ⟨i',x0,e,g1,g2,g3,g4⟩:=z81 k3 hf;have g1:j=i':=by omega
         subst g1;obtain ⟨e',g7,g8,g9,g10⟩:=uY k3 g2;rw [g3] at g7;injection g7 with g7;subst g7;obtain ⟨r1,r2⟩:=jE hs.heap (ck':=ck) hg (pP (k:=k) (x:=fr.opd iv) (f:=fun e=>{ e with val:=a.eval v }) k3 g2 (fun e0 he=>by
          rw [g3] at he;injection he with he;subst he;exact ⟨g8,h3,rfl⟩))
         refine kY (s:=Instr.entryStore t (a.eval x) (a.eval s) (a.eval v)) (by simp only [execOp,ho]) hdst (w':=World.setObj' w (m id).blk (.map (l.modify j fun e=>{ e with val:=a.eval v }).toArray ck)) ?_ (h F m lb a _ (r2.mono hs.fb) ⟨r1,hs.fr.step r2,Nat.le_trans hs.fb r2.size⟩);rw [h1.1,h2];have g4':l.toArray.findIdx? (fun e=>(e.born:Int)==n)=some j:=by simpa using g4
         simp only [Instr.entryStore,Sem.run_bind,asInt,asIntOf,Result.andThen_ok,Sem.run_pure,MapKept.run_getObj_map k2,g4',jN _ k2,uF]
     | _=>cases hd
 . cases hd
theorem z93 {t:TypeId} {kt et:TypeId} {x:Operand} {ix:Opd} (ho:o.op=.call { callee:=.builtin .len,args:=#[x],argTypes:=#[t] }) (hu:P.underlying t=some (.map kt et)) (hx:j5 x=some ix) (hs:RS fb N w F H m lb fr a) (hN:∀ d,o.dst=some d->d<N)
 {fr':Fr} {H':q7} (hd:q9 (.mlen ix) o.dst fr H=some (fr',H')) (h:Next fb N w F H m fr' H' K):o.wp P a w K Q:=by
 obtain ⟨h1,_⟩:=j9 hs.fr hx;unfold q9 at hd;dsimp only at hd;cases he:N4 (fr.opd ix) H with
 | none=>rw [he] at hd;cases hd
 | some es=>
   rw [he] at hd;dsimp only at hd;injection hd with hd;injection hd with q1 q2;subst q1;subst q2;obtain ⟨l,hrl,hl⟩:=sT hs.heap he h1;have hlen:=iZ hrl;refine x7 hs hN (u:=.int .i64 es.length) (by rw [rh_c,m7]) (by simp) h ?_;rcases hl with ⟨hv,rfl⟩ | ⟨g,ck,hv,hg⟩
   . have:es.length=0:=by simpa using hlen.symm
     simp [execOp,ho,resolve,invoke,builtin,Builtin.len_,run_underlying hu,hv,this,goInt]
   . simp [execOp,ho,resolve,invoke,builtin,Builtin.len_,run_underlying hu,hv,MapKept.run_getObj_map hg,goInt,hlen]
theorem zt4 {isMax:Bool} {k:IntKind}:∀ {ys:List HV} {vs:List Value} {p r:Int},mxL isMax p ys=some r->RHs w F H m ys vs->(vs.foldlM (if isMax then Builtin.max2 else Builtin.min2) (.int k p)).run P w=.ok (.int k r) w:=by
 intro ys;induction ys with
 | nil=>
   intro vs p r h hr;unfold RHs at hr;subst hr;simp only [mxL,Option.some.injEq] at h;subst h;simp
 | cons y ys ih=>
   intro vs p r h hr;unfold RHs at hr;obtain ⟨v,us,rfl,h1,h2⟩:=hr;cases y with
   | c yv=>
     cases yv with
     | int k' q=>
       simp only [mxL] at h;rw [rh_c,m7] at h1;subst h1;have:=ih h h2;cases isMax with
       | true=>
         have e:(if q > p then q else p)=max p q:=by split<;>omega
         simp only [if_true] at this ⊢;simp only [List.foldlM_cons,Sem.run_bind,Builtin.max2,Sem.run_pure,Result.andThen_ok,e];exact this
       | false=>
         have e:(if q<p then q else p)=min p q:=by split<;>omega
         simp only [Bool.false_eq_true,if_false] at this ⊢;simp only [List.foldlM_cons,Sem.run_bind,Builtin.min2,Sem.run_pure,Result.andThen_ok,e];exact this
     | _=>simp [mxL] at h
   | _=>simp [mxL] at h
theorem nI {isMax:Bool} {ts:Array TypeId} {x:Operand} {ys:List Operand} {ix:Opd} {iys:List Opd} (ho:o.op=.call { callee:=.builtin (if isMax then .max else .min),args:=(x::ys).toArray,argTypes:=ts }) (hx:j5 x=some ix) (hy:G2 ys=some iys) (hs:RS fb N w F H m lb fr a) (hN:∀ d,o.dst=some d->d<N)
 {fr':Fr} {H':q7} (hd:q9 (.mxs isMax ix iys) o.dst fr H=some (fr',H')) (h:Next fb N w F H m fr' H' K):o.wp P a w K Q:=by
 unfold q9 at hd;dsimp only at hd;obtain ⟨h1,_⟩:=j9 hs.fr hx;have h2:=jY hs.fr hy;split at hd
 . rename_i k p e1;rw [e1,rh_c,m7] at h1;cases hm:mxL isMax p (iys.map fr.opd) with
   | none=>rw [hm] at hd;cases hd
   | some r=>
     rw [hm] at hd;dsimp only at hd;injection hd with hd;injection hd with q1 q2;subst q1;subst q2;refine x7 hs hN (u:=.int k r) (by rw [rh_c,m7]) (by simp) h ?_;have hr:=zt4 (P:=P) (k:=k) hm h2;cases isMax with
     | true=>
       simp only [if_true] at hr;simp [execOp,ho,h1,resolve,invoke,builtin,Sem.run_bind,Builtin.max_,hr]
     | false=>
       simp only [Bool.false_eq_true,if_false] at hr;simp [execOp,ho,h1,resolve,invoke,builtin,Sem.run_bind,Builtin.min_,hr]
 . cases hd
theorem z85 {t e:TypeId} {n:Nat} {parts:Array (Nat×Operand)} {z:List HV} {ek:Option Nat} {ips:List (Nat×Nat×Opd)} (ho:o.op=.build t parts) (hu:P.underlying t=some (.array n e)) (he:x5 P e=some ek) (hz:(zeroOf P t).bind (fun z=>Q0 z.cells.toList)=some z)
 (hp:partsOf (fun i=>some (i * j0 ek,j0 ek)) parts.toList=some ips) (hs:RS fb N w F H m lb fr a) (hN:∀ d,o.dst=some d->d<N)
 {fr':Fr} {H':q7} (hd:q9 (.build z ips) o.dst fr H=some (fr',H')) (h:Next fb N w F H m fr' H' K):o.wp P a w K Q:=by
 unfold q9 at hd;dsimp only at hd;cases hf:P4 z (ips.map fun p=>(p.1,p.2.1,fr.opd p.2.2)) with
 | none=>rw [hf] at hd;cases hd
 | some cs=>
   rw [hf] at hd;injection hd with hd;injection hd with q1 q2;subst q1;subst q2;cases hit:P.info? t with
   | none=>simp [zeroOf,hit] at hz
   | some it=>
     cases hzz:it.zero with
     | none=>simp [zeroOf,hit,hzz] at hz
     | some zv=>
       simp only [zeroOf,hit,hzz,Option.bind_some] at hz;obtain ⟨hr,hone⟩:=uT (w:=w) (F:=F) (H:=H) (m:=m) hz;obtain ⟨us,k1,k2,k3⟩:=dS (fun i=>some (i * j0 ek,j0 ek)) hs.fr hp hr hone hf;refine x7 hs hN (jI k2 k3) (vB _) h ?_;have hm:(parts.map fun (i,x)=>(i,a.eval x)).toList=parts.toList.map fun (i,x)=>(i,a.eval x):=by simp
       have hc:zv.cells.toList.toArray=zv.cells:=by simp
       rw [hc] at k1;simp only [execOp,ho,Instr.build,Sem.run_bind,jU hit hzz,run_underlying hu,run_sizeOf he,Result.andThen_ok,Sem.run_pure,hm,k1]
theorem za8 {t e:TypeId} {n:Nat} {x i:Operand} {ek:Option Nat} {ix ii:Opd} (ho:o.op=.index t x i) (hu:P.underlying t=some (.array n e)) (he:x5 P e=some ek) (hx:j5 x=some ix) (hi:j5 i=some ii)
 (hs:RS fb N w F H m lb fr a) (hN:∀ d,o.dst=some d->d<N)
 {fr':Fr} {H':q7} (hd:q9 (.aix ek n ix ii) o.dst fr H=some (fr',H')) (h:Next fb N w F H m fr' H' K):o.wp P a w K Q:=by
 unfold q9 at hd;dsimp only at hd;obtain ⟨h1,_⟩:=j9 hs.fr hx;obtain ⟨h2,_⟩:=j9 hs.fr hi;cases ha:J7 (fr.opd ix) with
 | none=>rw [ha] at hd;cases hd
 | some cs=>
   cases hj:K8 (fr.opd ii) with
   | none=>rw [ha,hj] at hd;cases hd
   | some j=>
     rw [ha,hj] at hd;dsimp only at hd;split at hd
     . rename_i hjn;cases hp:D1 ek cs (j.toNat * j0 ek) with
       | none=>rw [hp] at hd;cases hd
       | some y=>
         rw [hp] at hd;injection hd with hd;injection hd with q1 q2;subst q1;subst q2;obtain ⟨vs,e1,h2',h3⟩:=nH ha h1;obtain ⟨u,h4,h5,h6,h7⟩:=yJ h2' h3 hp;obtain ⟨k,hk⟩:=wX hj h2;refine x7 hs hN h4 h7 h ?_;simp only [execOp,ho,e1,hk,Instr.index,Sem.run_bind,asIntOf,run_underlying hu,run_sizeOf he,Result.andThen_ok,Sem.run_pure,if_pos hjn,aC he h5 h6]
     . cases hd
end
end Go.Proofs.Lz
