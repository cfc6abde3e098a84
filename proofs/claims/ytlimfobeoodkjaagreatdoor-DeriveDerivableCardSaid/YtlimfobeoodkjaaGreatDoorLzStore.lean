/- Stores; values closed for good. -/
import Derived.Test.YtlimfobeoodkjaaGreatDoorLzMem
set_option linter.unusedVariables false
set_option linter.unusedSimpArgs false
set_option linter.unusedSectionVars false
namespace Go.Proofs.Lz
variable [GlobTab]
section
variable {P:Program} {fb N:Nat} {w:World} {F:Nat->Prop} {H:q7} {m:j7} {lb:Nat->Nat} {fr:Fr} {a:Act} {o:Oper}
variable {K:Act->World->Prop} {Q:Exit->Act->World->Prop}
def putCells (cur:List Value) (off:Nat) (new:List Value):List Value:=cur.take off++new++cur.drop (off+new.length)
theorem xR {t:TypeId} {ek:Option Nat} (he:x5 P t=some ek) {g e off:Nat} {cur:List Value} (hg:w.heap[g]?=some (.cells cur.toArray e (0,0))) {v:Value} (hs:Shape ek v) (h1:∀ u∈v.cells.toList,u.oneCell'=true) (hle:off+v.cells.toList.length<=cur.length) :
 (Instr.storeAt t (.pointer (some ⟨g,off,none⟩)) v).run P w=.ok () (w.setRow g (putCells cur off v.cells.toList).toArray):=by
 have hsz:=run_sizeOf (w:=w) he;have hl:v.cells.size=j0 ek:=by simpa using E6 hs
 have:=run_storeCells_at P g off e v.cells.toList 0 cur.toArray w hg (by simpa using hle) h1;simp only [Instr.storeAt,Instr.sureAddr,Sem.run_bind,Sem.run_pure,Result.andThen_ok,storeVar,hsz,hl,ne_eq,not_true_eq_false,if_false];simpa [putCells] using this
theorem setRow_size (g:Nat) (cs:Array Value):(w.setRow g cs).heap.size=w.heap.size:=by simp [World.setRow]
theorem gV {g:Nat} (hg:¬ F g) (cs:Array Value):Keeps F F w (w.setRow g cs):=Keeps.of (fun _ h=>h) (fun b hb=>setRow_other w g b cs (fun e=>hg (e▸hb)))
theorem z52 {g fb':Nat} (hg:¬ F g) (hfb:fb'<=g\/∃ id,id<H.length/\(m id).blk=g) (cs:Array Value):Stp fb' F F H H m m w (w.setRow g cs):=by
 refine ⟨⟨gV hg cs,fun _ _ cs h=>⟨rfl,cs,h,rfl⟩,fun _ fz e ek ver xs h=>⟨fz,ver,xs,h,Nat.le_refl _,fun _=>⟨rfl,rfl⟩⟩,fun _ es ck h=>⟨rfl,es,ck,h⟩⟩,by rw [setRow_size];exact Nat.le_refl _,rfl,rfl,rfl,?_⟩;intro b hb hid;refine ⟨setRow_other w g b cs ?_,hid,id⟩;rintro rfl;rcases hfb with h | ⟨id,h1,h2⟩
 . omega
 . exact hid id h1 h2
theorem aT (hs:RS fb N w F H m lb fr a) {b:Nat} {ek':Option Nat} {x0 x1:HV} (hb:fr.env b=.lbox ek' x0) {cs:Array Value} {cur:Array Value} {e':Nat} (hcur:w.heap[lb b]?=some (.cells cur e' (0,0)))
 {v':Value} (hcs:cs=v'.cells) (hsh:Shape ek' v') (hft:s5 ek' x1=true) (hx:RH w F H m x1 v') :
 RS fb N (w.setRow (lb b) cs) F H m lb { fr with env:=upd fr.env b (.lbox ek' x1) } a/\Stp fb F F H H m m w (w.setRow (lb b) cs):=by
 obtain ⟨h1,h2,h3,h4,h5,h6,_⟩:=hs.fr.box b ek' x0 hb;have hst:Stp fb F F H H m m w (w.setRow (lb b) cs):=z52 h4 (.inl h2) cs;have hne:∀ id,id<H.length->(m id).blk≠lb b:=h5;refine ⟨⟨?_,?_,Nat.le_trans hs.fb hst.size⟩,hst⟩
 . exact hs.heap.same hst.g (fun _ _=>rfl) (fun id hid=>setRow_other w (lb b) _ cs (hne id hid)) hst.size (fun _ h=>.inl h)
 . refine ⟨hs.fr.size,hs.fr.defers,?_,?_,?_⟩
   . intro t ht;by_cases et:t=b
     . subst et;exact absurd (by simp [upd]) (ht ek' x1)
     . have e3:upd fr.env b (.lbox ek' x1) t=fr.env t:=by simp [upd,et]
       simp only [e3] at ht ⊢;exact RH.grow hst.g _ _ (hs.fr.val t ht)
   . intro t ek x hx';by_cases et:t=b
     . subst et;simp [upd] at hx';obtain ⟨z1,z2⟩:=hx';subst z1;subst z2;refine ⟨h1,h2,by rw [setRow_size];exact h3,h4,h5,?_,hft,v',e',?_,hsh,RH.grow hst.g _ _ hx⟩
       . intro t' ek'' x'' hx'' hl;by_cases et':t'=t
         . exact et'
         . simp [upd,et'] at hx'';exact h6 t' ek'' x'' hx'' hl
       . rw [<-hcs];exact setRow_heap w (lb t) cur cs e' (0,0) hcur
     . simp [upd,et] at hx';obtain ⟨k1,k2,k3,k4,k5,k6,k7,v,e2,k8,k9,k10⟩:=hs.fr.box t ek x hx';have hlb:lb t≠lb b:=fun hl=>et (h6 t ek x hx' hl);refine ⟨k1,k2,by rw [setRow_size];exact k3,k4,k5,?_,k7,v,e2,(setRow_other w (lb b) (lb t) cs hlb).trans k8,k9,RH.grow hst.g _ _ k10⟩;intro t' ek'' x'' hx'' hl;by_cases et':t'=b
       . rw [et'] at hl;exact absurd hl.symm hlb
       . simp [upd,et'] at hx'';exact k6 t' ek'' x'' hx'' hl
   . intro t b' off hl ek x hx';by_cases et:b'=b
     . rw [et];exact hs.fr.link t b off (et▸hl) ek' x0 hb
     . simp [upd,et] at hx';exact hs.fr.link t b' off hl ek x hx'
theorem bQ {cur new:List Value} {off:Nat} {u:Value} (h:u∈putCells cur off new):u∈cur\/u∈new:=by
 unfold putCells at h;simp only [List.mem_append] at h;rcases h with (h | h) | h
 . exact .inl (List.mem_of_mem_take h)
 . exact .inr h
 . exact .inl (List.mem_of_mem_drop h)
theorem vI {cur new:List Value} {off:Nat} (h:off+new.length<=cur.length):(putCells cur off new).length=cur.length:=by
 simp only [putCells,List.length_append,List.length_take,List.length_drop];omega
theorem zj7 (hh:RHeap w F H m) {id e:Nat} {ek:Option Nat} {cs cs':List HV} {vs vs':List Value} (hH:H[id]?=some (.var ek cs)) (hcur:w.heap[(m id).blk]?=some (.cells vs.toArray e (0,0))) (hlen:cs'.length=cs.length)
 (hr:RHs w F H m cs' vs') (h1:∀ u∈vs',u.oneCell'=true):RHeap (w.setRow (m id).blk vs'.toArray) F (H.set id (.var ek cs')) m/\Stp w.heap.size F F H (H.set id (.var ek cs')) m m w (w.setRow (m id).blk vs'.toArray):=by
 have hid:=(gEs hH).1;obtain ⟨hnF,_⟩:=hh.var id ek cs hH;have hsame:∀ j,j≠id->(H.set id (.var ek cs'))[j]?=H[j]?:=fun j hj=>List.getElem?_set_ne (Ne.symm hj);have hself:(H.set id (.var ek cs'))[id]?=some (.var ek cs'):=by simp [hid]
 have hg:Grows F F H (H.set id (.var ek cs')) m m w (w.setRow (m id).blk vs'.toArray):=by
  refine ⟨gV hnF _,?_,?_,?_⟩
  . intro j ek2 cs2 hj;by_cases e2:j=id
    . subst e2;rw [hH] at hj;injection hj with hj;injection hj with z1 z2;subst z1;subst z2;exact ⟨rfl,cs',hself,hlen⟩
    . exact ⟨rfl,cs2,by rw [hsame j e2];exact hj,rfl⟩
  . intro j fz e2 ek2 ver xs hj;have:j≠id:=by rintro rfl;rw [hH] at hj;cases hj
    exact ⟨fz,ver,xs,by rw [hsame j this];exact hj,Nat.le_refl _,fun _=>⟨rfl,rfl⟩⟩
  . intro j es ck hj;have:j≠id:=by rintro rfl;rw [hH] at hj;cases hj
    exact ⟨rfl,es,ck,by rw [hsame j this];exact hj⟩
 have hblk:∀ j,j≠id->j<H.length->(m j).blk≠(m id).blk:=fun j hj hl he=>hj (hh.inj j id hl hid he);refine ⟨⟨?_,?_,?_,?_,?_,?_,hh.glob.keep hg.keeps,?_⟩,hg,by rw [setRow_size];exact Nat.le_refl _,rfl,rfl,rfl,?_⟩
 . intro j o' ho';rw [setRow_size];have hl:j<H.length:=by have:=(gEs ho').1;simpa using this
   exact hh.there j H[j] (gEg hl)
 . intro b hb;rw [setRow_size];exact hh.fthere b hb
 . intro j ek2 cs2 hj;by_cases e2:j=id
   . subst e2;rw [hself] at hj;injection hj with hj;injection hj with z1 z2;subst z1;subst z2;exact ⟨hnF,vs',e,setRow_heap w _ _ _ e (0,0) hcur,RHs.grow hg _ _ hr,h1⟩
   . rw [hsame j e2] at hj;have hl:=(gEs hj).1;obtain ⟨k1,vs2,e3,k2,k3,k4⟩:=hh.var j ek2 cs2 hj;exact ⟨k1,vs2,e3,(setRow_other w _ _ _ (hblk j e2 hl)).trans k2,RHs.grow hg _ _ k3,k4⟩
 . intro j ek2 cs2 T hj hT;by_cases e2:j=id
   . subst e2;rw [hself] at hj;injection hj with hj;injection hj with z1 z2;subst z1;subst z2;obtain ⟨_,k⟩:=hh.ty j ek cs T hH hT;rw [hcur] at k;injection k with k;injection k with _ k _;subst k;exact ⟨_,setRow_heap w _ _ _ e (0,0) hcur⟩
   . rw [hsame j e2] at hj;have hl:=(gEs hj).1;exact (hh.ty j ek2 cs2 T hj hT).imp fun vs k=>(setRow_other w _ _ _ (hblk j e2 hl)).trans k
 . intro j fz e2 ek2 ver xs hj;have e4:j≠id:=by rintro rfl;rw [hself] at hj;cases hj
   rw [hsame j e4] at hj;have hl:=(gEs hj).1;obtain ⟨us,rest,k1,k2,k3,k4,k5,k6,k7⟩:=hh.row j fz e2 ek2 ver xs hj;exact ⟨us,rest,k1.imp fun q k=>⟨(setRow_other w _ _ _ (hblk j e4 hl)).trans k.1,k.2⟩,RRow.keep hg.keeps _ _ _ k2,k3,k4,k5,k6,k7⟩
 . intro j es ck hj;have e4:j≠id:=by rintro rfl;rw [hself] at hj;cases hj
   rw [hsame j e4] at hj;have hl:=(gEs hj).1;obtain ⟨k1,l,k2,k3⟩:=hh.mp j es ck hj;exact ⟨k1,l,(setRow_other w _ _ _ (hblk j e4 hl)).trans k2,REnt.grow hg _ _ k3⟩
 . intro i j hi hj he;rw [List.length_set] at hi hj;exact hh.inj i j hi hj he
 . intro b hb hid';refine ⟨setRow_other w _ b _ (fun e2=>hid' id hid e2.symm),fun j hj=>hid' j (by simpa using hj),fun h=>h⟩
def wS (H:q7) (m:j7) (b:Nat):Prop:=∃ id e ek ver xs,H[id]?=some (.row true e ek ver xs)/\(m id).blk=b
structure Frzs (H H':q7):Prop where
 len:H'.length=H.length
 var:∀ (id:Nat) (ek:Option Nat) (cs:List HV),H[id]?=some (.var ek cs)↔H'[id]?=some (.var ek cs)
 row:∀ (id:Nat) (fz:Bool) (e:Nat) (ek:Option Nat) (ver:Nat) (xs:List CV),H[id]?=some (.row fz e ek ver xs)->∃ fz',H'[id]?=some (.row fz' e ek ver xs)/\(fz=true->fz'=true)
 mp:∀ (id:Nat) (es:List (CV×HV×Nat)) (ck:Nat),H[id]?=some (.mp es ck)↔H'[id]?=some (.mp es ck)
theorem Frzs.refl (H:q7):Frzs H H:=⟨rfl,fun _ _ _=>Iff.rfl,fun _ fz _ _ _ _ h=>⟨fz,h,id⟩,fun _ _ _=>Iff.rfl⟩
theorem Frzs.trans {H H' H'':q7} (h:Frzs H H') (k:Frzs H' H''):Frzs H H'':=
 ⟨k.len.trans h.len,fun id ek cs=>(h.var id ek cs).trans (k.var id ek cs),fun id fz e ek ver xs hh=>by
  obtain ⟨fz',h1,h2⟩:=h.row id fz e ek ver xs hh;obtain ⟨fz'',h3,h4⟩:=k.row id fz' e ek ver xs h1;exact ⟨fz'',h3,fun q=>h4 (h2 q)⟩,fun id es ck=>(h.mp id es ck).trans (k.mp id es ck)⟩
theorem Frzs.back {H H':q7} (h:Frzs H H') {id:Nat} {fz:Bool} {e:Nat} {ek:Option Nat} {ver:Nat} {xs:List CV} (hr:H'[id]?=some (.row fz e ek ver xs)):∃ fz',H[id]?=some (.row fz' e ek ver xs)/\(fz'=true->fz=true):=by
 have hl:id<H.length:=by have:=(gEs hr).1;rw [h.len] at this;exact this
 cases hq:H[id]? with
 | none=>rw [gEg hl] at hq;cases hq
 | some o=>
   cases o with
   | var ek2 cs=>rw [(h.var id ek2 cs).1 hq] at hr;cases hr
   | mp es ck=>rw [(h.mp id es ck).1 hq] at hr;cases hr
   | row fz2 e2 ek2 ver2 xs2=>
     obtain ⟨fz',h1,h2⟩:=h.row id fz2 e2 ek2 ver2 xs2 hq;rw [h1] at hr;injection hr with hr;injection hr with z1 z2 z3 z4 z5;subst z1;subst z2;subst z3;subst z4;subst z5;exact ⟨fz2,rfl,h2⟩
theorem tK (id:Nat) (H:q7):Frzs H (P1 id H):=by
 unfold P1;split
 . rename_i fz e ek ver xs hq;have hl:=(gEs hq).1;refine ⟨by simp,?_,?_,?_⟩
   . intro j ek2 cs;by_cases hj:j=id
     . subst hj;rw [hq];simp [hl]
     . rw [List.getElem?_set_ne (Ne.symm hj)]
   . intro j fz2 e2 ek2 ver2 xs2 hh;by_cases hj:j=id
     . subst hj;rw [hq] at hh;injection hh with hh;injection hh with z1 z2 z3 z4 z5;subst z1;subst z2;subst z3;subst z4;subst z5;exact ⟨true,by simp [hl],fun _=>rfl⟩
     . exact ⟨fz2,by rw [List.getElem?_set_ne (Ne.symm hj)];exact hh,fun q=>q⟩
   . intro j es ck;by_cases hj:j=id
     . subst hj;rw [hq];simp [hl]
     . rw [List.getElem?_set_ne (Ne.symm hj)]
 . exact Frzs.refl H
theorem zs4 (id:Nat) (H:q7) {fz:Bool} {e:Nat} {ek:Option Nat} {ver:Nat} {xs:List CV} (h:H[id]?=some (.row fz e ek ver xs)):(P1 id H)[id]?=some (.row true e ek ver xs):=by
 have hl:=(gEs h).1;unfold P1;rw [h];simp [hl]
def W5 (H:q7) (id:Nat):Prop:=∃ fz e ek ver xs,H[id]?=some (.row fz e ek ver xs)
def zE (id:Nat) (vs:List HV):Prop:=∃ ver off len,HV.sl id ver off len∈vs
theorem yH:∀ (vs:List HV) (H:q7),Frzs H (l7 vs H):=by
 intro vs;induction vs with
 | nil=>intro H;exact Frzs.refl H
 | cons v vs ih=>
   intro H;cases v<;>unfold l7<;>first
    | exact ih H
    | exact (tK _ H).trans (ih _)
theorem mZ:∀ (vs:List HV) (H:q7) (id:Nat) {fz:Bool} {e:Nat} {ek:Option Nat} {ver:Nat} {xs:List CV},zE id vs->H[id]?=some (.row fz e ek ver xs)->(l7 vs H)[id]?=some (.row true e ek ver xs):=by
 intro vs;induction vs with
 | nil=>intro H id fz e ek ver xs hi;obtain ⟨_,_,_,h⟩:=hi;simp at h
 | cons v vs ih=>
   intro H id fz e ek ver xs hi hH;obtain ⟨v1,v2,v3,hm⟩:=hi;rcases List.mem_cons.1 hm with rfl | hm
   . unfold l7;have h1:=zs4 id H hH;obtain ⟨fz',h2,h3⟩:=(yH vs (P1 id H)).row id true e ek ver xs h1;rw [h3 rfl] at h2;exact h2
   . have hi':zE id vs:=⟨v1,v2,v3,hm⟩;cases v<;>unfold l7<;>first
      | exact ih H id hi' hH
      | (obtain ⟨fz',h2,h3⟩:=(tK _ H).row id fz e ek ver xs hH
         exact ih _ id hi' h2)
theorem mW (hh:RHeap w F H m) {H':q7} (hz:Frzs H H'):RHeap w (fun b=>F b\/wS H' m b) H' m/\Stp w.heap.size F (fun b=>F b\/wS H' m b) H H' m m w w:=by
 have hg:Grows F (fun b=>F b\/wS H' m b) H H' m m w w:=by
  refine ⟨Keeps.of (fun b h=>.inl h) (fun _ _=>rfl),?_,?_,?_⟩
  . intro id ek cs h;exact ⟨rfl,cs,(hz.var id ek cs).1 h,rfl⟩
  . intro id fz e ek ver xs h;obtain ⟨fz',h1,_⟩:=hz.row id fz e ek ver xs h;exact ⟨fz',ver,xs,h1,Nat.le_refl _,fun _=>⟨rfl,rfl⟩⟩
  . intro id es ck h;exact ⟨rfl,es,ck,(hz.mp id es ck).1 h⟩
 refine ⟨⟨?_,?_,?_,?_,?_,?_,hh.glob.keep hg.keeps,?_⟩,hg,Nat.le_refl _,rfl,rfl,rfl,?_⟩
 . intro id o ho;have hl:id<H.length:=by have:=(gEs ho).1;rw [hz.len] at this;exact this
   exact hh.there id H[id] (gEg hl)
 . rintro b (h | ⟨id,e,ek,ver,xs,h1,rfl⟩)
   . exact hh.fthere b h
   . obtain ⟨fz',h2,_⟩:=hz.back h1;exact hh.there id _ h2
 . intro id ek cs h;have h0:=(hz.var id ek cs).2 h;obtain ⟨k1,vs,e,k2,k3,k4⟩:=hh.var id ek cs h0;refine ⟨?_,vs,e,k2,RHs.grow hg _ _ k3,k4⟩;rintro (hf | ⟨id2,e2,ek2,ver,xs,h1,h2⟩)
   . exact k1 hf
   . have l1:=(gEs h).1;have l2:=(gEs h1).1;rw [hz.len] at l1 l2;have:=hh.inj id2 id l2 l1 h2;subst this;rw [h] at h1;cases h1
 . intro id ek cs T h hT;exact hh.ty id ek cs T ((hz.var id ek cs).2 h) hT
 . intro id fz e ek ver xs h;obtain ⟨fz',h0,hfz⟩:=hz.back h;obtain ⟨us,rest,k1,k2,k3,k4,k5,k6,k7⟩:=hh.row id fz' e ek ver xs h0;refine ⟨us,rest,k1.imp fun q k=>⟨k.1,fun hf=>k.2 (by cases fz' with
    | false=>rfl
    | true=>rw [hfz rfl] at hf;cases hf)⟩,RRow.keep hg.keeps _ _ _ k2,k3,k4,k5,?_,?_⟩
   . intro hf;subst hf;exact .inr ⟨id,e,ek,ver,xs,h,rfl⟩
   . intro hf;subst hf;have hf':fz'=false:=by cases fz' with
      | false=>rfl
      | true=>cases hfz rfl
     rintro (h1 | ⟨id2,e2,ek2,ver2,xs2,h1,h2⟩)
     . exact k7 hf' h1
     . have l1:=(gEs h).1;have l2:=(gEs h1).1;rw [hz.len] at l1 l2;have:=hh.inj id2 id l2 l1 h2;subst this;rw [h] at h1;cases h1
 . intro id es ck h;have h0:=(hz.mp id es ck).2 h;obtain ⟨k1,l,k2,k3⟩:=hh.mp id es ck h0;refine ⟨?_,l,k2,REnt.grow hg _ _ k3⟩;rintro (hf | ⟨id2,e2,ek2,ver,xs,h1,h2⟩)
   . exact k1 hf
   . have l1:=(gEs h).1;have l2:=(gEs h1).1;rw [hz.len] at l1 l2;have:=hh.inj id2 id l2 l1 h2;subst this;rw [h] at h1;cases h1
 . intro i j hi hj he;rw [hz.len] at hi hj;exact hh.inj i j hi hj he
 . intro b hb hid;refine ⟨rfl,fun j hj=>hid j (by rw [hz.len] at hj;exact hj),?_⟩;rintro (h | ⟨id2,e2,ek2,ver2,xs2,h1,h2⟩)
   . exact h
   . exfalso;have l2:=(gEs h1).1;rw [hz.len] at l2;exact hid id2 l2 h2
theorem pM (hh:RHeap w F H m) {F':Nat->Prop} (hk:∀ b,F b->F' b) {v:HV} {x:Value} {u:CV} (h:RH w F H m v x) (ht:t6 H v=some u)
 (hF:∀ id ver off len,v=.sl id ver off len->W5 H id->F' (m id).blk):RC w F' u x:=by
 have hkeep:Keeps F F' w w:=Keeps.of hk (fun _ _=>rfl);unfold t6 at ht;split at ht
 . rename_i c;injection ht with ht;subst ht;exact RC.keep hkeep _ _ (rh_c.1 h)
 . injection ht with ht;subst ht;unfold RH at h;subst h;unfold RC;exact ⟨none,0,rfl,Nat.le_refl _,fun hne=>absurd rfl hne⟩
 . rename_i id ver off len;split at ht
   . rename_i fz e ek ver' xs hH;split at ht
     . rename_i hc;obtain ⟨hv,hle⟩:=hc;subst hv;injection ht with ht;subst ht;unfold RH at h;obtain ⟨ad,cap,rfl,_,hall⟩:=h;obtain ⟨p1,p2,p3,p4⟩:=hall _ _ _ _ hH;unfold RC;have hlen:((xs.drop off).take len).length=len:=by rw [List.length_take,List.length_drop];omega
       refine ⟨some ad,cap,by rw [hlen],by rw [hlen];exact p3,fun hne=>?_⟩;have hpos:0<len:=by rw [<-hlen];exact List.length_pos_iff.2 hne
       obtain ⟨us,rest,⟨_,k1,_⟩,k2,_⟩:=hh.row id fz e ek _ xs hH;obtain ⟨ws,r1,r2⟩:=uU (P8 k1) k2 off len;refine ⟨(m id).blk,off * j0 ek,ws,by rw [p4 (.inl (by omega))],hF id _ off len rfl ⟨_,_,_,_,_,hH⟩,?_,RRow.keep hkeep _ _ _ r2⟩;simpa using r1
     . cases ht
   . cases ht
 . cases ht
theorem gR (hh:RHeap w F H m) {F':Nat->Prop} (hk:∀ b,F b->F' b):∀ {vs:List HV} {xs:List Value} {us:List CV},RHs w F H m vs xs->m8 H vs=some us->(∀ id,zE id vs->W5 H id->F' (m id).blk)->RCs w F' us xs:=by
 intro vs;induction vs with
 | nil=>intro xs us h ht _;simp [m8] at ht;subst ht;rw [rhs_nil] at h;subst h;exact rcs_nil.2 rfl
 | cons v vs ih=>
   intro xs us h ht hF;unfold m8 at ht;cases h1:t6 H v with
   | none=>rw [h1] at ht;cases ht
   | some u=>
     cases h2:m8 H vs with
     | none=>rw [h1,h2] at ht;cases ht
     | some us'=>
       rw [h1,h2] at ht;injection ht with ht;subst ht;rw [rhs_cons] at h;obtain ⟨x,xs',rfl,h3,h4⟩:=h;exact rcs_cons.2 ⟨x,xs',rfl,pM hh hk h3 h1 (fun id ver off len e=>hF id ⟨ver,off,len,by rw [e];exact List.mem_cons_self⟩),ih h4 h2 (fun id hi=>by
        obtain ⟨a1,a2,a3,a4⟩:=hi;exact hF id ⟨a1,a2,a3,List.mem_cons_of_mem _ a4⟩)⟩
def N8:HV->List HV
 | .agg cs=>cs
 | .iface _ (.agg cs)=>cs
 | .iface _ v=>[v]
 | v=>[v]
theorem bM (v:HV) (H:q7):I3 v H=l7 (N8 v) H:=by
 cases v with
 | iface t x=>cases x<;>rfl
 | _=>rfl
theorem qO (hh:RHeap w F H m) {F':Nat->Prop} (hk:∀ b,F b->F' b) {v:HV} {x:Value} {u:CV} (h:RH w F H m v x) (ht:u7 H v=some u) (hF:∀ id,zE id (N8 v)->W5 H id->F' (m id).blk):RC w F' u x:=by
 unfold u7 at ht;split at ht
 . rename_i cs;cases hl:m8 H cs with
   | none=>rw [hl] at ht;cases ht
   | some l=>
     rw [hl] at ht;injection ht with ht;subst ht;unfold RH at h;obtain ⟨vs,rfl,h1,h2⟩:=h;unfold RC;exact ⟨vs,rfl,gR hh hk h1 hl hF,h2⟩
 . rename_i t cs;cases hl:m8 H cs with
   | none=>rw [hl] at ht;cases ht
   | some l=>
     rw [hl] at ht;injection ht with ht;subst ht;unfold RH at h;obtain ⟨y,rfl,h⟩:=h;unfold RH at h;obtain ⟨vs,rfl,h1,h2⟩:=h;unfold RC;refine ⟨_,rfl,?_⟩;unfold RC;exact ⟨vs,rfl,gR hh hk h1 hl hF,h2⟩
 . rename_i t v hna;cases hl:t6 H v with
   | none=>rw [hl] at ht;cases ht
   | some y=>
     rw [hl] at ht;injection ht with ht;subst ht;unfold RH at h;obtain ⟨z,rfl,h⟩:=h;unfold RC;refine ⟨z,rfl,pM hh hk h hl (fun id ver off len e=>hF id ?_)⟩;subst e;exact ⟨ver,off,len,by simp [N8]⟩
 . rename_i h1 h2 h3;refine pM hh hk h ht (fun id ver off len e=>hF id ?_);subst e;exact ⟨ver,off,len,by simp [N8]⟩
theorem rZ (hh:RHeap w F H m) {v:HV} {x:Value} {u:CV} {H':q7} (h:RH w F H m v x) (hc:G9 v H=some (u,H')) :
 ∃ F',RHeap w F' H' m/\Stp w.heap.size F F' H H' m m w w/\RC w F' u x/\Frzs H H':=by
 unfold G9 at hc;split at hc
 . injection hc with hc;injection hc with z1 z2;subst z1;subst z2;exact ⟨F,hh,Stp.refl ..,rh_c.1 h,Frzs.refl _⟩
 . cases ht:u7 H v with
   | none=>rw [ht] at hc;cases hc
   | some u'=>
     rw [ht] at hc;injection hc with hc;injection hc with z1 z2;subst z1;subst z2;rw [bM];have hz:=yH (N8 v) H;obtain ⟨k1,k2⟩:=mW hh hz;refine ⟨_,k1,k2,qO hh (fun b hb=>.inl hb) h ht ?_,hz⟩;intro id hi;rintro ⟨fz,e,ek,ver,xs,hH⟩;exact .inr ⟨id,e,ek,ver,xs,mZ _ H id hi hH,rfl⟩
end
end Go.Proofs.Lz
