/- The store, at every kind of place. -/
import Derived.Test.YtencoceemejcnaaGreatDoorLzMem
set_option linter.unusedVariables false
set_option linter.unusedSimpArgs false
set_option linter.unusedSectionVars false
namespace Go.Proofs.Lz
variable [GlobTab]
section
variable {P:Program} {fb N:Nat} {w:World} {F:Nat->Prop} {H:j6} {m:a7} {lb:Nat->Nat} {fr:Fr} {a:Act} {o:Oper}
variable {K:Act->World->Prop} {Q:Exit->Act->World->Prop}
def putCells (cur:List Value) (off:Nat) (new:List Value):List Value:=cur.take off++new++cur.drop (off+new.length)
theorem nY {t:TypeId} {ek:Option Nat} (he:A0 P t=some ek) {g e off:Nat} {cur:List Value} (hg:w.heap[g]?=some (.cells cur.toArray e (0,0))) {v:Value} (hs:Shape ek v) (h1:∀ u∈v.cells.toList,u.oneCell'=true) (hle:off+v.cells.toList.length<=cur.length) :
 (Instr.storeAt t (.pointer (some ⟨g,off,none⟩)) v).run P w=.ok () (w.setRow g (putCells cur off v.cells.toList).toArray):=by
 have hsz:=run_sizeOf (w:=w) he;have hl:v.cells.size=g7 ek:=by simpa using Q1 hs
 have:=run_storeCells_at P g off e v.cells.toList 0 cur.toArray w hg (by simpa using hle) h1;simp only [Instr.storeAt,Instr.sureAddr,Sem.run_bind,Sem.run_pure,Result.andThen_ok,storeVar,hsz,hl,ne_eq,not_true_eq_false,if_false];simpa [putCells] using this
theorem setRow_size (g:Nat) (cs:Array Value):(w.setRow g cs).heap.size=w.heap.size:=by simp [World.setRow]
theorem cT {g:Nat} (hg:¬ F g) (cs:Array Value):Keeps F F w (w.setRow g cs):=Keeps.of (fun _ h=>h) (fun b hb=>setRow_other w g b cs (fun e=>hg (e▸hb)))
theorem q07 {g fb':Nat} (hg:¬ F g) (hfb:fb'<=g\/∃ id,id<H.length/\(m id).blk=g) (cs:Array Value):Stp fb' F F H H m m w (w.setRow g cs):=by
 refine ⟨⟨cT hg cs,fun _ _ cs h=>⟨rfl,cs,h,rfl⟩,fun _ fz e ek ver xs h=>⟨fz,ver,xs,h,Nat.le_refl _,fun _=>⟨rfl,rfl⟩⟩⟩,by rw [setRow_size];exact Nat.le_refl _,rfl,rfl,rfl,?_⟩;intro b hb hid;refine ⟨setRow_other w g b cs ?_,hid,id⟩;rintro rfl;rcases hfb with h | ⟨id,h1,h2⟩
 . omega
 . exact hid id h1 h2
theorem zb4 (hs:RS fb N w F H m lb fr a) {b:Nat} {ek':Option Nat} {x0 x1:HV} (hb:fr.env b=.lbox ek' x0) {cs:Array Value} {cur:Array Value} {e':Nat} (hcur:w.heap[lb b]?=some (.cells cur e' (0,0)))
 {v':Value} (hcs:cs=v'.cells) (hsh:Shape ek' v') (hft:G4 ek' x1=true) (hx:RH w F H m x1 v') :
 RS fb N (w.setRow (lb b) cs) F H m lb { fr with env:=upd fr.env b (.lbox ek' x1) } a/\Stp fb F F H H m m w (w.setRow (lb b) cs):=by
 obtain ⟨h1,h2,h3,h4,h5,h6,_⟩:=hs.fr.box b ek' x0 hb;have hst:Stp fb F F H H m m w (w.setRow (lb b) cs):=q07 h4 (.inl h2) cs;have hne:∀ id,id<H.length->(m id).blk≠lb b:=h5;refine ⟨⟨?_,?_,Nat.le_trans hs.fb hst.size⟩,hst⟩
 . exact hs.heap.same hst.g (fun _ _=>rfl) (fun id hid=>setRow_other w (lb b) _ cs (hne id hid)) hst.size (fun _ h=>.inl h)
 . refine ⟨hs.fr.size,hs.fr.defers,?_,?_,?_⟩
   . intro t ht;by_cases et:t=b
     . subst et;exact absurd (by simp [upd]) (ht ek' x1)
     . have e3:upd fr.env b (.lbox ek' x1) t=fr.env t:=by simp [upd,et]
       simp only [e3] at ht ⊢;exact RH.grow hst.g _ _ (hs.fr.val t ht)
   . intro t ek x hx';by_cases et:t=b
     . subst et;simp [upd] at hx';obtain ⟨z1,z2⟩:=hx';subst z1;subst z2;refine ⟨h1,h2,by rw [setRow_size];exact h3,h4,h5,?_,hft,v',e',?_,hsh,RH.grow hst.g _ _ hx⟩
       . intro t' ek'' x'' hx'' hl;by_cases et':t'=t
         . exact et'
         . simp [upd,et'] at hx'';exact h6 t' ek'' x'' hx'' hl
       . rw [<-hcs];exact setRow_heap w (lb t) cur cs e' (0,0) hcur
     . simp [upd,et] at hx';obtain ⟨k1,k2,k3,k4,k5,k6,k7,v,e2,k8,k9,k10⟩:=hs.fr.box t ek x hx';have hlb:lb t≠lb b:=fun hl=>et (h6 t ek x hx' hl);refine ⟨k1,k2,by rw [setRow_size];exact k3,k4,k5,?_,k7,v,e2,(setRow_other w (lb b) (lb t) cs hlb).trans k8,k9,RH.grow hst.g _ _ k10⟩;intro t' ek'' x'' hx'' hl;by_cases et':t'=b
       . rw [et'] at hl;exact absurd hl.symm hlb
       . simp [upd,et'] at hx'';exact k6 t' ek'' x'' hx'' hl
   . intro t b' off hl ek x hx';by_cases et:b'=b
     . rw [et];exact hs.fr.link t b off (et▸hl) ek' x0 hb
     . simp [upd,et] at hx';exact hs.fr.link t b' off hl ek x hx'
theorem lC {cur new:List Value} {off:Nat} {u:Value} (h:u∈putCells cur off new):u∈cur\/u∈new:=by
 unfold putCells at h;simp only [List.mem_append] at h;rcases h with (h | h) | h
 . exact .inl (List.mem_of_mem_take h)
 . exact .inr h
 . exact .inl (List.mem_of_mem_drop h)
theorem nP {cur new:List Value} {off:Nat} (h:off+new.length<=cur.length):(putCells cur off new).length=cur.length:=by
 simp only [putCells,List.length_append,List.length_take,List.length_drop];omega
theorem zp1 (hh:RHeap w F H m) {id e:Nat} {ek:Option Nat} {cs cs':List HV} {vs vs':List Value} (hH:H[id]?=some (.var ek cs)) (hcur:w.heap[(m id).blk]?=some (.cells vs.toArray e (0,0))) (hlen:cs'.length=cs.length)
 (hr:RHs w F H m cs' vs') (h1:∀ u∈vs',u.oneCell'=true):RHeap (w.setRow (m id).blk vs'.toArray) F (H.set id (.var ek cs')) m/\Stp w.heap.size F F H (H.set id (.var ek cs')) m m w (w.setRow (m id).blk vs'.toArray):=by
 have hid:=(gEs hH).1;obtain ⟨hnF,_⟩:=hh.var id ek cs hH;have hsame:∀ j,j≠id->(H.set id (.var ek cs'))[j]?=H[j]?:=fun j hj=>List.getElem?_set_ne (Ne.symm hj);have hself:(H.set id (.var ek cs'))[id]?=some (.var ek cs'):=by simp [hid]
 have hg:Grows F F H (H.set id (.var ek cs')) m m w (w.setRow (m id).blk vs'.toArray):=by
  refine ⟨cT hnF _,?_,?_⟩
  . intro j ek2 cs2 hj;by_cases e2:j=id
    . subst e2;rw [hH] at hj;injection hj with hj;injection hj with z1 z2;subst z1;subst z2;exact ⟨rfl,cs',hself,hlen⟩
    . exact ⟨rfl,cs2,by rw [hsame j e2];exact hj,rfl⟩
  . intro j fz e2 ek2 ver xs hj;have:j≠id:=by rintro rfl;rw [hH] at hj;cases hj
    exact ⟨fz,ver,xs,by rw [hsame j this];exact hj,Nat.le_refl _,fun _=>⟨rfl,rfl⟩⟩
 have hblk:∀ j,j≠id->j<H.length->(m j).blk≠(m id).blk:=fun j hj hl he=>hj (hh.inj j id hl hid he);refine ⟨⟨?_,?_,?_,?_,?_,hh.glob.keep hg.keeps,?_⟩,hg,by rw [setRow_size];exact Nat.le_refl _,rfl,rfl,rfl,?_⟩
 . intro j o' ho';rw [setRow_size];have hl:j<H.length:=by have:=(gEs ho').1;simpa using this
   exact hh.there j H[j] (gEg hl)
 . intro b hb;rw [setRow_size];exact hh.fthere b hb
 . intro j ek2 cs2 hj;by_cases e2:j=id
   . subst e2;rw [hself] at hj;injection hj with hj;injection hj with z1 z2;subst z1;subst z2;exact ⟨hnF,vs',e,setRow_heap w _ _ _ e (0,0) hcur,RHs.grow hg _ _ hr,h1⟩
   . rw [hsame j e2] at hj;have hl:=(gEs hj).1;obtain ⟨k1,vs2,e3,k2,k3,k4⟩:=hh.var j ek2 cs2 hj;exact ⟨k1,vs2,e3,(setRow_other w _ _ _ (hblk j e2 hl)).trans k2,RHs.grow hg _ _ k3,k4⟩
 . intro j ek2 cs2 T hj hT;by_cases e2:j=id
   . subst e2;rw [hself] at hj;injection hj with hj;injection hj with z1 z2;subst z1;subst z2;obtain ⟨_,k⟩:=hh.ty j ek cs T hH hT;rw [hcur] at k;injection k with k;injection k with _ k _;subst k;exact ⟨_,setRow_heap w _ _ _ e (0,0) hcur⟩
   . rw [hsame j e2] at hj;have hl:=(gEs hj).1;exact (hh.ty j ek2 cs2 T hj hT).imp fun vs k=>(setRow_other w _ _ _ (hblk j e2 hl)).trans k
 . intro j fz e2 ek2 ver xs hj;have e4:j≠id:=by rintro rfl;rw [hself] at hj;cases hj
   rw [hsame j e4] at hj;have hl:=(gEs hj).1;obtain ⟨us,rest,k1,k2,k3,k4,k5,k6,k7⟩:=hh.row j fz e2 ek2 ver xs hj;exact ⟨us,rest,k1.imp fun q k=>⟨(setRow_other w _ _ _ (hblk j e4 hl)).trans k.1,k.2⟩,RRow.keep hg.keeps _ _ _ k2,k3,k4,k5,k6,k7⟩
 . intro i j hi hj he;rw [List.length_set] at hi hj;exact hh.inj i j hi hj he
 . intro b hb hid';refine ⟨setRow_other w _ b _ (fun e2=>hid' id hid e2.symm),fun j hj=>hid' j (by simpa using hj),fun h=>h⟩
def gR (H:j6) (m:a7) (b:Nat):Prop:=∃ id e ek ver xs,H[id]?=some (.row true e ek ver xs)/\(m id).blk=b
structure Frzs (H H':j6):Prop where
 len:H'.length=H.length
 var:∀ (id:Nat) (ek:Option Nat) (cs:List HV),H[id]?=some (.var ek cs)↔H'[id]?=some (.var ek cs)
 row:∀ (id:Nat) (fz:Bool) (e:Nat) (ek:Option Nat) (ver:Nat) (xs:List CV),H[id]?=some (.row fz e ek ver xs)->∃ fz',H'[id]?=some (.row fz' e ek ver xs)/\(fz=true->fz'=true)
theorem Frzs.refl (H:j6):Frzs H H:=⟨rfl,fun _ _ _=>Iff.rfl,fun _ fz _ _ _ _ h=>⟨fz,h,id⟩⟩
theorem Frzs.trans {H H' H'':j6} (h:Frzs H H') (k:Frzs H' H''):Frzs H H'':=
 ⟨k.len.trans h.len,fun id ek cs=>(h.var id ek cs).trans (k.var id ek cs),fun id fz e ek ver xs hh=>by
  obtain ⟨fz',h1,h2⟩:=h.row id fz e ek ver xs hh;obtain ⟨fz'',h3,h4⟩:=k.row id fz' e ek ver xs h1;exact ⟨fz'',h3,fun q=>h4 (h2 q)⟩⟩
theorem Frzs.back {H H':j6} (h:Frzs H H') {id:Nat} {fz:Bool} {e:Nat} {ek:Option Nat} {ver:Nat} {xs:List CV} (hr:H'[id]?=some (.row fz e ek ver xs)):∃ fz',H[id]?=some (.row fz' e ek ver xs)/\(fz'=true->fz=true):=by
 have hl:id<H.length:=by have:=(gEs hr).1;rw [h.len] at this;exact this
 cases hq:H[id]? with
 | none=>rw [gEg hl] at hq;cases hq
 | some o=>
   cases o with
   | var ek2 cs=>rw [(h.var id ek2 cs).1 hq] at hr;cases hr
   | row fz2 e2 ek2 ver2 xs2=>
     obtain ⟨fz',h1,h2⟩:=h.row id fz2 e2 ek2 ver2 xs2 hq;rw [h1] at hr;injection hr with hr;injection hr with z1 z2 z3 z4 z5;subst z1;subst z2;subst z3;subst z4;subst z5;exact ⟨fz2,rfl,h2⟩
theorem lB (id:Nat) (H:j6):Frzs H (Y7 id H):=by
 unfold Y7;split
 . rename_i fz e ek ver xs hq;have hl:=(gEs hq).1;refine ⟨by simp,?_,?_⟩
   . intro j ek2 cs;by_cases hj:j=id
     . subst hj;rw [hq];simp [hl]
     . rw [List.getElem?_set_ne (Ne.symm hj)]
   . intro j fz2 e2 ek2 ver2 xs2 hh;by_cases hj:j=id
     . subst hj;rw [hq] at hh;injection hh with hh;injection hh with z1 z2 z3 z4 z5;subst z1;subst z2;subst z3;subst z4;subst z5;exact ⟨true,by simp [hl],fun _=>rfl⟩
     . exact ⟨fz2,by rw [List.getElem?_set_ne (Ne.symm hj)];exact hh,fun q=>q⟩
 . exact Frzs.refl H
theorem zc8 (id:Nat) (H:j6) {fz:Bool} {e:Nat} {ek:Option Nat} {ver:Nat} {xs:List CV} (h:H[id]?=some (.row fz e ek ver xs)):(Y7 id H)[id]?=some (.row true e ek ver xs):=by
 have hl:=(gEs h).1;unfold Y7;rw [h];simp [hl]
def jV (H:j6) (id:Nat):Prop:=∃ fz e ek ver xs,H[id]?=some (.row fz e ek ver xs)
def yF (id:Nat) (vs:List HV):Prop:=∃ ver off len,HV.sl id ver off len∈vs
theorem mS:∀ (vs:List HV) (H:j6),Frzs H (G5 vs H):=by
 intro vs;induction vs with
 | nil=>intro H;exact Frzs.refl H
 | cons v vs ih=>
   intro H;cases v<;>unfold G5<;>first
    | exact ih H
    | exact (lB _ H).trans (ih _)
theorem zh2:∀ (vs:List HV) (H:j6) (id:Nat) {fz:Bool} {e:Nat} {ek:Option Nat} {ver:Nat} {xs:List CV},yF id vs->H[id]?=some (.row fz e ek ver xs)->(G5 vs H)[id]?=some (.row true e ek ver xs):=by
 intro vs;induction vs with
 | nil=>intro H id fz e ek ver xs hi;obtain ⟨_,_,_,h⟩:=hi;simp at h
 | cons v vs ih=>
   intro H id fz e ek ver xs hi hH;obtain ⟨v1,v2,v3,hm⟩:=hi;rcases List.mem_cons.1 hm with rfl | hm
   . unfold G5;have h1:=zc8 id H hH;obtain ⟨fz',h2,h3⟩:=(mS vs (Y7 id H)).row id true e ek ver xs h1;rw [h3 rfl] at h2;exact h2
   . have hi':yF id vs:=⟨v1,v2,v3,hm⟩;cases v<;>unfold G5<;>first
      | exact ih H id hi' hH
      | (obtain ⟨fz',h2,h3⟩:=(lB _ H).row id fz e ek ver xs hH
         exact ih _ id hi' h2)
theorem aJ (hh:RHeap w F H m) {H':j6} (hz:Frzs H H'):RHeap w (fun b=>F b\/gR H' m b) H' m/\Stp w.heap.size F (fun b=>F b\/gR H' m b) H H' m m w w:=by
 have hg:Grows F (fun b=>F b\/gR H' m b) H H' m m w w:=by
  refine ⟨Keeps.of (fun b h=>.inl h) (fun _ _=>rfl),?_,?_⟩
  . intro id ek cs h;exact ⟨rfl,cs,(hz.var id ek cs).1 h,rfl⟩
  . intro id fz e ek ver xs h;obtain ⟨fz',h1,_⟩:=hz.row id fz e ek ver xs h;exact ⟨fz',ver,xs,h1,Nat.le_refl _,fun _=>⟨rfl,rfl⟩⟩
 refine ⟨⟨?_,?_,?_,?_,?_,hh.glob.keep hg.keeps,?_⟩,hg,Nat.le_refl _,rfl,rfl,rfl,?_⟩
 . intro id o ho;have hl:id<H.length:=by have:=(gEs ho).1;rw [hz.len] at this;exact this
   exact hh.there id H[id] (gEg hl)
 . rintro b (h | ⟨id,e,ek,ver,xs,h1,rfl⟩)
   . exact hh.fthere b h
   . obtain ⟨fz',h2,_⟩:=hz.back h1;exact hh.there id _ h2
 . intro id ek cs h;have h0:=(hz.var id ek cs).2 h;obtain ⟨k1,vs,e,k2,k3,k4⟩:=hh.var id ek cs h0;refine ⟨?_,vs,e,k2,RHs.grow hg _ _ k3,k4⟩;rintro (hf | ⟨id2,e2,ek2,ver,xs,h1,h2⟩)
   . exact k1 hf
   . have l1:=(gEs h).1;have l2:=(gEs h1).1;rw [hz.len] at l1 l2;have:=hh.inj id2 id l2 l1 h2;subst this;rw [h] at h1;cases h1
 . intro id ek cs T h hT;exact hh.ty id ek cs T ((hz.var id ek cs).2 h) hT
 . intro id fz e ek ver xs h;obtain ⟨fz',h0,hfz⟩:=hz.back h;obtain ⟨us,rest,k1,k2,k3,k4,k5,k6,k7⟩:=hh.row id fz' e ek ver xs h0;refine ⟨us,rest,k1.imp fun q k=>⟨k.1,fun hf=>k.2 (by cases fz' with
    | false=>rfl
    | true=>rw [hfz rfl] at hf;cases hf)⟩,RRow.keep hg.keeps _ _ _ k2,k3,k4,k5,?_,?_⟩
   . intro hf;subst hf;exact .inr ⟨id,e,ek,ver,xs,h,rfl⟩
   . intro hf;subst hf;have hf':fz'=false:=by cases fz' with
      | false=>rfl
      | true=>cases hfz rfl
     rintro (h1 | ⟨id2,e2,ek2,ver2,xs2,h1,h2⟩)
     . exact k7 hf' h1
     . have l1:=(gEs h).1;have l2:=(gEs h1).1;rw [hz.len] at l1 l2;have:=hh.inj id2 id l2 l1 h2;subst this;rw [h] at h1;cases h1
 . intro i j hi hj he;rw [hz.len] at hi hj;exact hh.inj i j hi hj he
 . intro b hb hid;refine ⟨rfl,fun j hj=>hid j (by rw [hz.len] at hj;exact hj),?_⟩;rintro (h | ⟨id2,e2,ek2,ver2,xs2,h1,h2⟩)
   . exact h
   . exfalso;have l2:=(gEs h1).1;rw [hz.len] at l2;exact hid id2 l2 h2
theorem lX (hh:RHeap w F H m) {F':Nat->Prop} (hk:∀ b,F b->F' b) {v:HV} {x:Value} {u:CV} (h:RH w F H m v x) (ht:F4 H v=some u)
 (hF:∀ id ver off len,v=.sl id ver off len->jV H id->F' (m id).blk):RC w F' u x:=by
 have hkeep:Keeps F F' w w:=Keeps.of hk (fun _ _=>rfl);unfold F4 at ht;split at ht
 . rename_i c;injection ht with ht;subst ht;exact RC.keep hkeep _ _ (rh_c.1 h)
 . injection ht with ht;subst ht;unfold RH at h;subst h;unfold RC;exact ⟨none,0,rfl,Nat.le_refl _,fun hne=>absurd rfl hne⟩
 . rename_i id ver off len;split at ht
   . rename_i fz e ek ver' xs hH;split at ht
     . rename_i hc;obtain ⟨hv,hle⟩:=hc;subst hv;injection ht with ht;subst ht;unfold RH at h;obtain ⟨ad,cap,rfl,_,hall⟩:=h;obtain ⟨p1,p2,p3,p4⟩:=hall _ _ _ _ hH;unfold RC;have hlen:((xs.drop off).take len).length=len:=by rw [List.length_take,List.length_drop];omega
       refine ⟨some ad,cap,by rw [hlen],by rw [hlen];exact p3,fun hne=>?_⟩;have hpos:0<len:=by rw [<-hlen];exact List.length_pos_iff.2 hne
       obtain ⟨us,rest,⟨_,k1,_⟩,k2,_⟩:=hh.row id fz e ek _ xs hH;obtain ⟨ws,r1,r2⟩:=sK (Y8 k1) k2 off len;refine ⟨(m id).blk,off * g7 ek,ws,by rw [p4 (.inl (by omega))],hF id _ off len rfl ⟨_,_,_,_,_,hH⟩,?_,RRow.keep hkeep _ _ _ r2⟩;simpa using r1
     . cases ht
   . cases ht
 . cases ht
theorem aH (hh:RHeap w F H m) {F':Nat->Prop} (hk:∀ b,F b->F' b):∀ {vs:List HV} {xs:List Value} {us:List CV},RHs w F H m vs xs->F6 H vs=some us->(∀ id,yF id vs->jV H id->F' (m id).blk)->RCs w F' us xs:=by
 intro vs;induction vs with
 | nil=>intro xs us h ht _;simp [F6] at ht;subst ht;rw [rhs_nil] at h;subst h;exact rcs_nil.2 rfl
 | cons v vs ih=>
   intro xs us h ht hF;unfold F6 at ht;cases h1:F4 H v with
   | none=>rw [h1] at ht;cases ht
   | some u=>
     cases h2:F6 H vs with
     | none=>rw [h1,h2] at ht;cases ht
     | some us'=>
       rw [h1,h2] at ht;injection ht with ht;subst ht;rw [rhs_cons] at h;obtain ⟨x,xs',rfl,h3,h4⟩:=h;exact rcs_cons.2 ⟨x,xs',rfl,lX hh hk h3 h1 (fun id ver off len e=>hF id ⟨ver,off,len,by rw [e];exact List.mem_cons_self⟩),ih h4 h2 (fun id hi=>by
        obtain ⟨a1,a2,a3,a4⟩:=hi;exact hF id ⟨a1,a2,a3,List.mem_cons_of_mem _ a4⟩)⟩
def zR:HV->List HV
 | .agg cs=>cs
 | .iface _ (.agg cs)=>cs
 | .iface _ v=>[v]
 | v=>[v]
theorem lE (v:HV) (H:j6):U0 v H=G5 (zR v) H:=by
 cases v with
 | iface t x=>cases x<;>rfl
 | _=>rfl
theorem yJ (hh:RHeap w F H m) {F':Nat->Prop} (hk:∀ b,F b->F' b) {v:HV} {x:Value} {u:CV} (h:RH w F H m v x) (ht:D2 H v=some u) (hF:∀ id,yF id (zR v)->jV H id->F' (m id).blk):RC w F' u x:=by
 unfold D2 at ht;split at ht
 . rename_i cs;cases hl:F6 H cs with
   | none=>rw [hl] at ht;cases ht
   | some l=>
     rw [hl] at ht;injection ht with ht;subst ht;unfold RH at h;obtain ⟨vs,rfl,h1,h2⟩:=h;unfold RC;exact ⟨vs,rfl,aH hh hk h1 hl hF,h2⟩
 . rename_i t cs;cases hl:F6 H cs with
   | none=>rw [hl] at ht;cases ht
   | some l=>
     rw [hl] at ht;injection ht with ht;subst ht;unfold RH at h;obtain ⟨y,rfl,h⟩:=h;unfold RH at h;obtain ⟨vs,rfl,h1,h2⟩:=h;unfold RC;refine ⟨_,rfl,?_⟩;unfold RC;exact ⟨vs,rfl,aH hh hk h1 hl hF,h2⟩
 . rename_i t v hna;cases hl:F4 H v with
   | none=>rw [hl] at ht;cases ht
   | some y=>
     rw [hl] at ht;injection ht with ht;subst ht;unfold RH at h;obtain ⟨z,rfl,h⟩:=h;unfold RC;refine ⟨z,rfl,lX hh hk h hl (fun id ver off len e=>hF id ?_)⟩;subst e;exact ⟨ver,off,len,by simp [zR]⟩
 . rename_i h1 h2 h3;refine lX hh hk h ht (fun id ver off len e=>hF id ?_);subst e;exact ⟨ver,off,len,by simp [zR]⟩
theorem z90 (hh:RHeap w F H m) {v:HV} {x:Value} {u:CV} {H':j6} (h:RH w F H m v x) (hc:P1 v H=some (u,H')) :
 ∃ F',RHeap w F' H' m/\Stp w.heap.size F F' H H' m m w w/\RC w F' u x/\Frzs H H':=by
 unfold P1 at hc;split at hc
 . injection hc with hc;injection hc with z1 z2;subst z1;subst z2;exact ⟨F,hh,Stp.refl ..,rh_c.1 h,Frzs.refl _⟩
 . cases ht:D2 H v with
   | none=>rw [ht] at hc;cases hc
   | some u'=>
     rw [ht] at hc;injection hc with hc;injection hc with z1 z2;subst z1;subst z2;rw [lE];have hz:=mS (zR v) H;obtain ⟨k1,k2⟩:=aJ hh hz;refine ⟨_,k1,k2,yJ hh (fun b hb=>.inl hb) h ht ?_,hz⟩;intro id hi;rintro ⟨fz,e,ek,ver,xs,hH⟩;exact .inr ⟨id,e,ek,ver,xs,zh2 _ H id hi hH,rfl⟩
end
end Go.Proofs.Lz
namespace Go.Proofs.Lz
variable [GlobTab]
section
variable {P:Program} {fb N:Nat} {w:World} {F:Nat->Prop} {H:j6} {m:a7} {lb:Nat->Nat} {fr:Fr} {a:Act} {o:Oper}
variable {K:Act->World->Prop} {Q:Exit->Act->World->Prop}
theorem rR (hh:RHeap w F H m) {id e ver ver':Nat} {ek:Option Nat} {xs xs':List CV} {us rest us' rest':List Value} (hH:H[id]?=some (.row false e ek ver xs)) (hcur:w.heap[(m id).blk]?=some (.cells (us++rest).toArray e (0,0)))
 (hlen:us'.length+rest'.length=us.length+rest.length) (htot:us.length+rest.length=(m id).cap * g7 ek) (hcap:(m id).cap<=maxLen) (hpos:0<g7 ek) (hver:ver<=ver') (hsame:ver'=ver->xs'.length=xs.length)
 (hr:RRow w F ek xs' us'):RHeap (w.setRow (m id).blk (us'++rest').toArray) F (H.set id (.row false e ek ver' xs')) m/\Stp w.heap.size F F H (H.set id (.row false e ek ver' xs')) m m w (w.setRow (m id).blk (us'++rest').toArray):=by
 have hid:=(gEs hH).1;obtain ⟨_,_,_,_,_,_,_,_,hnF⟩:=hh.row id false e ek ver xs hH;have hnF:=hnF rfl;have hsm:∀ j,j≠id->(H.set id (.row false e ek ver' xs'))[j]?=H[j]?:=fun j hj=>List.getElem?_set_ne (Ne.symm hj);have hself:(H.set id (.row false e ek ver' xs'))[id]?=some (.row false e ek ver' xs'):=by simp [hid]
 have hg:Grows F F H (H.set id (.row false e ek ver' xs')) m m w (w.setRow (m id).blk (us'++rest').toArray):=by
  refine ⟨cT hnF _,?_,?_⟩
  . intro j ek2 cs2 hj;have:j≠id:=by rintro rfl;rw [hH] at hj;cases hj
    exact ⟨rfl,cs2,by rw [hsm j this];exact hj,rfl⟩
  . intro j fz e2 ek2 ver2 xs2 hj;by_cases e3:j=id
    . subst e3;rw [hH] at hj;injection hj with hj;injection hj with z1 z2 z3 z4 z5;subst z1;subst z2;subst z3;subst z4;subst z5;exact ⟨false,ver',xs',hself,hver,fun hv=>⟨rfl,hsame hv⟩⟩
    . exact ⟨fz,ver2,xs2,by rw [hsm j e3];exact hj,Nat.le_refl _,fun _=>⟨rfl,rfl⟩⟩
 have hblk:∀ j,j≠id->j<H.length->(m j).blk≠(m id).blk:=fun j hj hl he=>hj (hh.inj j id hl hid he);refine ⟨⟨?_,?_,?_,?_,?_,hh.glob.keep hg.keeps,?_⟩,hg,by rw [setRow_size];exact Nat.le_refl _,rfl,rfl,rfl,?_⟩
 . intro j o' ho';rw [setRow_size];have hl:j<H.length:=by have:=(gEs ho').1;simpa using this
   exact hh.there j H[j] (gEg hl)
 . intro b hb;rw [setRow_size];exact hh.fthere b hb
 . intro j ek2 cs2 hj;have e4:j≠id:=by rintro rfl;rw [hself] at hj;cases hj
   rw [hsm j e4] at hj;have hl:=(gEs hj).1;obtain ⟨k1,vs2,e3,k2,k3,k4⟩:=hh.var j ek2 cs2 hj;exact ⟨k1,vs2,e3,(setRow_other w _ _ _ (hblk j e4 hl)).trans k2,RHs.grow hg _ _ k3,k4⟩
 . intro j ek2 cs2 T hj hT;have e4:j≠id:=by rintro rfl;rw [hself] at hj;cases hj
   rw [hsm j e4] at hj;have hl:=(gEs hj).1;exact (hh.ty j ek2 cs2 T hj hT).imp fun vs k=>(setRow_other w _ _ _ (hblk j e4 hl)).trans k
 . intro j fz e2 ek2 ver2 xs2 hj;by_cases e3:j=id
   . subst e3;rw [hself] at hj;injection hj with hj;injection hj with z1 z2 z3 z4 z5;subst z1;subst z2;subst z3;subst z4;subst z5;exact ⟨us',rest',⟨_,setRow_heap w _ _ _ e (0,0) hcur,fun _=>rfl⟩,RRow.keep hg.keeps _ _ _ hr,by omega,hcap,hpos,(fun hf=>by cases hf),fun _=>hnF⟩
   . rw [hsm j e3] at hj;have hl:=(gEs hj).1;obtain ⟨us2,rest2,k1,k2,k3,k4,k5,k6,k7⟩:=hh.row j fz e2 ek2 ver2 xs2 hj;exact ⟨us2,rest2,k1.imp fun q k=>⟨(setRow_other w _ _ _ (hblk j e3 hl)).trans k.1,k.2⟩,RRow.keep hg.keeps _ _ _ k2,k3,k4,k5,k6,k7⟩
 . intro i j hi hj he;rw [List.length_set] at hi hj;exact hh.inj i j hi hj he
 . intro b hb hid';refine ⟨setRow_other w _ b _ (fun e2=>hid' id hid e2.symm),fun j hj=>hid' j (by simpa using hj),fun h=>h⟩
theorem iJ {ek:Option Nat} {x':CV} {v':Value} (hx:RC w F x' v') (hs:Shape ek v') {xs:List CV}:∀ {us:List Value} {i:Nat},RRow w F ek xs us->i<xs.length->RRow w F ek (xs.set i x') (putCells us (i * g7 ek) v'.cells.toList):=by
 induction xs with
 | nil=>intro us i h hi;simp at hi
 | cons c cs ih=>
   intro us i h hi;unfold RRow at h;obtain ⟨v,ws,rfl,h1,h2,h3⟩:=h;cases i with
   | zero=>
     simp only [List.set_cons_zero,Nat.zero_mul,putCells,List.take_zero,List.nil_append,Nat.zero_add];unfold RRow;refine ⟨v',ws,?_,hs,hx,h3⟩;rw [Q1 hs,<-Q1 h1,List.drop_left]
   | succ i=>
     simp only [List.set_cons_succ];have:=ih h3 (by simpa using hi);unfold RRow;refine ⟨v,_,?_,h1,h2,this⟩;simp only [putCells];have e1:(i+1) * g7 ek=v.cells.toList.length+i * g7 ek:=by rw [Q1 h1,Nat.succ_mul];omega
     rw [e1,List.take_length_add_append,Nat.add_assoc,<-List.drop_drop,List.drop_left];simp [List.append_assoc]
theorem qt1 {ek:Option Nat} {cs:List HV} {vs:List Value} {x':HV} (hr:RHs w F H m cs vs) (h1:∀ u∈vs,u.oneCell'=true) (hl:vs.length=g7 ek) (hu:wH ek cs=some x'):∃ v',RH w F H m x' v'/\v'.cells.toList=vs/\Shape ek v':=by
 cases ek with
 | none=>
   simp only [wH] at hu;obtain ⟨v,hv,hvr⟩:=pE hr hu;simp only [g7] at hl;have ho:=h1 v (List.mem_of_getElem? hv);have hc:v.cells.toList=[v]:=by cases v<;>first | rfl | cases ho
   refine ⟨v,hvr,?_,ho⟩;rw [hc];cases vs with
   | nil=>simp at hl
   | cons y ys=>
     have:ys=[]:=List.eq_nil_of_length_eq_zero (by simpa using hl);subst this;simp at hv;rw [hv]
 | some n=>
   simp only [wH,Option.some.injEq] at hu;subst hu;exact ⟨.agg vs.toArray,bA hr h1,by simp [Value.cells],⟨vs,rfl,hl,h1⟩⟩
theorem rI {ek:Option Nat} {cs:List CV} {vs:List Value} {x':CV} (hr:RCs w F cs vs) (h1:∀ u∈vs,u.oneCell'=true) (hl:vs.length=g7 ek) (hu:J1 ek cs=some x'):∃ v',RC w F x' v'/\v'.cells.toList=vs/\Shape ek v':=by
 cases ek with
 | none=>
   simp only [J1] at hu;obtain ⟨v,hv,hvr⟩:=zj2 hr hu;simp only [g7] at hl;have ho:=h1 v (List.mem_of_getElem? hv);have hc:v.cells.toList=[v]:=by cases v<;>first | rfl | cases ho
   refine ⟨v,hvr,?_,ho⟩;rw [hc];cases vs with
   | nil=>simp at hl
   | cons y ys=>
     have:ys=[]:=List.eq_nil_of_length_eq_zero (by simpa using hl);subst this;simp at hv;rw [hv]
 | some n=>
   simp only [J1,Option.some.injEq] at hu;subst hu;exact ⟨.agg vs.toArray,by unfold RC;exact ⟨vs,rfl,hr,h1⟩,by simp [Value.cells],⟨vs,rfl,hl,h1⟩⟩
theorem sQ {cs ds:List CV}:∀ {vs us:List Value},RCs w F cs vs->RCs w F ds us->RCs w F (cs++ds) (vs++us):=by
 induction cs with
 | nil=>intro vs us h k;rw [rcs_nil] at h;subst h;exact k
 | cons c cs ih=>
   intro vs us h k;rw [rcs_cons] at h;obtain ⟨v,vs',rfl,h1,h2⟩:=h;rw [List.cons_append,List.cons_append,rcs_cons];exact ⟨v,vs'++us,rfl,h1,ih h2 k⟩
theorem j14 {us v0 new:List Value} {A off:Nat} (hv:∀ q,q<v0.length->v0[q]?=us[A+q]?) (h1:off+new.length<=v0.length) (h2:A+v0.length<=us.length):putCells us A (putCells v0 off new)=putCells us (A+off) new:=by
 have hv0:v0=(us.drop A).take v0.length:=by
  apply List.ext_getElem?;intro q;rw [List.getElem?_take,List.getElem?_drop];by_cases hq:q<v0.length
  . rw [if_pos hq];exact hv q hq
  . rw [if_neg hq,List.getElem?_eq_none (by omega)]
 have hus:us=us.take A++(v0++us.drop (A+v0.length)):=by
  conv=>lhs;rw [<-List.take_append_drop A us]
  congr 1;conv=>lhs;rw [<-List.take_append_drop v0.length (us.drop A)]
  rw [<-hv0,List.drop_drop]
 have hA:(us.take A).length=A:=by rw [List.length_take];omega
 generalize us.take A=pre at hus hA;generalize us.drop (A+v0.length)=post at hus;subst hus;have hl:(putCells v0 off new).length=v0.length:=nP h1;have e1:putCells (pre++(v0++post)) A (putCells v0 off new)=pre++(putCells v0 off new++post):=by
  conv=>lhs;unfold putCells
  rw [show List.take off v0++new++List.drop (off+new.length) v0=putCells v0 off new from rfl,hl,<-hA,List.take_left,<-List.drop_drop,List.drop_left,List.drop_left,List.append_assoc]
 rw [e1];unfold putCells;have e2:A+off+new.length=A+(off+new.length):=by omega
 have e3:List.drop (pre.length+(off+new.length)) (pre++(v0++post))=List.drop (off+new.length) (v0++post):=by rw [<-List.drop_drop,List.drop_left]
 rw [e2,<-hA,List.take_length_add_append,e3,List.take_append_of_le_length (by omega),List.drop_append_of_le_length h1];simp [List.append_assoc]
theorem mC {t:TypeId} {x y:Operand} {w':World} (ho:o.op=.store t x y) (hdst:o.dst=none) {u v:Value} (hx:a.eval x=u) (hy:a.eval y=v) (hr:(Instr.storeAt t u v).run P w=.ok () w') (hK:K a w'):o.wp P a w K Q:=by
 unfold Oper.wp execOp;simp only [ho,hx,hy,Sem.run_bind,hr,Result.andThen_ok,Sem.run_pure];show K (a.put o.dst undef) w';rw [hdst];exact hK
theorem zu8 {cur new:List Value} (h:new.length=cur.length):putCells cur 0 new=new:=by
 simp only [putCells,List.take_zero,List.nil_append,Nat.zero_add,h,List.drop_length,List.append_nil]
theorem j51 {t:TypeId} {x y:Operand} {ix iy:Opd} {ek:Option Nat} (ho:o.op=.store t x y) (hdst:o.dst=none) (he:A0 P t=some ek) (hx:c7 x=some ix) (hy:c7 y=some iy) (hs:RS fb N w F H m lb fr a)
 {fr':Fr} {H':j6} (hd:x4 (.store ek ix iy) o.dst fr H=some (fr',H')) (h:Next fb N w F H m fr' H' K):o.wp P a w K Q:=by
 obtain ⟨hv,_⟩:=B8 hs.fr hy;unfold x4 at hd;dsimp only at hd;cases hp:fr.place ix with
 | some p=>
   obtain ⟨b,off⟩:=p;rw [hp] at hd;dsimp only at hd;obtain ⟨⟨ek',x0,hb⟩,hpl⟩:=pD hs.fr hx hp;rw [hb] at hd;dsimp only at hd;obtain ⟨_,_,_,_,_,_,hft,v0,e,h7,h8,h9⟩:=hs.fr.box b ek' x0 hb;split at hd
   . rename_i hfit;obtain ⟨hsh,hfl,hone⟩:=wT hfit hv;have hcur:w.heap[lb b]?=some (.cells v0.cells.toList.toArray e (0,0)):=by simpa using h7
     split at hd
     . rename_i hw;obtain ⟨w1,w2⟩:=hw;subst w1;subst w2;injection hd with hd;injection hd with q1 q2;subst q1;subst q2;have hlen:(a.eval y).cells.toList.length=v0.cells.toList.length:=by rw [Q1 hsh,Q1 h8]
       have hrun:=nY (P:=P) he hcur hsh hone (off:=0) (by omega);rw [zu8 hlen] at hrun;obtain ⟨k1,k2⟩:=zb4 hs hb (cs:=(a.eval y).cells.toList.toArray) h7 (v':=a.eval y) (by simp) hsh hfit hv;exact mC ho hdst hpl rfl hrun (h F m lb a _ k2 k1)
     . split at hd
       . rename_i hle;cases hu:wH ek' (H9 x0.flat off (fr.opd iy).flat) with
         | none=>rw [hu] at hd;cases hd
         | some x'=>
           rw [hu] at hd;dsimp only at hd;split at hd
           . rename_i hft';injection hd with hd;injection hd with q1 q2;subst q1;subst q2;obtain ⟨_,hfl0,hone0⟩:=wT hft h9;have l1:=qM hfl0;have l2:=qM hfl;have hrp:=lS hfl0 hfl off;have hle':off+(a.eval y).cells.toList.length<=v0.cells.toList.length:=by omega
             obtain ⟨v',r1,r2,r3⟩:=qt1 (ek:=ek') hrp (fun u hu'=>by
              rcases lC hu' with h' | h'
              . exact hone0 u h'
              . exact hone u h') (by rw [show (v0.cells.toList.take off++(a.eval y).cells.toList++v0.cells.toList.drop (off+(a.eval y).cells.toList.length))=putCells v0.cells.toList off (a.eval y).cells.toList from rfl,nP hle',Q1 h8]) hu
             have hrun:=nY (P:=P) he hcur hsh hone hle';have hcs:(putCells v0.cells.toList off (a.eval y).cells.toList).toArray=v'.cells:=by
              rw [show putCells v0.cells.toList off (a.eval y).cells.toList=v'.cells.toList from r2.symm]
             rw [hcs] at hrun;obtain ⟨k1,k2⟩:=zb4 hs hb (cs:=v'.cells) h7 (v':=v') rfl r3 hft' r1;exact mC ho hdst hpl rfl hrun (h F m lb a _ k2 k1)
           . cases hd
       . cases hd
   . cases hd
 | none=>
   rw [hp] at hd;dsimp only at hd;obtain ⟨hpx,_⟩:=B8 hs.fr hx;cases hst:T0 ek (fr.opd ix) (fr.opd iy) H with
   | none=>rw [hst] at hd;cases hd
   | some H1=>
     rw [hst] at hd;injection hd with hd;injection hd with q1 q2;subst q1;subst q2;generalize fr.opd ix=vx at hst hpx;generalize fr.opd iy=vy at hst hv;cases vx with
     | ptr id off=>
       simp only [T0] at hst;split at hst
       . rename_i ek' cs hH;split at hst
         . rename_i hc;obtain ⟨hfit,hle⟩:=hc;injection hst with hst;subst hst;obtain ⟨hsh,hfl,hone⟩:=wT hfit hv;unfold RH at hpx;obtain ⟨hpx,_⟩:=hpx;obtain ⟨_,vs,e,k1,k2,k3⟩:=hs.heap.var id ek' cs hH;have l1:=qM hfl;have l2:=qM k2;have hle':off+(a.eval y).cells.toList.length<=vs.length:=by omega
           have hrun:=nY (P:=P) he k1 hsh hone hle';have hrp:=lS k2 hfl off;obtain ⟨r1,r2⟩:=zp1 hs.heap hH k1 (cs':=H9 cs off vy.flat) (vs':=putCells vs off (a.eval y).cells.toList) (zz6 _ _ _ hle) hrp (fun u hu'=>by
            rcases lC hu' with h' | h'
            . exact k3 u h'
            . exact hone u h')
           refine mC ho hdst hpx rfl hrun (h F m lb a _ (r2.mono hs.fb) ⟨r1,hs.fr.step r2,Nat.le_trans hs.fb r2.size⟩)
         . cases hst
       . cases hst
     | eptr id ver i off=>
       simp only [T0] at hst;cases hcl:P1 vy H with
       | none=>rw [hcl] at hst;cases hst
       | some p=>
         obtain ⟨u,H2⟩:=p;rw [hcl] at hst;dsimp only at hst;obtain ⟨F2,g1,g2,g3,gz⟩:=z90 hs.heap hv hcl;split at hst
         . rename_i e ek' ver' xs hH2;split at hst
           . rename_i hc;obtain ⟨hv',hfit⟩:=hc;subst hv';obtain ⟨hsh,hfl,hone⟩:=xK hfit g3;cases hxi:xs[i]? with
             | none=>rw [hxi] at hst;cases hst
             | some x0=>
               rw [hxi] at hst;dsimp only at hst;have hil:=(gEs hxi).1;obtain ⟨us,rest,⟨q0,k1,hq0⟩,k2,k3,k4,k5,k6,k7⟩:=g1.row id false e ek' _ xs hH2;cases hq0 rfl;have hpx2:=RH.grow g2.g _ _ hpx;unfold RH at hpx2;obtain ⟨ad,hpx3,_,had⟩:=hpx2;have had:=had _ _ _ _ hH2;subst had;obtain ⟨v0,m1,m2,m3⟩:=sC k2 hxi;have hul:=wZ k2;have hse:(i+1) * g7 ek'<=us.length:=by rw [hul];exact Nat.mul_le_mul_right _ hil
               have hse':i * g7 ek'+g7 ek'<=us.length:=by rw [Nat.succ_mul] at hse;exact hse
               have fin:∀ (x':CV) (v':Value),RC w F2 x' v'->Shape ek' v'->H1=H2.set id (.row false e ek' ver' (xs.set i x')) ->
                putCells us (i * g7 ek') v'.cells.toList=putCells us (i * g7 ek'+off) (a.eval y).cells.toList->i * g7 ek'+off+(a.eval y).cells.toList.length<=us.length->o.wp P a w K Q:=by
                intro x' v' hx' hs' hH1 hcells hle;have hr':=iJ hx' hs' k2 hil;have hlen':(putCells us (i * g7 ek') v'.cells.toList).length=us.length:=nP (by rw [Q1 hs'];exact hse');obtain ⟨r1,r2⟩:=rR g1 hH2 k1 (us':=putCells us (i * g7 ek') v'.cells.toList) (rest':=rest) (by omega) k3 k4 k5 (Nat.le_refl _) (fun _=>by simp) hr';have hrun:=nY (P:=P) he (w:=w) (g:=(m id).blk) (off:=i * g7 ek'+off) k1 hsh hone (by simp only [List.length_append];omega);have harr:putCells (us++rest) (i * g7 ek'+off) (a.eval y).cells.toList=putCells us (i * g7 ek') v'.cells.toList++rest:=by
                 rw [hcells];simp only [putCells];rw [List.take_append_of_le_length (by omega),List.drop_append_of_le_length hle];simp [List.append_assoc]
                rw [harr] at hrun;subst hH1;have st:=g2.trans r2;refine mC ho hdst hpx3 rfl hrun (h F2 m lb a _ (st.mono hs.fb) ⟨r1,hs.fr.step st,Nat.le_trans hs.fb st.size⟩)
               split at hst
               . rename_i hw;obtain ⟨w1,w2⟩:=hw;subst w1;subst w2;injection hst with hst;refine fin u _ g3 hsh hst.symm (by simp) (by rw [Q1 hsh];omega)
               . split at hst
                 . rename_i hle;cases hu:J1 ek' (uH x0.flat off u.flat) with
                   | none=>rw [hu] at hst;cases hst
                   | some x'=>
                     rw [hu] at hst;dsimp only at hst;split at hst
                     . rename_i hfx;injection hst with hst;obtain ⟨_,hfl0,hone0⟩:=xK (lI m2 m1) m1;have l1:=jE hfl0;have l2:=jE hfl;have hrp:RCs w F2 (uH x0.flat off u.flat) (putCells v0.cells.toList off (a.eval y).cells.toList):=by
                        unfold uH putCells;rw [l2];exact sQ (sQ (dC off hfl0) hfl) (nB _ hfl0)
                       have hle':off+(a.eval y).cells.toList.length<=v0.cells.toList.length:=by omega
                       obtain ⟨v',r1,r2,r3⟩:=rI (ek:=ek') hrp (fun q hq=>by
                        rcases lC hq with h' | h'
                        . exact hone0 q h'
                        . exact hone q h') (by rw [nP hle',Q1 m2]) hu
                       have hv0:=Q1 m2;refine fin x' v' r1 r3 hst.symm ?_ (by omega);rw [r2];exact j14 (fun q hq=>by
                        rw [gEg hq];exact (m3 q _ (gEg hq)).symm) hle' (by omega)
                     . cases hst
                 . cases hst
           . cases hst
         . cases hst
     | _=>simp [T0] at hst
end
end Go.Proofs.Lz
