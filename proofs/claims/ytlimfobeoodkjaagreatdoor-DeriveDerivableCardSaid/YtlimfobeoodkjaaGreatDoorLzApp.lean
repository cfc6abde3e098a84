/- Appending. -/
import Derived.Test.YtlimfobeoodkjaaGreatDoorLzMap
import Derived.Laws.BytesString
import Derived.Deep.AppendSrc
set_option linter.unusedVariables false
set_option linter.unusedSimpArgs false
set_option linter.unusedSectionVars false
namespace Go.Proofs.Lz
variable [GlobTab]
section
variable {P:Program} {fb N:Nat} {w:World} {F:Nat->Prop} {H:q7} {m:j7} {lb:Nat->Nat} {fr:Fr} {a:Act} {o:Oper}
variable {K:Act->World->Prop} {Q:Exit->Act->World->Prop}
theorem yF (h:RHeap w F H m):RHeap w.drew F H m:=by
 have g:Grows F F H H m m w w.drew:=⟨Keeps.of (fun _ h=>h) (fun _ _=>rfl),fun _ _ cs h=>⟨rfl,cs,h,rfl⟩,fun _ fz e ek ver xs h=>⟨fz,ver,xs,h,Nat.le_refl _,fun _=>⟨rfl,rfl⟩⟩,fun _ es ck h=>⟨rfl,es,ck,h⟩⟩;exact h.same g (fun _ _=>rfl) (fun _ _=>rfl) (Nat.le_refl _) (fun _ h=>.inl h)
theorem aW (fb':Nat):Stp fb' F F H H m m w w.drew:=Stp.drawn fb' F H m w (w.drawn+1)
theorem iQ (hh:RHeap w F H m) {id e ver ver' cap':Nat} {ek:Option Nat} {xs xs':List CV} {us' rest':List Value} (hH:H[id]?=some (.row false e ek ver xs)) (hver:ver<ver')
 (hr:RRow w F ek xs' us') (htot:us'.length+rest'.length=cap' * j0 ek) (hcap:cap'<=maxLen) (hpos:0<j0 ek) :
 RHeap (w.alloc (.cells (us'++rest').toArray e (0,0))) F (H.set id (.row false e ek ver' xs')) (upd m id ⟨w.heap.size,cap'⟩) /\
 Stp w.heap.size F F H (H.set id (.row false e ek ver' xs')) m (upd m id ⟨w.heap.size,cap'⟩) w (w.alloc (.cells (us'++rest').toArray e (0,0))):=by
 have hid:=(gEs hH).1;have hsm:∀ j,j≠id->(H.set id (.row false e ek ver' xs'))[j]?=H[j]?:=fun j hj=>List.getElem?_set_ne (Ne.symm hj);have hself:(H.set id (.row false e ek ver' xs'))[id]?=some (.row false e ek ver' xs'):=by simp [hid]
 have hold:∀ j,j≠id->upd m id ⟨w.heap.size,cap'⟩ j=m j:=fun j hj=>by simp [upd,hj]
 have hnew:upd m id (⟨w.heap.size,cap'⟩:Loc) id=⟨w.heap.size,cap'⟩:=by simp [upd]
 have hlt:∀ j,j<H.length->(m j).blk<w.heap.size:=fun j hj=>hh.there j H[j] (gEg hj);have hk:=uZ hh.fthere (.cells (us'++rest').toArray e (0,0));have hg:Grows F F H (H.set id (.row false e ek ver' xs')) m (upd m id ⟨w.heap.size,cap'⟩) w (w.alloc (.cells (us'++rest').toArray e (0,0))):=by
  refine ⟨hk,?_,?_,?_⟩
  . intro j ek2 cs2 hj;have:j≠id:=by rintro rfl;rw [hH] at hj;cases hj
    exact ⟨by rw [hold j this],cs2,by rw [hsm j this];exact hj,rfl⟩
  . intro j fz e2 ek2 ver2 xs2 hj;by_cases e3:j=id
    . subst e3;rw [hH] at hj;injection hj with hj;injection hj with z1 z2 z3 z4 z5;subst z1;subst z2;subst z3;subst z4;subst z5;exact ⟨false,ver',xs',hself,Nat.le_of_lt hver,fun hv=>absurd hv (by omega)⟩
    . exact ⟨fz,ver2,xs2,by rw [hsm j e3];exact hj,Nat.le_refl _,fun _=>⟨hold j e3,rfl⟩⟩
  . intro j es ck hj;have:j≠id:=by rintro rfl;rw [hH] at hj;cases hj
    exact ⟨by rw [hold j this],es,ck,by rw [hsm j this];exact hj⟩
 refine ⟨⟨?_,?_,?_,?_,?_,?_,hh.glob.keep hk,?_⟩,hg,by rw [A6];omega,rfl,rfl,rfl,?_⟩
 . intro j o' ho';have hl:j<H.length:=by have:=(gEs ho').1;simpa using this
   rw [A6];by_cases e3:j=id
   . subst e3;rw [hnew];show w.heap.size<_;omega
   . rw [hold j e3];have:=hlt j hl;omega
 . intro b hb;rw [A6];have:=hh.fthere b hb;omega
 . intro j ek2 cs2 hj;have e4:j≠id:=by rintro rfl;rw [hself] at hj;cases hj
   rw [hsm j e4] at hj;have hl:=(gEs hj).1;obtain ⟨k1,vs2,e3,k2,k3,k4⟩:=hh.var j ek2 cs2 hj;rw [hold j e4];exact ⟨k1,vs2,e3,(heap_alloc_old w _ _ (hlt j hl)).trans k2,RHs.grow hg _ _ k3,k4⟩
 . intro j ek2 cs2 T hj hT;have e4:j≠id:=by rintro rfl;rw [hself] at hj;cases hj
   rw [hsm j e4] at hj;have hl:=(gEs hj).1;rw [hold j e4];exact (hh.ty j ek2 cs2 T hj hT).imp fun vs k=>(heap_alloc_old w _ _ (hlt j hl)).trans k
 . intro j fz e2 ek2 ver2 xs2 hj;by_cases e3:j=id
   . subst e3;rw [hself] at hj;injection hj with hj;injection hj with z1 z2 z3 z4 z5;subst z1;subst z2;subst z3;subst z4;subst z5;rw [hnew];exact ⟨us',rest',⟨_,heap_alloc_new w _,fun _=>rfl⟩,RRow.keep hk _ _ _ hr,htot,hcap,hpos,(fun hf=>by cases hf),fun _ hf=>Nat.lt_irrefl _ (hh.fthere _ hf)⟩
   . rw [hsm j e3] at hj;have hl:=(gEs hj).1;obtain ⟨us2,rest2,k1,k2,k3,k4,k5,k6,k7⟩:=hh.row j fz e2 ek2 ver2 xs2 hj;rw [hold j e3];exact ⟨us2,rest2,k1.imp fun q k=>⟨(heap_alloc_old w _ _ (hlt j hl)).trans k.1,k.2⟩,RRow.keep hk _ _ _ k2,k3,k4,k5,k6,k7⟩
 . intro j es ck hj;have e4:j≠id:=by rintro rfl;rw [hself] at hj;cases hj
   rw [hsm j e4] at hj;have hl:=(gEs hj).1;obtain ⟨k1,l,k2,k3⟩:=hh.mp j es ck hj;rw [hold j e4];exact ⟨k1,l,(heap_alloc_old w _ _ (hlt j hl)).trans k2,REnt.grow hg _ _ k3⟩
 . intro i j hi hj he;rw [List.length_set] at hi hj;by_cases e1:i=id
   . by_cases e2:j=id
     . omega
     . subst e1;rw [hnew,hold j e2] at he;have:=hlt j hj;simp only at he;omega
   . by_cases e2:j=id
     . subst e2;rw [hnew,hold i e1] at he;have:=hlt i hi;simp only at he;omega
     . rw [hold i e1,hold j e2] at he;exact hh.inj i j hi hj he
 . intro b hb hid';refine ⟨heap_alloc_old w _ b hb,?_,fun h=>h⟩;intro j hj;rw [List.length_set] at hj;by_cases e1:j=id
   . subst e1;rw [hnew];show w.heap.size≠b;omega
   . rw [hold j e1];exact hid' j hj
theorem rW {ek:Option Nat} {xs:List CV}:∀ {us:List Value},RRow w F ek xs us->∀ u∈us,u.oneCell'=true:=by
 induction xs with
 | nil=>intro us h;unfold RRow at h;subst h;simp
 | cons c cs ih=>
   intro us h u hu;unfold RRow at h;obtain ⟨v,ws,rfl,h1,h2,h3⟩:=h;rcases List.mem_append.1 hu with hu | hu
   . exact (X9 (gK h1 h2) h2).2.2 u hu
   . exact ih h3 u hu
theorem z65 {ek:Option Nat} {xs ys:List CV}:∀ {us vs:List Value},RRow w F ek xs us->RRow w F ek ys vs->RRow w F ek (xs++ys) (us++vs):=by
 induction xs with
 | nil=>intro us vs h k;unfold RRow at h;subst h;exact k
 | cons c cs ih=>
   intro us vs h k;unfold RRow at h;obtain ⟨v,ws,rfl,h1,h2,h3⟩:=h;rw [List.cons_append,List.append_assoc];unfold RRow;exact ⟨v,ws++vs,rfl,h1,h2,ih h3 k⟩
theorem lD (hh:RHeap w F H m) {ek:Option Nat} {x:HV} {v:Value} {new:List CV} (he:J8 ek x H=some new) (h:RH w F H m x v) :
 ∃ ad c us,v=.slice ad new.length c/\RRow w F ek new us/\(new≠[]->∃ b off,ad=some ⟨b,off,none⟩/\w.rangeAt b off us):=by
 unfold J8 at he;split at he
 . injection he with he;subst he;unfold RH at h;subst h;exact ⟨none,0,[],rfl,by unfold RRow;rfl,fun hne=>absurd rfl hne⟩
 . injection he with he;subst he;rw [rh_c] at h;unfold RC at h;obtain ⟨ad,cap,rfl,_,_⟩:=h;exact ⟨ad,cap,[],rfl,by unfold RRow;rfl,fun hne=>absurd rfl hne⟩
 . injection he with he;subst he;rw [rh_c] at h;unfold RC at h;obtain ⟨ad,cap,rfl⟩:=h;exact ⟨some ad,cap,[],rfl,by unfold RRow;rfl,fun hne=>absurd rfl hne⟩
 . rename_i ek' xs hne;split at he
   . rename_i hek;subst hek;injection he with he;subst he;rw [rh_c] at h;unfold RC at h;obtain ⟨ad,cap,rfl,_,h2⟩:=h;have hxs:xs≠[]:=by
      intro e;subst e;exact hne rfl
     obtain ⟨b,off,vs,rfl,_,h3,h4⟩:=h2 hxs;exact ⟨_,cap,vs,rfl,h4,fun _=>⟨b,off,rfl,h3⟩⟩
   . cases he
 . rename_i id ver off len;split at he
   . rename_i fz e ek' ver' xs hH;split at he
     . rename_i hc;obtain ⟨hek,hv,hle⟩:=hc;subst hek;subst hv;injection he with he;subst he;unfold RH at h;obtain ⟨ad,cap,rfl,_,hall⟩:=h;obtain ⟨p1,p2,p3,p4⟩:=hall _ _ _ _ hH;obtain ⟨us,rest,⟨_,k1,_⟩,k2,_⟩:=hh.row id fz e ek' _ xs hH;obtain ⟨ws,r1,r2⟩:=uU (P8 k1) k2 off len;have hlen:((xs.drop off).take len).length=len:=by rw [List.length_take,List.length_drop];omega
       refine ⟨some ad,cap,ws,by rw [hlen],r2,fun hne=>?_⟩;have hpos:0<len:=by rw [<-hlen];exact List.length_pos_iff.2 hne
       exact ⟨(m id).blk,off * j0 ek',by rw [p4 (.inl (by omega))],by simpa using r1⟩
     . cases he
   . cases he
 . cases he
theorem range_add {b off:Nat} {us:List Value} (h:w.rangeAt b off us):∀ j u,us[j]?=some u->w.cell? ((⟨b,off,none⟩:Addr).add j)=some u:=by
 intro j u hu;rw [Addr.add_mid];exact h j u hu
theorem cP (w:World) (F:Nat->Prop):∀ s:List UInt8,RRow w F none (bytesV s) (s.map fun b=>Value.int .u8 b.toNat)
 | []=>by unfold bytesV RRow;rfl
 | b::s=>by
   have:=cP w F s;unfold bytesV at this ⊢;simp only [List.map_cons];unfold RRow;exact ⟨.int .u8 b.toNat,_,rfl,by simp [Shape,Value.oneCell'],by rw [m7],this⟩
theorem q30 (hh:RHeap w F H m) {tx:TypeId} (hk:(∃ e',P.underlying tx=some (.slice e'))\/P.underlying tx=some .string) {size:Nat} {ek:Option Nat} (hsz:size=j0 ek) {x:HV} {v:Value} {new:List CV} (he:zH ek x H=some new) (h:RH w F H m x v) :
 ∃ us:List Value,Src P size tx v new.length us w/\RRow w F ek new us:=by
 unfold zH at he;split at he
 . rename_i s;split at he
   . rename_i hek;subst hek;injection he with he;subst he;rw [rh_c,a6] at h;subst h;have hl:(bytesV s).length=(⟨s.toArray⟩:ByteArray).size:=by simp [bytesV,ByteArray.size]
     have hb:byteCells ⟨s.toArray⟩=s.map fun b=>Value.int .u8 b.toNat:=by simp [byteCells]
     simp only [j0] at hsz;subst hsz;refine ⟨_,⟨hk,fun _=>by rw [hl];rfl,?_,?_,?_,?_⟩,cP w F s⟩
     . rw [hl,<-hb];exact firstCells_string _ _
     . rw [hl,<-hb];exact firstCells_string _ _
     . simp [bytesV]
     . intro u hu;obtain ⟨_,_,rfl⟩:=List.mem_map.1 hu;rfl
   . cases he
 . obtain ⟨ad,c,us,rfl,hrow,hrange⟩:=lD hh he h;have hul:us.length=new.length * size:=by rw [X6 hrow,hsz]
   refine ⟨us,⟨hk,fun _=>rfl,?_,?_,hul,rW hrow⟩,hrow⟩
   . by_cases hn:new=[]
     . subst hn;simp at hul;subst hul;cases ad with
       | none=>exact run_firstCells_none w size 0 0 c
       | some ad=>exact run_firstCells_some w size 0 ad 0 c [] (by simp) (by simp)
     . obtain ⟨b,off,rfl,hr⟩:=hrange hn;exact run_firstCells_some w size _ _ _ c us hul (range_add hr)
   . by_cases hn:new=[]
     . subst hn;simp at hul;subst hul;cases ad with
       | none=>exact run_firstCells_none w.drew size 0 0 c
       | some ad=>exact run_firstCells_some w.drew size 0 ad 0 c [] (by simp) (by simp)
     . obtain ⟨b,off,rfl,hr⟩:=hrange hn;exact run_firstCells_some w.drew size _ _ _ c us hul (by simpa using range_add hr)
theorem lZ {t tx ty e:TypeId} {i:TypeInfo} (ht:P.underlying t=some (.slice e)) (hi:P.info? e=some i) (base:Option Addr) (n cap:Nat) (hn:n<=cap) {x:Value} {us:List Value} (hs:Src P i.size tx x 0 us w) :
 (Builtin.append_ #[t,tx] ty #[.slice base n cap,x]).run P w=.ok (.slice base n cap) w:=by
 have hu:us=[]:=by have:=hs.newsLen;simpa using this
 subst hu;have hc:=hs.cells;rcases hs.kind with ⟨e',hk⟩ | hk<;>cases base with
 | none=>simp [Builtin.append_,run_underlying ht,run_underlying hk,sizeOf,typeInfo,hi,hs.len,hc,hn]
 | some b=>simp [Builtin.append_,run_underlying ht,run_underlying hk,sizeOf,typeInfo,hi,hs.len,hc,hn,storeCells]
theorem zy9 (t tx ty e:TypeId) (i:TypeInfo) (ht:P.underlying t=some (.slice e)) (hi:P.info? e=some i)
 (g sLen sCap:Nat) (cur:Array Value) (hg:w.heap[g]?=some (.cells cur e (0,0))) (x:Value) (n:Nat) (news:List Value) (hs:Src P i.size tx x n news w)
 (hroom:sLen+n<=sCap) (hfit:sLen * i.size+news.length<=cur.size) :
 (Builtin.append_ #[t,tx] ty #[.slice (some ⟨g,0,none⟩) sLen sCap,x]).run P w =
   .ok (.slice (some ⟨g,0,none⟩) (sLen+n) sCap) (w.setRow g (cur.toList.take (sLen * i.size)++news++cur.toList.drop (sLen * i.size+news.length)).toArray):=by
 have hst:=run_storeCells_at P g (sLen * i.size) e news 0 cur w hg (by simpa using hfit) hs.one;simp only [Nat.add_zero] at hst;rcases hs.kind with ⟨e',hk⟩ | hk<;>simp [Builtin.append_,run_underlying ht,run_underlying hk,sizeOf,typeInfo,hi,hs.len,hroom,hs.cells,Addr.add_lit,hst]
theorem jV {t tx:TypeId} {s x:Operand} {v u r:Value} {w':World} (ho:o.op=.call { callee:=.builtin .append,args:=#[s,x],argTypes:=#[t,tx] }) (hs:a.eval s=v) (hx:a.eval x=u)
 (hr:(Builtin.append_ #[t,tx] o.type #[v,u]).run P w=.ok r w'):(execOp a.eval o).run P w=.ok (.value r) w':=by
 simp only [execOp,ho,resolve,invoke,builtin,Sem.run_bind,Sem.run_pure,Result.andThen_ok,List.map_toArray,List.map_cons,List.map_nil,hs,hx,hr]
theorem dG {t tx e:TypeId} {s x:Operand} {is ix:Opd} {ek:Option Nat} {i:TypeInfo} {z:Value} (ho:o.op=.call { callee:=.builtin .append,args:=#[s,x],argTypes:=#[t,tx] }) (ht:P.underlying t=some (.slice e)) (hk:(∃ e',P.underlying tx=some (.slice e'))\/P.underlying tx=some .string) (he:x5 P e=some ek)
 (hi:P.info? e=some i) (hz:i.zero=some z) (hzs:z.cells.size=j0 ek) (hsx:j5 s=some is) (hx:j5 x=some ix) (hs:RS fb N w F H m lb fr a) (hN:∀ d,o.dst=some d->d<N)
 {fr':Fr} {H':q7} (hd:q9 (.app e ek i.bytes is ix) o.dst fr H=some (fr',H')) (h:Next fb N w F H m fr' H' K):o.wp P a w K Q:=by
 obtain ⟨h1,_⟩:=j9 hs.fr hsx;obtain ⟨h2,_⟩:=j9 hs.fr hx;have hisz:i.size=j0 ek:=by have:=(T9 he).1;simpa [hi] using this
 have hpos:=(T9 he).2;unfold q9 at hd;dsimp only at hd;cases ha:appH e ek i.bytes (fr.opd is) (fr.opd ix) H with
 | none=>rw [ha] at hd;cases hd
 | some p=>
   obtain ⟨v,H1⟩:=p;rw [ha] at hd;injection hd with hd;injection hd with q1 q2;subst q1;subst q2;generalize fr.opd is=vs at ha h1;generalize fr.opd ix=vx at ha h2;unfold appH at ha;cases hel:zH ek vx H with
   | none=>rw [hel] at ha;cases ha
   | some new=>
     rw [hel] at ha;dsimp only at ha;generalize e1:a.eval x=vx' at h2;obtain ⟨us,hsrc,hrow⟩:=q30 (P:=P) hs.heap hk hisz hel h2;have hul:us.length=new.length * i.size:=by rw [X6 hrow,hisz]
     have hone:=rW hrow;split at ha
     . unfold RH at h1;split at ha
       . rename_i hn;subst hn;injection ha with ha;injection ha with z1 z2;subst z1;subst z2;refine x7 hs hN (u:=.slice none 0 0) (by unfold RH;rfl) (by simp) h (jV ho h1 e1 ?_);exact lZ ht hi none 0 0 (Nat.le_refl _) hsrc
       . rename_i hn;split at ha
         . rename_i hlim;injection ha with ha;injection ha with z1 z2;subst z1;subst z2;have hlen:0<new.length:=List.length_pos_iff.2 hn;simp only [lim] at hlim;have hrun:=run_append_grow_src (P:=P) w t tx o.type e i z ht hi hz none 0 0 [] (run_firstCells_none w.drew i.size 0 0 0) vx' new.length us hsrc (by omega) (by omega) (by rw [Nat.zero_add,nextslicecap_zero hlen];omega);simp only [Nat.zero_add,List.nil_append] at hrun;have hcl:=grownCap_le_maxLen w new.length 0 e (by simp only [maxLen];omega);have hcg:=grownCap_ge w new.length 0 e;generalize grownCap w new.length 0 e=cap at hrun hcl hcg;have hcells:(us.toArray++Builtin.zeroCells z.cells (cap - new.length))=(us++(Builtin.zeroCells z.cells (cap - new.length)).toList).toArray:=by simp
           rw [hcells] at hrun;have st0:=aW (F:=F) (H:=H) (m:=m) (w:=w) w.heap.size;have hh0:=yF hs.heap;have st1:=qF hh0 (.cells (us++(Builtin.zeroCells z.cells (cap - new.length)).toList).toArray e (0,0)) (.row false e ek 0 new) cap;have hh1:=bP hh0 (vs:=us++(Builtin.zeroCells z.cells (cap - new.length)).toList) (e:=e) (ho:=.row false e ek 0 new) (cap:=cap) (fun ek' cs he=>by cases he) (fun fz e' ek' ver xs he=>by
            injection he with y1 y2 y3 y4 y5;subst y1;subst y2;subst y3;subst y4;subst y5;refine ⟨rfl,rfl,us,_,rfl,RRow.keep st1.g.keeps _ _ _ (RRow.keep st0.g.keeps _ _ _ hrow),?_,hcl,hpos⟩;rw [hul,hisz];simp only [Array.length_toList,size_zeroCells,hzs];rw [<-Nat.add_mul];congr 1;omega)
           refine O4 hs hN (st0.trans st1) hh1 (u:=.slice (some ⟨w.heap.size,0,none⟩) new.length cap) ?_ (by simp) h (jV ho h1 e1 hrun);unfold RH;refine ⟨_,_,rfl,⟨false,e,ek,0,new,by simp,Nat.le_refl _⟩,fun fz e2 ek2 xs2 hH2=>?_⟩;simp at hH2;obtain ⟨y1,y2,y3,y4⟩:=hH2;subst y4;subst y3;refine ⟨by omega,by simp [upd],hcg,fun _=>by simp [upd]⟩
         . cases ha
     . rename_i id ver n;split at ha
       . rename_i e' ek' ver' xs hH;split at ha
         . rename_i hc;obtain ⟨y1,y2,y3,hnx,hb1,hb2⟩:=hc;subst y1;subst y2;subst y3;injection ha with ha;injection ha with z1 z2;subst z1;subst z2;simp only [lim] at hb1 hb2;unfold RH at h1;obtain ⟨ad0,cap,h1,hex,hall⟩:=h1;obtain ⟨p1,p2,p3,p4⟩:=hall _ _ _ _ hH;have had:=p4 (.inr rfl);simp only [Nat.zero_mul,Nat.zero_add] at had p1 p2;subst had;obtain ⟨cs,rest,⟨q0,k1,hq0⟩,k2,k3,k4,k5,k6,k7⟩:=hs.heap.row id false e' ek' _ xs hH;cases hq0 rfl;have hcl:=X6 k2;have hnle:n * j0 ek'<=cs.length:=by rw [hcl];exact Nat.mul_le_mul_right _ hnx
           have hkeepn:=aB n k2;have hrow':=z65 hkeepn hrow;have hlen':(cs.take (n * j0 ek')).length=n * j0 ek':=by rw [List.length_take];omega
           have hres:∀ (F2:Nat->Prop) (m2:j7) (w2:World) (b2 cap2:Nat),m2 id=⟨b2,cap2⟩->n+new.length<=cap2 ->
            RH w2 F2 (H.set id (.row false e' ek' (ver'+1) (xs.take n++new))) m2 (.sl id (ver'+1) 0 (n+new.length)) (.slice (some ⟨b2,0,none⟩) (n+new.length) cap2):=by
            intro F2 m2 w2 b2 cap2 hm2 hcap2;have hid:=(gEs hH).1;unfold RH;refine ⟨_,_,rfl,⟨false,e',ek',ver'+1,xs.take n++new,by simp [hid],Nat.le_refl _⟩,fun fz e2 ek2 xs2 hH2=>?_⟩;simp [hid] at hH2;obtain ⟨y1,y2,y3,y4⟩:=hH2;subst y4;subst y3;rw [hm2];refine ⟨by simp only [List.length_append,List.length_take];omega,by simp,hcap2,fun _=>by simp⟩
           have hcur:(cs++rest).toArray.toList=cs++rest:=by simp
           by_cases hnew:new=[]
           . subst hnew;simp only [List.length_nil,Nat.add_zero,List.append_nil] at *;have hself:w.setRow (m id).blk (cs.take (n * j0 ek')++(cs.drop (n * j0 ek')++rest)).toArray=w:=by
              rw [<-List.append_assoc,List.take_append_drop];exact setRow_self w _ _ e' (0,0) k1
             obtain ⟨r1,r2⟩:=pU hs.heap hH k1 (ver':=ver'+1) (xs':=xs.take n) (us':=cs.take (n * j0 ek')) (rest':=cs.drop (n * j0 ek')++rest) (by simp only [List.length_append,List.length_take,List.length_drop];omega) k3 k4 k5 (by omega) (fun hv=>absurd hv (by omega)) hkeepn;rw [hself] at r1 r2;refine O4 hs hN r2 r1 (hres F m w (m id).blk cap (by subst p2;rfl) p3) (by simp) h (jV ho h1 e1 ?_);exact lZ ht hi _ n cap p3 hsrc
           . by_cases hroom:n+new.length<=cap
             . have hfit:n * i.size+us.length<=(cs++rest).toArray.size:=by
                rw [hul,hisz,List.size_toArray,List.length_append,k3,<-p2,<-Nat.add_mul];exact Nat.mul_le_mul_right _ hroom
               have hrun:=zy9 (P:=P) (w:=w) t tx o.type e' i ht hi (m id).blk n cap (cs++rest).toArray k1 vx' new.length us hsrc hroom hfit;rw [hcur,hisz] at hrun;rw [List.take_append_of_le_length hnle] at hrun;obtain ⟨r1,r2⟩:=pU hs.heap hH k1 (ver':=ver'+1) (xs':=xs.take n++new) (us':=cs.take (n * j0 ek')++us) (rest':=(cs++rest).drop (n * j0 ek'+us.length)) (by
                simp only [List.length_append,List.length_drop,hlen'];have:=hfit;rw [hisz,List.size_toArray,List.length_append] at this;omega) k3 k4 k5 (by omega) (fun hv=>absurd hv (by omega)) hrow'
               refine O4 hs hN r2 r1 (hres F m _ (m id).blk cap (by subst p2;rfl) hroom) (by simp) h (jV ho h1 e1 hrun)
             . have holds:∀ j v,(cs.take (n * j0 ek'))[j]?=some v->w.cell? ((⟨(m id).blk,0,none⟩:Addr).add j)=some v:=by
                refine range_add ?_;intro j v hv;rw [List.getElem?_take] at hv;split at hv
                . exact P8 k1 j v hv
                . cases hv
               have hrun:=run_append_grow_src (P:=P) w t tx o.type e' i z ht hi hz (some ⟨(m id).blk,0,none⟩) n cap (cs.take (n * j0 ek')) (run_firstCells_some w.drew i.size n ⟨(m id).blk,0,none⟩ n cap (cs.take (n * j0 ek')) (by rw [hlen',hisz]) (by simpa using holds)) vx' new.length us hsrc (by omega) (by omega) (growslice_fits (by omega) (by omega));have hcl2:=grownCap_le_maxLen w (n+new.length) cap e' (by simp only [maxLen];omega);have hcg:=grownCap_ge w (n+new.length) cap e';generalize grownCap w (n+new.length) cap e'=cap2 at hrun hcl2 hcg;have hcells:((cs.take (n * j0 ek')++us).toArray++Builtin.zeroCells z.cells (cap2 - (n+new.length)))=((cs.take (n * j0 ek')++us)++(Builtin.zeroCells z.cells (cap2 - (n+new.length))).toList).toArray:=by simp
               rw [hcells] at hrun;have st0:=aW (F:=F) (H:=H) (m:=m) (w:=w) w.heap.size;have hh0:=yF hs.heap;obtain ⟨r1,r2⟩:=iQ hh0 hH (ver':=ver'+1) (cap':=cap2) (xs':=xs.take n++new) (us':=cs.take (n * j0 ek')++us) (rest':=(Builtin.zeroCells z.cells (cap2 - (n+new.length))).toList) (by omega) (RRow.keep st0.g.keeps _ _ _ hrow') (by
                simp only [List.length_append,hlen',hul,hisz,Array.length_toList,size_zeroCells,hzs];rw [<-Nat.add_mul,<-Nat.add_mul];congr 1;omega) hcl2 hpos
               refine O4 hs hN (st0.trans r2) r1 (hres F _ _ w.heap.size cap2 (by simp [upd]) hcg) (by simp) h (jV ho h1 e1 hrun)
         . cases ha
       . cases ha
     . cases ha
end
theorem zu4 {w:World} {F:Nat->Prop}:∀ {new:List CV} {us:List Value} {l:List UInt8},RRow w F none new us->V8 new=some l->∃ ns:List Int,us=ns.map (Value.int .u8)/\l=ns.map fun n=>UInt8.ofNat n.toNat:=by
 intro new;induction new with
 | nil=>
   intro us l h hb;simp only [V8,Option.some.injEq] at hb;subst hb;unfold RRow at h;subst h;exact ⟨[],rfl,rfl⟩
 | cons c new ih=>
   intro us l h hb;unfold V8 at hb;split at hb
   . rename_i e;cases e
   . rename_i n r e;injection e with e1 e2;subst e1;subst e2;split at hb
     . rename_i l' hl;injection hb with hb;subst hb;unfold RRow at h;obtain ⟨v,us',rfl,hs,hr,hrow⟩:=h;rw [m7] at hr;subst hr;obtain ⟨ns,rfl,rfl⟩:=ih hrow hl;exact ⟨n::ns,rfl,rfl⟩
     . cases hb
   . cases hb
theorem zt2:∀ (ns:List Int) (s:ByteArray),ns.foldl (fun r n=>r.push (UInt8.ofNat n.toNat)) s=⟨s.data++(ns.map fun n=>UInt8.ofNat n.toNat).toArray⟩:=by
 intro ns;induction ns with
 | nil=>intro s;simp
 | cons n ns ih=>
   intro s;rw [List.foldl_cons,ih];simp [ByteArray.push]
section
variable {P:Program} {fb N:Nat} {w:World} {F:Nat->Prop} {H:q7} {m:j7} {lb:Nat->Nat} {fr:Fr} {a:Act} {o:Oper}
variable {K:Act->World->Prop} {Q:Exit->Act->World->Prop}
theorem ze8 {s d e:TypeId} {x:Operand} {ix:Opd} (ho:o.op=.convert s d x) (h1':P.underlying s=some (.slice e)) (h2':P.underlying d=some .string) (h3':P.underlying e=some (.int .u8)) (hx:j5 x=some ix) (hs:RS fb N w F H m lb fr a) (hN:∀ d,o.dst=some d->d<N)
 {fr':Fr} {H':q7} (hd:q9 (.b2s ix) o.dst fr H=some (fr',H')) (h:Next fb N w F H m fr' H' K):o.wp P a w K Q:=by
 unfold q9 at hd;dsimp only at hd;obtain ⟨h1,_⟩:=j9 hs.fr hx;cases he:J8 none (fr.opd ix) H with
 | none=>rw [he] at hd;cases hd
 | some new=>
   rw [he] at hd;simp only [Option.bind_some] at hd;cases hb:V8 new with
   | none=>rw [hb] at hd;cases hd
   | some l=>
     rw [hb] at hd;injection hd with hd;injection hd with q1 q2;subst q1;subst q2;obtain ⟨ad,c,us,hv,hrow,hne⟩:=lD hs.heap he h1;obtain ⟨ns,rfl,rfl⟩:=zu4 hrow hb;refine x7 hs hN (u:=.string ⟨(ns.map fun n=>UInt8.ofNat n.toNat).toArray⟩) (by rw [rh_c,a6]) (by simp) h ?_;have hlen:new.length=ns.length:=by
      have:=X6 hrow;simpa [j0] using this.symm
     have hconv:=run_convert_bytes_string (P:=P) w s d e ad new.length c h1' h3' h2';have hfin:(Conv.bytesToString (.slice ad new.length c)).run P w=.ok (.string ⟨(ns.map fun n=>UInt8.ofNat n.toNat).toArray⟩) w:=by
      cases ad with
      | none=>
        have hn:new=[]:=by
         cases new with
         | nil=>rfl
         | cons c0 new0=>obtain ⟨b,off,hh,_⟩:=hne (by simp);cases hh
        subst hn;have:ns=[]:=by cases ns with
         | nil=>rfl
         | cons=>simp at hlen
        subst this;simp [Conv.bytesToString];rfl
      | some p=>
        rw [run_bytesToString w p new.length c ns,zt2]
        . simp
        . rw [hlen];have hl:=run_loadCells_list (P:=P) (w:=w) p (ns.map (Value.int .u8)) (by
           intro j v hj;cases new with
           | nil=>
             have:ns=[]:=by cases ns with
              | nil=>rfl
              | cons=>simp at hlen
             subst this;simp at hj
           | cons c0 new0=>
             obtain ⟨b,off,hh,hr⟩:=hne (by simp);injection hh with hh;subst hh;have hr':=hr j v hj;unfold Addr.add;by_cases hj0:j=0
             . subst hj0;simpa using hr'
             . simpa [hj0] using hr')
          simpa using hl
     simp only [execOp,ho,Sem.run_bind,hv,hconv,hfin,Result.andThen_ok,Sem.run_pure]
end
end Go.Proofs.Lz
