/- The store, at every kind of place. -/
import Derived.Test.YtlimfobeoodkjaaGreatDoorLzStore
set_option linter.unusedVariables false
set_option linter.unusedSimpArgs false
set_option linter.unusedSectionVars false
namespace Go.Proofs.Lz
variable [GlobTab]
section
variable {P:Program} {fb N:Nat} {w:World} {F:Nat->Prop} {H:q7} {m:j7} {lb:Nat->Nat} {fr:Fr} {a:Act} {o:Oper}
variable {K:Act->World->Prop} {Q:Exit->Act->World->Prop}
theorem pU (hh:RHeap w F H m) {id e ver ver':Nat} {ek:Option Nat} {xs xs':List CV} {us rest us' rest':List Value} (hH:H[id]?=some (.row false e ek ver xs)) (hcur:w.heap[(m id).blk]?=some (.cells (us++rest).toArray e (0,0)))
 (hlen:us'.length+rest'.length=us.length+rest.length) (htot:us.length+rest.length=(m id).cap * j0 ek) (hcap:(m id).cap<=maxLen) (hpos:0<j0 ek) (hver:ver<=ver') (hsame:ver'=ver->xs'.length=xs.length)
 (hr:RRow w F ek xs' us'):RHeap (w.setRow (m id).blk (us'++rest').toArray) F (H.set id (.row false e ek ver' xs')) m/\Stp w.heap.size F F H (H.set id (.row false e ek ver' xs')) m m w (w.setRow (m id).blk (us'++rest').toArray):=by
 have hid:=(gEs hH).1;obtain ⟨_,_,_,_,_,_,_,_,hnF⟩:=hh.row id false e ek ver xs hH;have hnF:=hnF rfl;have hsm:∀ j,j≠id->(H.set id (.row false e ek ver' xs'))[j]?=H[j]?:=fun j hj=>List.getElem?_set_ne (Ne.symm hj);have hself:(H.set id (.row false e ek ver' xs'))[id]?=some (.row false e ek ver' xs'):=by simp [hid]
 have hg:Grows F F H (H.set id (.row false e ek ver' xs')) m m w (w.setRow (m id).blk (us'++rest').toArray):=by
  refine ⟨gV hnF _,?_,?_,?_⟩
  . intro j ek2 cs2 hj;have:j≠id:=by rintro rfl;rw [hH] at hj;cases hj
    exact ⟨rfl,cs2,by rw [hsm j this];exact hj,rfl⟩
  . intro j fz e2 ek2 ver2 xs2 hj;by_cases e3:j=id
    . subst e3;rw [hH] at hj;injection hj with hj;injection hj with z1 z2 z3 z4 z5;subst z1;subst z2;subst z3;subst z4;subst z5;exact ⟨false,ver',xs',hself,hver,fun hv=>⟨rfl,hsame hv⟩⟩
    . exact ⟨fz,ver2,xs2,by rw [hsm j e3];exact hj,Nat.le_refl _,fun _=>⟨rfl,rfl⟩⟩
  . intro j es ck hj;have:j≠id:=by rintro rfl;rw [hH] at hj;cases hj
    exact ⟨rfl,es,ck,by rw [hsm j this];exact hj⟩
 have hblk:∀ j,j≠id->j<H.length->(m j).blk≠(m id).blk:=fun j hj hl he=>hj (hh.inj j id hl hid he);refine ⟨⟨?_,?_,?_,?_,?_,?_,hh.glob.keep hg.keeps,?_⟩,hg,by rw [setRow_size];exact Nat.le_refl _,rfl,rfl,rfl,?_⟩
 . intro j o' ho';rw [setRow_size];have hl:j<H.length:=by have:=(gEs ho').1;simpa using this
   exact hh.there j H[j] (gEg hl)
 . intro b hb;rw [setRow_size];exact hh.fthere b hb
 . intro j ek2 cs2 hj;have e4:j≠id:=by rintro rfl;rw [hself] at hj;cases hj
   rw [hsm j e4] at hj;have hl:=(gEs hj).1;obtain ⟨k1,vs2,e3,k2,k3,k4⟩:=hh.var j ek2 cs2 hj;exact ⟨k1,vs2,e3,(setRow_other w _ _ _ (hblk j e4 hl)).trans k2,RHs.grow hg _ _ k3,k4⟩
 . intro j ek2 cs2 T hj hT;have e4:j≠id:=by rintro rfl;rw [hself] at hj;cases hj
   rw [hsm j e4] at hj;have hl:=(gEs hj).1;exact (hh.ty j ek2 cs2 T hj hT).imp fun vs k=>(setRow_other w _ _ _ (hblk j e4 hl)).trans k
 . intro j fz e2 ek2 ver2 xs2 hj;by_cases e3:j=id
   . subst e3;rw [hself] at hj;injection hj with hj;injection hj with z1 z2 z3 z4 z5;subst z1;subst z2;subst z3;subst z4;subst z5;exact ⟨us',rest',⟨_,setRow_heap w _ _ _ e (0,0) hcur,fun _=>rfl⟩,RRow.keep hg.keeps _ _ _ hr,by omega,hcap,hpos,(fun hf=>by cases hf),fun _=>hnF⟩
   . rw [hsm j e3] at hj;have hl:=(gEs hj).1;obtain ⟨us2,rest2,k1,k2,k3,k4,k5,k6,k7⟩:=hh.row j fz e2 ek2 ver2 xs2 hj;exact ⟨us2,rest2,k1.imp fun q k=>⟨(setRow_other w _ _ _ (hblk j e3 hl)).trans k.1,k.2⟩,RRow.keep hg.keeps _ _ _ k2,k3,k4,k5,k6,k7⟩
 . intro j es ck hj;have e4:j≠id:=by rintro rfl;rw [hself] at hj;cases hj
   rw [hsm j e4] at hj;have hl:=(gEs hj).1;obtain ⟨k1,l,k2,k3⟩:=hh.mp j es ck hj;exact ⟨k1,l,(setRow_other w _ _ _ (hblk j e4 hl)).trans k2,REnt.grow hg _ _ k3⟩
 . intro i j hi hj he;rw [List.length_set] at hi hj;exact hh.inj i j hi hj he
 . intro b hb hid';refine ⟨setRow_other w _ b _ (fun e2=>hid' id hid e2.symm),fun j hj=>hid' j (by simpa using hj),fun h=>h⟩
theorem cI {ek:Option Nat} {x':CV} {v':Value} (hx:RC w F x' v') (hs:Shape ek v') {xs:List CV}:∀ {us:List Value} {i:Nat},RRow w F ek xs us->i<xs.length->RRow w F ek (xs.set i x') (putCells us (i * j0 ek) v'.cells.toList):=by
 induction xs with
 | nil=>intro us i h hi;simp at hi
 | cons c cs ih=>
   intro us i h hi;unfold RRow at h;obtain ⟨v,ws,rfl,h1,h2,h3⟩:=h;cases i with
   | zero=>
     simp only [List.set_cons_zero,Nat.zero_mul,putCells,List.take_zero,List.nil_append,Nat.zero_add];unfold RRow;refine ⟨v',ws,?_,hs,hx,h3⟩;rw [E6 hs,<-E6 h1,List.drop_left]
   | succ i=>
     simp only [List.set_cons_succ];have:=ih h3 (by simpa using hi);unfold RRow;refine ⟨v,_,?_,h1,h2,this⟩;simp only [putCells];have e1:(i+1) * j0 ek=v.cells.toList.length+i * j0 ek:=by rw [E6 h1,Nat.succ_mul];omega
     rw [e1,List.take_length_add_append,Nat.add_assoc,<-List.drop_drop,List.drop_left];simp [List.append_assoc]
theorem eD {ek:Option Nat} {cs:List HV} {vs:List Value} {x':HV} (hr:RHs w F H m cs vs) (h1:∀ u∈vs,u.oneCell'=true) (hl:vs.length=j0 ek) (hu:V1 ek cs=some x'):∃ v',RH w F H m x' v'/\v'.cells.toList=vs/\Shape ek v':=by
 cases ek with
 | none=>
   simp only [V1] at hu;obtain ⟨v,hv,hvr⟩:=jK hr hu;simp only [j0] at hl;have ho:=h1 v (List.mem_of_getElem? hv);have hc:v.cells.toList=[v]:=by cases v<;>first | rfl | cases ho
   refine ⟨v,hvr,?_,ho⟩;rw [hc];cases vs with
   | nil=>simp at hl
   | cons y ys=>
     have:ys=[]:=List.eq_nil_of_length_eq_zero (by simpa using hl);subst this;simp at hv;rw [hv]
 | some n=>
   simp only [V1,Option.some.injEq] at hu;subst hu;exact ⟨.agg vs.toArray,jI hr h1,by simp [Value.cells],⟨vs,rfl,hl,h1⟩⟩
theorem kX {ek:Option Nat} {cs:List CV} {vs:List Value} {x':CV} (hr:RCs w F cs vs) (h1:∀ u∈vs,u.oneCell'=true) (hl:vs.length=j0 ek) (hu:A2 ek cs=some x'):∃ v',RC w F x' v'/\v'.cells.toList=vs/\Shape ek v':=by
 cases ek with
 | none=>
   simp only [A2] at hu;obtain ⟨v,hv,hvr⟩:=cK hr hu;simp only [j0] at hl;have ho:=h1 v (List.mem_of_getElem? hv);have hc:v.cells.toList=[v]:=by cases v<;>first | rfl | cases ho
   refine ⟨v,hvr,?_,ho⟩;rw [hc];cases vs with
   | nil=>simp at hl
   | cons y ys=>
     have:ys=[]:=List.eq_nil_of_length_eq_zero (by simpa using hl);subst this;simp at hv;rw [hv]
 | some n=>
   simp only [A2,Option.some.injEq] at hu;subst hu;exact ⟨.agg vs.toArray,by unfold RC;exact ⟨vs,rfl,hr,h1⟩,by simp [Value.cells],⟨vs,rfl,hl,h1⟩⟩
theorem pX {cs ds:List CV}:∀ {vs us:List Value},RCs w F cs vs->RCs w F ds us->RCs w F (cs++ds) (vs++us):=by
 induction cs with
 | nil=>intro vs us h k;rw [rcs_nil] at h;subst h;exact k
 | cons c cs ih=>
   intro vs us h k;rw [rcs_cons] at h;obtain ⟨v,vs',rfl,h1,h2⟩:=h;rw [List.cons_append,List.cons_append,rcs_cons];exact ⟨v,vs'++us,rfl,h1,ih h2 k⟩
theorem zk3 {us v0 new:List Value} {A off:Nat} (hv:∀ q,q<v0.length->v0[q]?=us[A+q]?) (h1:off+new.length<=v0.length) (h2:A+v0.length<=us.length):putCells us A (putCells v0 off new)=putCells us (A+off) new:=by
 have hv0:v0=(us.drop A).take v0.length:=by
  apply List.ext_getElem?;intro q;rw [List.getElem?_take,List.getElem?_drop];by_cases hq:q<v0.length
  . rw [if_pos hq];exact hv q hq
  . rw [if_neg hq,List.getElem?_eq_none (by omega)]
 have hus:us=us.take A++(v0++us.drop (A+v0.length)):=by
  conv=>lhs;rw [<-List.take_append_drop A us]
  congr 1;conv=>lhs;rw [<-List.take_append_drop v0.length (us.drop A)]
  rw [<-hv0,List.drop_drop]
 have hA:(us.take A).length=A:=by rw [List.length_take];omega
 generalize us.take A=pre at hus hA;generalize us.drop (A+v0.length)=post at hus;subst hus;have hl:(putCells v0 off new).length=v0.length:=vI h1;have e1:putCells (pre++(v0++post)) A (putCells v0 off new)=pre++(putCells v0 off new++post):=by
  conv=>lhs;unfold putCells
  rw [show List.take off v0++new++List.drop (off+new.length) v0=putCells v0 off new from rfl,hl,<-hA,List.take_left,<-List.drop_drop,List.drop_left,List.drop_left,List.append_assoc]
 rw [e1];unfold putCells;have e2:A+off+new.length=A+(off+new.length):=by omega
 have e3:List.drop (pre.length+(off+new.length)) (pre++(v0++post))=List.drop (off+new.length) (v0++post):=by rw [<-List.drop_drop,List.drop_left]
 rw [e2,<-hA,List.take_length_add_append,e3,List.take_append_of_le_length (by omega),List.drop_append_of_le_length h1];simp [List.append_assoc]
theorem vV {t:TypeId} {x y:Operand} {w':World} (ho:o.op=.store t x y) (hdst:o.dst=none) {u v:Value} (hx:a.eval x=u) (hy:a.eval y=v) (hr:(Instr.storeAt t u v).run P w=.ok () w') (hK:K a w'):o.wp P a w K Q:=by
 unfold Oper.wp execOp;simp only [ho,hx,hy,Sem.run_bind,hr,Result.andThen_ok,Sem.run_pure];show K (a.put o.dst undef) w';rw [hdst];exact hK
theorem q15 {cur new:List Value} (h:new.length=cur.length):putCells cur 0 new=new:=by
 simp only [putCells,List.take_zero,List.nil_append,Nat.zero_add,h,List.drop_length,List.append_nil]
theorem zv4 {t:TypeId} {x y:Operand} {ix iy:Opd} {ek:Option Nat} (ho:o.op=.store t x y) (hdst:o.dst=none) (he:x5 P t=some ek) (hx:j5 x=some ix) (hy:j5 y=some iy) (hs:RS fb N w F H m lb fr a)
 {fr':Fr} {H':q7} (hd:q9 (.store ek ix iy) o.dst fr H=some (fr',H')) (h:Next fb N w F H m fr' H' K):o.wp P a w K Q:=by
 obtain ⟨hv,_⟩:=j9 hs.fr hy;unfold q9 at hd;dsimp only at hd;cases hp:fr.place ix with
 | some p=>
   obtain ⟨b,off⟩:=p;rw [hp] at hd;dsimp only at hd;obtain ⟨⟨ek',x0,hb⟩,hpl⟩:=jT hs.fr hx hp;rw [hb] at hd;dsimp only at hd;obtain ⟨_,_,_,_,_,_,hft,v0,e,h7,h8,h9⟩:=hs.fr.box b ek' x0 hb;split at hd
   . rename_i hfit;obtain ⟨hsh,hfl,hone⟩:=V2 hfit hv;have hcur:w.heap[lb b]?=some (.cells v0.cells.toList.toArray e (0,0)):=by simpa using h7
     split at hd
     . rename_i hw;obtain ⟨w1,w2⟩:=hw;subst w1;subst w2;injection hd with hd;injection hd with q1 q2;subst q1;subst q2;have hlen:(a.eval y).cells.toList.length=v0.cells.toList.length:=by rw [E6 hsh,E6 h8]
       have hrun:=xR (P:=P) he hcur hsh hone (off:=0) (by omega);rw [q15 hlen] at hrun;obtain ⟨k1,k2⟩:=aT hs hb (cs:=(a.eval y).cells.toList.toArray) h7 (v':=a.eval y) (by simp) hsh hfit hv;exact vV ho hdst hpl rfl hrun (h F m lb a _ k2 k1)
     . split at hd
       . rename_i hle;cases hu:V1 ek' (f0 x0.flat off (fr.opd iy).flat) with
         | none=>rw [hu] at hd;cases hd
         | some x'=>
           rw [hu] at hd;dsimp only at hd;split at hd
           . rename_i hft';injection hd with hd;injection hd with q1 q2;subst q1;subst q2;obtain ⟨_,hfl0,hone0⟩:=V2 hft h9;have l1:=Q6 hfl0;have l2:=Q6 hfl;have hrp:=pS hfl0 hfl off;have hle':off+(a.eval y).cells.toList.length<=v0.cells.toList.length:=by omega
             obtain ⟨v',r1,r2,r3⟩:=eD (ek:=ek') hrp (fun u hu'=>by
              rcases bQ hu' with h' | h'
              . exact hone0 u h'
              . exact hone u h') (by rw [show (v0.cells.toList.take off++(a.eval y).cells.toList++v0.cells.toList.drop (off+(a.eval y).cells.toList.length))=putCells v0.cells.toList off (a.eval y).cells.toList from rfl,vI hle',E6 h8]) hu
             have hrun:=xR (P:=P) he hcur hsh hone hle';have hcs:(putCells v0.cells.toList off (a.eval y).cells.toList).toArray=v'.cells:=by
              rw [show putCells v0.cells.toList off (a.eval y).cells.toList=v'.cells.toList from r2.symm]
             rw [hcs] at hrun;obtain ⟨k1,k2⟩:=aT hs hb (cs:=v'.cells) h7 (v':=v') rfl r3 hft' r1;exact vV ho hdst hpl rfl hrun (h F m lb a _ k2 k1)
           . cases hd
       . cases hd
   . cases hd
 | none=>
   rw [hp] at hd;dsimp only at hd;obtain ⟨hpx,_⟩:=j9 hs.fr hx;cases hst:I7 ek (fr.opd ix) (fr.opd iy) H with
   | none=>rw [hst] at hd;cases hd
   | some H1=>
     rw [hst] at hd;injection hd with hd;injection hd with q1 q2;subst q1;subst q2;generalize fr.opd ix=vx at hst hpx;generalize fr.opd iy=vy at hst hv;cases vx with
     | ptr id off=>
       simp only [I7] at hst;split at hst
       . rename_i ek' cs hH;split at hst
         . rename_i hc;obtain ⟨hfit,hle⟩:=hc;injection hst with hst;subst hst;obtain ⟨hsh,hfl,hone⟩:=V2 hfit hv;unfold RH at hpx;obtain ⟨hpx,_⟩:=hpx;obtain ⟨_,vs,e,k1,k2,k3⟩:=hs.heap.var id ek' cs hH;have l1:=Q6 hfl;have l2:=Q6 k2;have hle':off+(a.eval y).cells.toList.length<=vs.length:=by omega
           have hrun:=xR (P:=P) he k1 hsh hone hle';have hrp:=pS k2 hfl off;obtain ⟨r1,r2⟩:=zj7 hs.heap hH k1 (cs':=f0 cs off vy.flat) (vs':=putCells vs off (a.eval y).cells.toList) (zp7 _ _ _ hle) hrp (fun u hu'=>by
            rcases bQ hu' with h' | h'
            . exact k3 u h'
            . exact hone u h')
           refine vV ho hdst hpx rfl hrun (h F m lb a _ (r2.mono hs.fb) ⟨r1,hs.fr.step r2,Nat.le_trans hs.fb r2.size⟩)
         . cases hst
       . cases hst
     | eptr id ver i off=>
       simp only [I7] at hst;cases hcl:G9 vy H with
       | none=>rw [hcl] at hst;cases hst
       | some p=>
         obtain ⟨u,H2⟩:=p;rw [hcl] at hst;dsimp only at hst;obtain ⟨F2,g1,g2,g3,gz⟩:=rZ hs.heap hv hcl;split at hst
         . rename_i e ek' ver' xs hH2;split at hst
           . rename_i hc;obtain ⟨hv',hfit⟩:=hc;subst hv';obtain ⟨hsh,hfl,hone⟩:=X9 hfit g3;cases hxi:xs[i]? with
             | none=>rw [hxi] at hst;cases hst
             | some x0=>
               rw [hxi] at hst;dsimp only at hst;have hil:=(gEs hxi).1;obtain ⟨us,rest,⟨q0,k1,hq0⟩,k2,k3,k4,k5,k6,k7⟩:=g1.row id false e ek' _ xs hH2;cases hq0 rfl;have hpx2:=RH.grow g2.g _ _ hpx;unfold RH at hpx2;obtain ⟨ad,hpx3,_,had⟩:=hpx2;have had:=had _ _ _ _ hH2;subst had;obtain ⟨v0,m1,m2,m3⟩:=gC k2 hxi;have hul:=X6 k2;have hse:(i+1) * j0 ek'<=us.length:=by rw [hul];exact Nat.mul_le_mul_right _ hil
               have hse':i * j0 ek'+j0 ek'<=us.length:=by rw [Nat.succ_mul] at hse;exact hse
               have fin:∀ (x':CV) (v':Value),RC w F2 x' v'->Shape ek' v'->H1=H2.set id (.row false e ek' ver' (xs.set i x')) ->
                putCells us (i * j0 ek') v'.cells.toList=putCells us (i * j0 ek'+off) (a.eval y).cells.toList->i * j0 ek'+off+(a.eval y).cells.toList.length<=us.length->o.wp P a w K Q:=by
                intro x' v' hx' hs' hH1 hcells hle;have hr':=cI hx' hs' k2 hil;have hlen':(putCells us (i * j0 ek') v'.cells.toList).length=us.length:=vI (by rw [E6 hs'];exact hse');obtain ⟨r1,r2⟩:=pU g1 hH2 k1 (us':=putCells us (i * j0 ek') v'.cells.toList) (rest':=rest) (by omega) k3 k4 k5 (Nat.le_refl _) (fun _=>by simp) hr';have hrun:=xR (P:=P) he (w:=w) (g:=(m id).blk) (off:=i * j0 ek'+off) k1 hsh hone (by simp only [List.length_append];omega);have harr:putCells (us++rest) (i * j0 ek'+off) (a.eval y).cells.toList=putCells us (i * j0 ek') v'.cells.toList++rest:=by
                 rw [hcells];simp only [putCells];rw [List.take_append_of_le_length (by omega),List.drop_append_of_le_length hle];simp [List.append_assoc]
                rw [harr] at hrun;subst hH1;have st:=g2.trans r2;refine vV ho hdst hpx3 rfl hrun (h F2 m lb a _ (st.mono hs.fb) ⟨r1,hs.fr.step st,Nat.le_trans hs.fb st.size⟩)
               split at hst
               . rename_i hw;obtain ⟨w1,w2⟩:=hw;subst w1;subst w2;injection hst with hst;refine fin u _ g3 hsh hst.symm (by simp) (by rw [E6 hsh];omega)
               . split at hst
                 . rename_i hle;cases hu:A2 ek' (qB x0.flat off u.flat) with
                   | none=>rw [hu] at hst;cases hst
                   | some x'=>
                     rw [hu] at hst;dsimp only at hst;split at hst
                     . rename_i hfx;injection hst with hst;obtain ⟨_,hfl0,hone0⟩:=X9 (gK m2 m1) m1;have l1:=R9 hfl0;have l2:=R9 hfl;have hrp:RCs w F2 (qB x0.flat off u.flat) (putCells v0.cells.toList off (a.eval y).cells.toList):=by
                        unfold qB putCells;rw [l2];exact pX (pX (yY off hfl0) hfl) (yR _ hfl0)
                       have hle':off+(a.eval y).cells.toList.length<=v0.cells.toList.length:=by omega
                       obtain ⟨v',r1,r2,r3⟩:=kX (ek:=ek') hrp (fun q hq=>by
                        rcases bQ hq with h' | h'
                        . exact hone0 q h'
                        . exact hone q h') (by rw [vI hle',E6 m2]) hu
                       have hv0:=E6 m2;refine fin x' v' r1 r3 hst.symm ?_ (by omega);rw [r2];exact zk3 (fun q hq=>by
                        rw [gEg hq];exact (m3 q _ (gEg hq)).symm) hle' (by omega)
                     . cases hst
                 . cases hst
           . cases hst
         . cases hst
     | _=>simp [I7] at hst
end
end Go.Proofs.Lz
