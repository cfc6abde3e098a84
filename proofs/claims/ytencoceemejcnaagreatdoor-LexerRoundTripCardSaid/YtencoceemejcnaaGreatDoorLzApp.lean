/- Appending. -/
import Derived.Test.YtencoceemejcnaaGreatDoorLzStore
import Derived.Laws.BytesString
import Derived.Deep.AppendSrc
set_option linter.unusedVariables false
set_option linter.unusedSimpArgs false
set_option linter.unusedSectionVars false
namespace Go.Proofs.Lz
variable [GlobTab]
section
variable {P:Program} {fb N:Nat} {w:World} {F:Nat→Prop} {H:Heap} {m:LMap} {lb:Nat→Nat} {fr:Fr} {a:Act} {o:Oper}
variable {K:Act→World→Prop} {Q:Exit→Act→World→Prop}
theorem j75 (hh:RHeap w F H m) {id e ver ver':Nat} {ek:Option Nat} {xs xs':List CV} {us rest us' rest':List Value} (hH:H[id]?=some (.row false e ek ver xs)) (hcur:w.heap[(m id).blk]?=some (.cells (us++rest).toArray e (0,0)))
 (hlen:us'.length+rest'.length=us.length+rest.length) (htot:us.length+rest.length=(m id).cap * z42 ek) (hcap:(m id).cap≤maxLen) (hpos:0<z42 ek) (hver:ver≤ver') (hsame:ver'=ver→xs'.length=xs.length)
 (hr:RRow w F ek xs' us'):RHeap (w.setRow (m id).blk (us'++rest').toArray) F (H.set id (.row false e ek ver' xs')) m∧Stp w.heap.size F F H (H.set id (.row false e ek ver' xs')) m m w (w.setRow (m id).blk (us'++rest').toArray):=by
 have hid:=(List.getElem?_eq_some_iff.1 hH).1
 obtain ⟨_,_,_,_,_,_,_,_,hnF⟩:=hh.row id false e ek ver xs hH
 have hnF:=hnF rfl
 have hsm:∀ j,j≠id→(H.set id (.row false e ek ver' xs'))[j]?=H[j]?:=fun j hj=>List.getElem?_set_ne (Ne.symm hj)
 have hself:(H.set id (.row false e ek ver' xs'))[id]?=some (.row false e ek ver' xs'):=by simp [hid]
 have hg:Grows F F H (H.set id (.row false e ek ver' xs')) m m w (w.setRow (m id).blk (us'++rest').toArray):=by
  refine ⟨zx5 hnF _,?_,?_⟩
  · intro j ek2 cs2 hj
    have:j≠id:=by rintro rfl;rw [hH] at hj;cases hj
    exact ⟨rfl,cs2,by rw [hsm j this];exact hj,rfl⟩
  · intro j fz e2 ek2 ver2 xs2 hj
    by_cases e3:j=id
    · subst e3
      rw [hH] at hj
      injection hj with hj
      injection hj with z1 z2 z3 z4 z5
      subst z1;subst z2;subst z3;subst z4;subst z5
      exact ⟨false,ver',xs',hself,hver,fun hv=>⟨rfl,hsame hv⟩⟩
    · exact ⟨fz,ver2,xs2,by rw [hsm j e3];exact hj,Nat.le_refl _,fun _=>⟨rfl,rfl⟩⟩
 have hblk:∀ j,j≠id→j<H.length→(m j).blk≠(m id).blk:=fun j hj hl he=>hj (hh.inj j id hl hid he)
 refine ⟨⟨?_,?_,?_,?_,?_,hh.glob.keep hg.keeps,?_⟩,hg,by rw [setRow_size];exact Nat.le_refl _,rfl,rfl,rfl,?_⟩
 · intro j o' ho'
   rw [setRow_size]
   have hl:j<H.length:=by have:=(List.getElem?_eq_some_iff.1 ho').1;simpa using this
   exact hh.there j H[j] (List.getElem?_eq_getElem hl)
 · intro b hb;rw [setRow_size];exact hh.fthere b hb
 · intro j ek2 cs2 hj
   have e4:j≠id:=by rintro rfl;rw [hself] at hj;cases hj
   rw [hsm j e4] at hj
   have hl:=(List.getElem?_eq_some_iff.1 hj).1
   obtain ⟨k1,vs2,e3,k2,k3,k4⟩:=hh.var j ek2 cs2 hj
   exact ⟨k1,vs2,e3,(setRow_other w _ _ _ (hblk j e4 hl)).trans k2,RHs.grow hg _ _ k3,k4⟩
 · intro j ek2 cs2 T hj hT
   have e4:j≠id:=by rintro rfl;rw [hself] at hj;cases hj
   rw [hsm j e4] at hj
   have hl:=(List.getElem?_eq_some_iff.1 hj).1
   exact (hh.ty j ek2 cs2 T hj hT).imp fun vs k=>(setRow_other w _ _ _ (hblk j e4 hl)).trans k
 · intro j fz e2 ek2 ver2 xs2 hj
   by_cases e3:j=id
   · subst e3
     rw [hself] at hj
     injection hj with hj
     injection hj with z1 z2 z3 z4 z5
     subst z1;subst z2;subst z3;subst z4;subst z5
     exact ⟨us',rest',⟨_,setRow_heap w _ _ _ e (0,0) hcur,fun _=>rfl⟩,RRow.keep hg.keeps _ _ _ hr,by omega,hcap,hpos,(fun hf=>by cases hf),fun _=>hnF⟩
   · rw [hsm j e3] at hj
     have hl:=(List.getElem?_eq_some_iff.1 hj).1
     obtain ⟨us2,rest2,k1,k2,k3,k4,k5,k6,k7⟩:=hh.row j fz e2 ek2 ver2 xs2 hj
     exact ⟨us2,rest2,k1.imp fun q k=>⟨(setRow_other w _ _ _ (hblk j e3 hl)).trans k.1,k.2⟩,RRow.keep hg.keeps _ _ _ k2,k3,k4,k5,k6,k7⟩
 · intro i j hi hj he
   rw [List.length_set] at hi hj
   exact hh.inj i j hi hj he
 · intro b hb hid'
   refine ⟨setRow_other w _ b _ (fun e2=>hid' id hid e2.symm),fun j hj=>hid' j (by simpa using hj),fun h=>h⟩
theorem jb6 {ek:Option Nat} {x':CV} {v':Value} (hx:RC w F x' v') (hs:Shape ek v') {xs:List CV}:∀ {us:List Value} {i:Nat},RRow w F ek xs us→i<xs.length→RRow w F ek (xs.set i x') (putCells us (i * z42 ek) v'.cells.toList):=by
 induction xs with
 | nil=>intro us i h hi;simp at hi
 | cons c cs ih=>
   intro us i h hi
   unfold RRow at h
   obtain ⟨v,ws,rfl,h1,h2,h3⟩:=h
   cases i with
   | zero=>
     simp only [List.set_cons_zero,Nat.zero_mul,putCells,List.take_zero,List.nil_append,Nat.zero_add]
     unfold RRow
     refine ⟨v',ws,?_,hs,hx,h3⟩
     rw [zm0 hs,← zm0 h1,List.drop_left]
   | succ i=>
     simp only [List.set_cons_succ]
     have:=ih h3 (by simpa using hi)
     unfold RRow
     refine ⟨v,_,?_,h1,h2,this⟩
     simp only [putCells]
     have e1:(i+1) * z42 ek=v.cells.toList.length+i * z42 ek:=by rw [zm0 h1,Nat.succ_mul];omega
     rw [e1,List.take_length_add_append,Nat.add_assoc,← List.drop_drop,List.drop_left]
     simp [List.append_assoc]
theorem j39 {ek:Option Nat} {cs:List HV} {vs:List Value} {x':HV} (hr:RHs w F H m cs vs) (h1:∀ u∈vs,u.oneCell'=true) (hl:vs.length=z42 ek) (hu:zw2 ek cs=some x'):∃ v',RH w F H m x' v'∧v'.cells.toList=vs∧Shape ek v':=by
 cases ek with
 | none=>
   simp only [zw2] at hu
   obtain ⟨v,hv,hvr⟩:=qb7 hr hu
   simp only [z42] at hl
   have ho:=h1 v (List.mem_of_getElem? hv)
   have hc:v.cells.toList=[v]:=by cases v<;>first | rfl | cases ho
   refine ⟨v,hvr,?_,ho⟩
   rw [hc]
   cases vs with
   | nil=>simp at hl
   | cons y ys=>
     have:ys=[]:=List.eq_nil_of_length_eq_zero (by simpa using hl)
     subst this
     simp at hv
     rw [hv]
 | some n=>
   simp only [zw2,Option.some.injEq] at hu
   subst hu
   exact ⟨.agg vs.toArray,qa8 hr h1,by simp [Value.cells],⟨vs,rfl,hl,h1⟩⟩
theorem q18 {ek:Option Nat} {cs:List CV} {vs:List Value} {x':CV} (hr:RCs w F cs vs) (h1:∀ u∈vs,u.oneCell'=true) (hl:vs.length=z42 ek) (hu:zc3 ek cs=some x'):∃ v',RC w F x' v'∧v'.cells.toList=vs∧Shape ek v':=by
 cases ek with
 | none=>
   simp only [zc3] at hu
   obtain ⟨v,hv,hvr⟩:=jl2 hr hu
   simp only [z42] at hl
   have ho:=h1 v (List.mem_of_getElem? hv)
   have hc:v.cells.toList=[v]:=by cases v<;>first | rfl | cases ho
   refine ⟨v,hvr,?_,ho⟩
   rw [hc]
   cases vs with
   | nil=>simp at hl
   | cons y ys=>
     have:ys=[]:=List.eq_nil_of_length_eq_zero (by simpa using hl)
     subst this
     simp at hv
     rw [hv]
 | some n=>
   simp only [zc3,Option.some.injEq] at hu
   subst hu
   exact ⟨.agg vs.toArray,by unfold RC;exact ⟨vs,rfl,hr,h1⟩,by simp [Value.cells],⟨vs,rfl,hl,h1⟩⟩
theorem q62 {cs ds:List CV}:∀ {vs us:List Value},RCs w F cs vs→RCs w F ds us→RCs w F (cs++ds) (vs++us):=by
 induction cs with
 | nil=>intro vs us h k;rw [rcs_nil] at h;subst h;exact k
 | cons c cs ih=>
   intro vs us h k
   rw [rcs_cons] at h
   obtain ⟨v,vs',rfl,h1,h2⟩:=h
   rw [List.cons_append,List.cons_append,rcs_cons]
   exact ⟨v,vs'++us,rfl,h1,ih h2 k⟩
theorem j50 {us v0 new:List Value} {A off:Nat} (hv:∀ q,q<v0.length→v0[q]?=us[A+q]?) (h1:off+new.length≤v0.length) (h2:A+v0.length≤us.length):putCells us A (putCells v0 off new)=putCells us (A+off) new:=by
 have hv0:v0=(us.drop A).take v0.length:=by
  apply List.ext_getElem?
  intro q
  rw [List.getElem?_take,List.getElem?_drop]
  by_cases hq:q<v0.length
  · rw [if_pos hq];exact hv q hq
  · rw [if_neg hq,List.getElem?_eq_none (by omega)]
 have hus:us=us.take A++(v0++us.drop (A+v0.length)):=by
  conv=>lhs;rw [← List.take_append_drop A us]
  congr 1
  conv=>lhs;rw [← List.take_append_drop v0.length (us.drop A)]
  rw [← hv0,List.drop_drop]
 have hA:(us.take A).length=A:=by rw [List.length_take];omega
 generalize us.take A=pre at hus hA
 generalize us.drop (A+v0.length)=post at hus
 subst hus
 have hl:(putCells v0 off new).length=v0.length:=zj8 h1
 have e1:putCells (pre++(v0++post)) A (putCells v0 off new)=pre++(putCells v0 off new++post):=by
  conv=>lhs;unfold putCells
  rw [show List.take off v0++new++List.drop (off+new.length) v0=putCells v0 off new from rfl,hl,← hA,List.take_left,← List.drop_drop,List.drop_left,List.drop_left,List.append_assoc]
 rw [e1]
 unfold putCells
 have e2:A+off+new.length=A+(off+new.length):=by omega
 have e3:List.drop (pre.length+(off+new.length)) (pre++(v0++post))=List.drop (off+new.length) (v0++post):=by rw [← List.drop_drop,List.drop_left]
 rw [e2,← hA,List.take_length_add_append,e3,List.take_append_of_le_length (by omega),List.drop_append_of_le_length h1]
 simp [List.append_assoc]
theorem zy1 {t:TypeId} {x y:Operand} {w':World} (ho:o.op=.store t x y) (hdst:o.dst=none) {u v:Value} (hx:a.eval x=u) (hy:a.eval y=v) (hr:(Instr.storeAt t u v).run P w=.ok () w') (hK:K a w'):o.wp P a w K Q:=by
 unfold Oper.wp execOp
 simp only [ho,hx,hy,Sem.run_bind,hr,Result.andThen_ok,Sem.run_pure]
 show K (a.put o.dst undef) w'
 rw [hdst]
 exact hK
theorem qj2 {cur new:List Value} (h:new.length=cur.length):putCells cur 0 new=new:=by
 simp only [putCells,List.take_zero,List.nil_append,Nat.zero_add,h,List.drop_length,List.append_nil]
theorem jw3 {t:TypeId} {x y:Operand} {ix iy:Opd} {ek:Option Nat} (ho:o.op=.store t x y) (hdst:o.dst=none) (he:ekOf P t=some ek) (hx:z79 x=some ix) (hy:z79 y=some iy) (hs:RS fb N w F H m lb fr a)
 {fr':Fr} {H':Heap} (hd:z40 (.store ek ix iy) o.dst fr H=some (fr',H')) (h:Next fb N w F H m fr' H' K):o.wp P a w K Q:=by
 obtain ⟨hv,_⟩:=z77 hs.fr hy
 unfold z40 at hd
 dsimp only at hd
 cases hp:fr.place ix with
 | some p=>
   obtain ⟨b,off⟩:=p
   rw [hp] at hd
   dsimp only at hd
   obtain ⟨⟨ek',x0,hb⟩,hpl⟩:=zu5 hs.fr hx hp
   rw [hb] at hd
   dsimp only at hd
   obtain ⟨_,_,_,_,_,_,hft,v0,e,h7,h8,h9⟩:=hs.fr.box b ek' x0 hb
   split at hd
   · rename_i hfit
     obtain ⟨hsh,hfl,hone⟩:=zg3 hfit hv
     have hcur:w.heap[lb b]?=some (.cells v0.cells.toList.toArray e (0,0)):=by simpa using h7
     split at hd
     · rename_i hw
       obtain ⟨w1,w2⟩:=hw
       subst w1;subst w2
       injection hd with hd
       injection hd with q1 q2
       subst q1;subst q2
       have hlen:(a.eval y).cells.toList.length=v0.cells.toList.length:=by rw [zm0 hsh,zm0 h8]
       have hrun:=zt0 (P:=P) he hcur hsh hone (off:=0) (by omega)
       rw [qj2 hlen] at hrun
       obtain ⟨k1,k2⟩:=qh7 hs hb (cs:=(a.eval y).cells.toList.toArray) h7 (v':=a.eval y) (by simp) hsh hfit hv
       exact zy1 ho hdst hpl rfl hrun (h F m lb a _ k2 k1)
     · split at hd
       · rename_i hle
         cases hu:zw2 ek' (zb0 x0.flat off (fr.opd iy).flat) with
         | none=>rw [hu] at hd;cases hd
         | some x'=>
           rw [hu] at hd
           dsimp only at hd
           split at hd
           · rename_i hft'
             injection hd with hd
             injection hd with q1 q2
             subst q1;subst q2
             obtain ⟨_,hfl0,hone0⟩:=zg3 hft h9
             have l1:=ze9 hfl0
             have l2:=ze9 hfl
             have hrp:=q08 hfl0 hfl off
             have hle':off+(a.eval y).cells.toList.length≤v0.cells.toList.length:=by omega
             obtain ⟨v',r1,r2,r3⟩:=j39 (ek:=ek') hrp (fun u hu'=>by
              rcases zx3 hu' with h' | h'
              · exact hone0 u h'
              · exact hone u h') (by rw [show (v0.cells.toList.take off++(a.eval y).cells.toList++v0.cells.toList.drop (off+(a.eval y).cells.toList.length))=putCells v0.cells.toList off (a.eval y).cells.toList from rfl,zj8 hle',zm0 h8]) hu
             have hrun:=zt0 (P:=P) he hcur hsh hone hle'
             have hcs:(putCells v0.cells.toList off (a.eval y).cells.toList).toArray=v'.cells:=by
              rw [show putCells v0.cells.toList off (a.eval y).cells.toList=v'.cells.toList from r2.symm]
             rw [hcs] at hrun
             obtain ⟨k1,k2⟩:=qh7 hs hb (cs:=v'.cells) h7 (v':=v') rfl r3 hft' r1
             exact zy1 ho hdst hpl rfl hrun (h F m lb a _ k2 k1)
           · cases hd
       · cases hd
   · cases hd
 | none=>
   rw [hp] at hd
   dsimp only at hd
   obtain ⟨hpx,_⟩:=z77 hs.fr hx
   cases hst:zo3 ek (fr.opd ix) (fr.opd iy) H with
   | none=>rw [hst] at hd;cases hd
   | some H1=>
     rw [hst] at hd
     injection hd with hd
     injection hd with q1 q2
     subst q1;subst q2
     generalize fr.opd ix=vx at hst hpx
     generalize fr.opd iy=vy at hst hv
     cases vx with
     | ptr id off=>
       simp only [zo3] at hst
       split at hst
       · rename_i ek' cs hH
         split at hst
         · rename_i hc
           obtain ⟨hfit,hle⟩:=hc
           injection hst with hst;subst hst
           obtain ⟨hsh,hfl,hone⟩:=zg3 hfit hv
           unfold RH at hpx
           obtain ⟨hpx,_⟩:=hpx
           obtain ⟨_,vs,e,k1,k2,k3⟩:=hs.heap.var id ek' cs hH
           have l1:=ze9 hfl
           have l2:=ze9 k2
           have hle':off+(a.eval y).cells.toList.length≤vs.length:=by omega
           have hrun:=zt0 (P:=P) he k1 hsh hone hle'
           have hrp:=q08 k2 hfl off
           obtain ⟨r1,r2⟩:=jx7 hs.heap hH k1 (cs':=zb0 cs off vy.flat) (vs':=putCells vs off (a.eval y).cells.toList) (j49 _ _ _ hle) hrp (fun u hu'=>by
            rcases zx3 hu' with h' | h'
            · exact k3 u h'
            · exact hone u h')
           refine zy1 ho hdst hpx rfl hrun (h F m lb a _ (r2.mono hs.fb) ⟨r1,hs.fr.step r2,Nat.le_trans hs.fb r2.size⟩)
         · cases hst
       · cases hst
     | eptr id ver i off=>
       simp only [zo3] at hst
       cases hcl:zl7 vy H with
       | none=>rw [hcl] at hst;cases hst
       | some p=>
         obtain ⟨u,H2⟩:=p
         rw [hcl] at hst
         dsimp only at hst
         obtain ⟨F2,g1,g2,g3,gz⟩:=ql6 hs.heap hv hcl
         split at hst
         · rename_i e ek' ver' xs hH2
           split at hst
           · rename_i hc
             obtain ⟨hv',hfit⟩:=hc
             subst hv'
             obtain ⟨hsh,hfl,hone⟩:=zk8 hfit g3
             cases hxi:xs[i]? with
             | none=>rw [hxi] at hst;cases hst
             | some x0=>
               rw [hxi] at hst
               dsimp only at hst
               have hil:=(List.getElem?_eq_some_iff.1 hxi).1
               obtain ⟨us,rest,⟨q0,k1,hq0⟩,k2,k3,k4,k5,k6,k7⟩:=g1.row id false e ek' _ xs hH2
               cases hq0 rfl
               have hpx2:=RH.grow g2.g _ _ hpx
               unfold RH at hpx2
               obtain ⟨ad,hpx3,_,had⟩:=hpx2
               have had:=had _ _ _ _ hH2
               subst had
               obtain ⟨v0,m1,m2,m3⟩:=qq3 k2 hxi
               have hul:=zg1 k2
               have hse:(i+1) * z42 ek'≤us.length:=by rw [hul];exact Nat.mul_le_mul_right _ hil
               have hse':i * z42 ek'+z42 ek'≤us.length:=by rw [Nat.succ_mul] at hse;exact hse
               have fin:∀ (x':CV) (v':Value),RC w F2 x' v'→Shape ek' v'→H1=H2.set id (.row false e ek' ver' (xs.set i x')) →
                putCells us (i * z42 ek') v'.cells.toList=putCells us (i * z42 ek'+off) (a.eval y).cells.toList→i * z42 ek'+off+(a.eval y).cells.toList.length≤us.length→o.wp P a w K Q:=by
                intro x' v' hx' hs' hH1 hcells hle
                have hr':=jb6 hx' hs' k2 hil
                have hlen':(putCells us (i * z42 ek') v'.cells.toList).length=us.length:=zj8 (by rw [zm0 hs'];exact hse')
                obtain ⟨r1,r2⟩:=j75 g1 hH2 k1 (us':=putCells us (i * z42 ek') v'.cells.toList) (rest':=rest) (by omega) k3 k4 k5 (Nat.le_refl _) (fun _=>by simp) hr'
                have hrun:=zt0 (P:=P) he (w:=w) (g:=(m id).blk) (off:=i * z42 ek'+off) k1 hsh hone (by simp only [List.length_append];omega)
                have harr:putCells (us++rest) (i * z42 ek'+off) (a.eval y).cells.toList=putCells us (i * z42 ek') v'.cells.toList++rest:=by
                 rw [hcells]
                 simp only [putCells]
                 rw [List.take_append_of_le_length (by omega),List.drop_append_of_le_length hle]
                 simp [List.append_assoc]
                rw [harr] at hrun
                subst hH1
                have st:=g2.trans r2
                refine zy1 ho hdst hpx3 rfl hrun (h F2 m lb a _ (st.mono hs.fb) ⟨r1,hs.fr.step st,Nat.le_trans hs.fb st.size⟩)
               split at hst
               · rename_i hw
                 obtain ⟨w1,w2⟩:=hw
                 subst w1;subst w2
                 injection hst with hst
                 refine fin u _ g3 hsh hst.symm (by simp) (by rw [zm0 hsh];omega)
               · split at hst
                 · rename_i hle
                   cases hu:zc3 ek' (zz1 x0.flat off u.flat) with
                   | none=>rw [hu] at hst;cases hst
                   | some x'=>
                     rw [hu] at hst
                     dsimp only at hst
                     split at hst
                     · rename_i hfx
                       injection hst with hst
                       obtain ⟨_,hfl0,hone0⟩:=zk8 (q13 m2 m1) m1
                       have l1:=zg5 hfl0
                       have l2:=zg5 hfl
                       have hrp:RCs w F2 (zz1 x0.flat off u.flat) (putCells v0.cells.toList off (a.eval y).cells.toList):=by
                        unfold zz1 putCells
                        rw [l2]
                        exact q62 (q62 (qa4 off hfl0) hfl) (qa2 _ hfl0)
                       have hle':off+(a.eval y).cells.toList.length≤v0.cells.toList.length:=by omega
                       obtain ⟨v',r1,r2,r3⟩:=q18 (ek:=ek') hrp (fun q hq=>by
                        rcases zx3 hq with h' | h'
                        · exact hone0 q h'
                        · exact hone q h') (by rw [zj8 hle',zm0 m2]) hu
                       have hv0:=zm0 m2
                       refine fin x' v' r1 r3 hst.symm ?_ (by omega)
                       rw [r2]
                       exact j50 (fun q hq=>by
                        rw [List.getElem?_eq_getElem hq]
                        exact (m3 q _ (List.getElem?_eq_getElem hq)).symm) hle' (by omega)
                     · cases hst
                 · cases hst
           · cases hst
         · cases hst
     | _=>simp [zo3] at hst
end
end Go.Proofs.Lz
namespace Go.Proofs.Lz
variable [GlobTab]
section
variable {P:Program} {fb N:Nat} {w:World} {F:Nat→Prop} {H:Heap} {m:LMap} {lb:Nat→Nat} {fr:Fr} {a:Act} {o:Oper}
variable {K:Act→World→Prop} {Q:Exit→Act→World→Prop}
theorem zy7 (h:RHeap w F H m):RHeap w.drew F H m:=by
 have g:Grows F F H H m m w w.drew:=⟨Keeps.of (fun _ h=>h) (fun _ _=>rfl),fun _ _ cs h=>⟨rfl,cs,h,rfl⟩,fun _ fz e ek ver xs h=>⟨fz,ver,xs,h,Nat.le_refl _,fun _=>⟨rfl,rfl⟩⟩⟩
 exact h.same g (fun _ _=>rfl) (fun _ _=>rfl) (Nat.le_refl _) (fun _ h=>.inl h)
theorem qo9 (fb':Nat):Stp fb' F F H H m m w w.drew:=Stp.drawn fb' F H m w (w.drawn+1)
theorem w84 (hh:RHeap w F H m) {id e ver ver' cap':Nat} {ek:Option Nat} {xs xs':List CV} {us' rest':List Value} (hH:H[id]?=some (.row false e ek ver xs)) (hver:ver<ver')
 (hr:RRow w F ek xs' us') (htot:us'.length+rest'.length=cap' * z42 ek) (hcap:cap'≤maxLen) (hpos:0<z42 ek) :
 RHeap (w.alloc (.cells (us'++rest').toArray e (0,0))) F (H.set id (.row false e ek ver' xs')) (upd m id ⟨w.heap.size,cap'⟩) ∧
 Stp w.heap.size F F H (H.set id (.row false e ek ver' xs')) m (upd m id ⟨w.heap.size,cap'⟩) w (w.alloc (.cells (us'++rest').toArray e (0,0))):=by
 have hid:=(List.getElem?_eq_some_iff.1 hH).1
 have hsm:∀ j,j≠id→(H.set id (.row false e ek ver' xs'))[j]?=H[j]?:=fun j hj=>List.getElem?_set_ne (Ne.symm hj)
 have hself:(H.set id (.row false e ek ver' xs'))[id]?=some (.row false e ek ver' xs'):=by simp [hid]
 have hold:∀ j,j≠id→upd m id ⟨w.heap.size,cap'⟩ j=m j:=fun j hj=>by simp [upd,hj]
 have hnew:upd m id (⟨w.heap.size,cap'⟩:Loc) id=⟨w.heap.size,cap'⟩:=by simp [upd]
 have hlt:∀ j,j<H.length→(m j).blk<w.heap.size:=fun j hj=>hh.there j H[j] (List.getElem?_eq_getElem hj)
 have hk:=q09 hh.fthere (.cells (us'++rest').toArray e (0,0))
 have hg:Grows F F H (H.set id (.row false e ek ver' xs')) m (upd m id ⟨w.heap.size,cap'⟩) w (w.alloc (.cells (us'++rest').toArray e (0,0))):=by
  refine ⟨hk,?_,?_⟩
  · intro j ek2 cs2 hj
    have:j≠id:=by rintro rfl;rw [hH] at hj;cases hj
    exact ⟨by rw [hold j this],cs2,by rw [hsm j this];exact hj,rfl⟩
  · intro j fz e2 ek2 ver2 xs2 hj
    by_cases e3:j=id
    · subst e3
      rw [hH] at hj
      injection hj with hj
      injection hj with z1 z2 z3 z4 z5
      subst z1;subst z2;subst z3;subst z4;subst z5
      exact ⟨false,ver',xs',hself,Nat.le_of_lt hver,fun hv=>absurd hv (by omega)⟩
    · exact ⟨fz,ver2,xs2,by rw [hsm j e3];exact hj,Nat.le_refl _,fun _=>⟨hold j e3,rfl⟩⟩
 refine ⟨⟨?_,?_,?_,?_,?_,hh.glob.keep hk,?_⟩,hg,by rw [z95];omega,rfl,rfl,rfl,?_⟩
 · intro j o' ho'
   have hl:j<H.length:=by have:=(List.getElem?_eq_some_iff.1 ho').1;simpa using this
   rw [z95]
   by_cases e3:j=id
   · subst e3;rw [hnew];show w.heap.size<_;omega
   · rw [hold j e3];have:=hlt j hl;omega
 · intro b hb;rw [z95];have:=hh.fthere b hb;omega
 · intro j ek2 cs2 hj
   have e4:j≠id:=by rintro rfl;rw [hself] at hj;cases hj
   rw [hsm j e4] at hj
   have hl:=(List.getElem?_eq_some_iff.1 hj).1
   obtain ⟨k1,vs2,e3,k2,k3,k4⟩:=hh.var j ek2 cs2 hj
   rw [hold j e4]
   exact ⟨k1,vs2,e3,(heap_alloc_old w _ _ (hlt j hl)).trans k2,RHs.grow hg _ _ k3,k4⟩
 · intro j ek2 cs2 T hj hT
   have e4:j≠id:=by rintro rfl;rw [hself] at hj;cases hj
   rw [hsm j e4] at hj
   have hl:=(List.getElem?_eq_some_iff.1 hj).1
   rw [hold j e4]
   exact (hh.ty j ek2 cs2 T hj hT).imp fun vs k=>(heap_alloc_old w _ _ (hlt j hl)).trans k
 · intro j fz e2 ek2 ver2 xs2 hj
   by_cases e3:j=id
   · subst e3
     rw [hself] at hj
     injection hj with hj
     injection hj with z1 z2 z3 z4 z5
     subst z1;subst z2;subst z3;subst z4;subst z5
     rw [hnew]
     exact ⟨us',rest',⟨_,heap_alloc_new w _,fun _=>rfl⟩,RRow.keep hk _ _ _ hr,htot,hcap,hpos,(fun hf=>by cases hf),fun _ hf=>Nat.lt_irrefl _ (hh.fthere _ hf)⟩
   · rw [hsm j e3] at hj
     have hl:=(List.getElem?_eq_some_iff.1 hj).1
     obtain ⟨us2,rest2,k1,k2,k3,k4,k5,k6,k7⟩:=hh.row j fz e2 ek2 ver2 xs2 hj
     rw [hold j e3]
     exact ⟨us2,rest2,k1.imp fun q k=>⟨(heap_alloc_old w _ _ (hlt j hl)).trans k.1,k.2⟩,RRow.keep hk _ _ _ k2,k3,k4,k5,k6,k7⟩
 · intro i j hi hj he
   rw [List.length_set] at hi hj
   by_cases e1:i=id
   · by_cases e2:j=id
     · omega
     · subst e1
       rw [hnew,hold j e2] at he
       have:=hlt j hj
       simp only at he
       omega
   · by_cases e2:j=id
     · subst e2
       rw [hnew,hold i e1] at he
       have:=hlt i hi
       simp only at he
       omega
     · rw [hold i e1,hold j e2] at he;exact hh.inj i j hi hj he
 · intro b hb hid'
   refine ⟨heap_alloc_old w _ b hb,?_,fun h=>h⟩
   intro j hj
   rw [List.length_set] at hj
   by_cases e1:j=id
   · subst e1;rw [hnew];show w.heap.size≠b;omega
   · rw [hold j e1];exact hid' j hj
theorem ja5 {ek:Option Nat} {xs:List CV}:∀ {us:List Value},RRow w F ek xs us→∀ u∈us,u.oneCell'=true:=by
 induction xs with
 | nil=>intro us h;unfold RRow at h;subst h;simp
 | cons c cs ih=>
   intro us h u hu
   unfold RRow at h
   obtain ⟨v,ws,rfl,h1,h2,h3⟩:=h
   rcases List.mem_append.1 hu with hu | hu
   · exact (zk8 (q13 h1 h2) h2).2.2 u hu
   · exact ih h3 u hu
theorem j70 {ek:Option Nat} {xs ys:List CV}:∀ {us vs:List Value},RRow w F ek xs us→RRow w F ek ys vs→RRow w F ek (xs++ys) (us++vs):=by
 induction xs with
 | nil=>intro us vs h k;unfold RRow at h;subst h;exact k
 | cons c cs ih=>
   intro us vs h k
   unfold RRow at h
   obtain ⟨v,ws,rfl,h1,h2,h3⟩:=h
   rw [List.cons_append,List.append_assoc]
   unfold RRow
   exact ⟨v,ws++vs,rfl,h1,h2,ih h3 k⟩
theorem qv1 (hh:RHeap w F H m) {ek:Option Nat} {x:HV} {v:Value} {new:List CV} (he:zm9 ek x H=some new) (h:RH w F H m x v) :
 ∃ ad c us,v=.slice ad new.length c∧RRow w F ek new us∧(new≠[]→∃ b off,ad=some ⟨b,off,none⟩∧w.rangeAt b off us):=by
 unfold zm9 at he
 split at he
 · injection he with he;subst he
   unfold RH at h;subst h
   exact ⟨none,0,[],rfl,by unfold RRow;rfl,fun hne=>absurd rfl hne⟩
 · injection he with he;subst he
   rw [rh_c] at h
   unfold RC at h
   obtain ⟨ad,cap,rfl,_,_⟩:=h
   exact ⟨ad,cap,[],rfl,by unfold RRow;rfl,fun hne=>absurd rfl hne⟩
 · rename_i ek' xs hne
   split at he
   · rename_i hek
     subst hek
     injection he with he;subst he
     rw [rh_c] at h
     unfold RC at h
     obtain ⟨ad,cap,rfl,_,h2⟩:=h
     have hxs:xs≠[]:=by
      intro e
      subst e
      exact hne rfl
     obtain ⟨b,off,vs,rfl,_,h3,h4⟩:=h2 hxs
     exact ⟨_,cap,vs,rfl,h4,fun _=>⟨b,off,rfl,h3⟩⟩
   · cases he
 · rename_i id ver off len
   split at he
   · rename_i fz e ek' ver' xs hH
     split at he
     · rename_i hc
       obtain ⟨hek,hv,hle⟩:=hc
       subst hek;subst hv
       injection he with he;subst he
       unfold RH at h
       obtain ⟨ad,cap,rfl,_,hall⟩:=h
       obtain ⟨p1,p2,p3,p4⟩:=hall _ _ _ _ hH
       obtain ⟨us,rest,⟨_,k1,_⟩,k2,_⟩:=hh.row id fz e ek' _ xs hH
       obtain ⟨ws,r1,r2⟩:=qc9 (z90 k1) k2 off len
       have hlen:((xs.drop off).take len).length=len:=by rw [List.length_take,List.length_drop];omega
       refine ⟨some ad,cap,ws,by rw [hlen],r2,fun hne=>?_⟩
       have hpos:0<len:=by rw [← hlen];exact List.length_pos_iff.2 hne
       exact ⟨(m id).blk,off * z42 ek',by rw [p4 (.inl (by omega))],by simpa using r1⟩
     · cases he
   · cases he
 · cases he
theorem range_add {b off:Nat} {us:List Value} (h:w.rangeAt b off us):∀ j u,us[j]?=some u→w.cell? ((⟨b,off,none⟩:Addr).add j)=some u:=by
 intro j u hu
 rw [Addr.add_mid]
 exact h j u hu
theorem qk1 (w:World) (F:Nat→Prop):∀ s:List UInt8,RRow w F none (bytesV s) (s.map fun b=>Value.int .u8 b.toNat)
 | []=>by unfold bytesV RRow;rfl
 | b::s=>by
   have:=qk1 w F s
   unfold bytesV at this ⊢
   simp only [List.map_cons]
   unfold RRow
   exact ⟨.int .u8 b.toNat,_,rfl,by simp [Shape,Value.oneCell'],by rw [zc7],this⟩
theorem wl6 (hh:RHeap w F H m) {tx:TypeId} (hk:(∃ e',P.underlying tx=some (.slice e'))∨P.underlying tx=some .string) {size:Nat} {ek:Option Nat} (hsz:size=z42 ek) {x:HV} {v:Value} {new:List CV} (he:ql8 ek x H=some new) (h:RH w F H m x v) :
 ∃ us:List Value,Src P size tx v new.length us w∧RRow w F ek new us:=by
 unfold ql8 at he
 split at he
 · rename_i s
   split at he
   · rename_i hek
     subst hek
     injection he with he;subst he
     rw [rh_c,ze5] at h
     subst h
     have hl:(bytesV s).length=(⟨s.toArray⟩:ByteArray).size:=by simp [bytesV,ByteArray.size]
     have hb:byteCells ⟨s.toArray⟩=s.map fun b=>Value.int .u8 b.toNat:=by simp [byteCells]
     simp only [z42] at hsz
     subst hsz
     refine ⟨_,⟨hk,fun _=>by rw [hl];rfl,?_,?_,?_,?_⟩,qk1 w F s⟩
     · rw [hl,← hb];exact firstCells_string _ _
     · rw [hl,← hb];exact firstCells_string _ _
     · simp [bytesV]
     · intro u hu
       obtain ⟨_,_,rfl⟩:=List.mem_map.1 hu
       rfl
   · cases he
 · obtain ⟨ad,c,us,rfl,hrow,hrange⟩:=qv1 hh he h
   have hul:us.length=new.length * size:=by rw [zg1 hrow,hsz]
   refine ⟨us,⟨hk,fun _=>rfl,?_,?_,hul,ja5 hrow⟩,hrow⟩
   · by_cases hn:new=[]
     · subst hn
       simp at hul
       subst hul
       cases ad with
       | none=>exact run_firstCells_none w size 0 0 c
       | some ad=>exact run_firstCells_some w size 0 ad 0 c [] (by simp) (by simp)
     · obtain ⟨b,off,rfl,hr⟩:=hrange hn
       exact run_firstCells_some w size _ _ _ c us hul (range_add hr)
   · by_cases hn:new=[]
     · subst hn
       simp at hul
       subst hul
       cases ad with
       | none=>exact run_firstCells_none w.drew size 0 0 c
       | some ad=>exact run_firstCells_some w.drew size 0 ad 0 c [] (by simp) (by simp)
     · obtain ⟨b,off,rfl,hr⟩:=hrange hn
       exact run_firstCells_some w.drew size _ _ _ c us hul (by simpa using range_add hr)
theorem zu9 {t tx ty e:TypeId} {i:TypeInfo} (ht:P.underlying t=some (.slice e)) (hi:P.info? e=some i) (base:Option Addr) (n cap:Nat) (hn:n≤cap) {x:Value} {us:List Value} (hs:Src P i.size tx x 0 us w) :
 (Builtin.append_ #[t,tx] ty #[.slice base n cap,x]).run P w=.ok (.slice base n cap) w:=by
 have hu:us=[]:=by have:=hs.newsLen;simpa using this
 subst hu
 have hc:=hs.cells
 rcases hs.kind with ⟨e',hk⟩ | hk<;>cases base with
 | none=>simp [Builtin.append_,run_underlying ht,run_underlying hk,sizeOf,typeInfo,hi,hs.len,hc,hn]
 | some b=>simp [Builtin.append_,run_underlying ht,run_underlying hk,sizeOf,typeInfo,hi,hs.len,hc,hn,storeCells]
theorem q95 (t tx ty e:TypeId) (i:TypeInfo) (ht:P.underlying t=some (.slice e)) (hi:P.info? e=some i)
 (g sLen sCap:Nat) (cur:Array Value) (hg:w.heap[g]?=some (.cells cur e (0,0))) (x:Value) (n:Nat) (news:List Value) (hs:Src P i.size tx x n news w)
 (hroom:sLen+n≤sCap) (hfit:sLen * i.size+news.length≤cur.size) :
 (Builtin.append_ #[t,tx] ty #[.slice (some ⟨g,0,none⟩) sLen sCap,x]).run P w =
   .ok (.slice (some ⟨g,0,none⟩) (sLen+n) sCap) (w.setRow g (cur.toList.take (sLen * i.size)++news++cur.toList.drop (sLen * i.size+news.length)).toArray):=by
 have hst:=run_storeCells_at P g (sLen * i.size) e news 0 cur w hg (by simpa using hfit) hs.one
 simp only [Nat.add_zero] at hst
 rcases hs.kind with ⟨e',hk⟩ | hk<;>simp [Builtin.append_,run_underlying ht,run_underlying hk,sizeOf,typeInfo,hi,hs.len,hroom,hs.cells,Addr.add_lit,hst]
theorem zo4 {t tx:TypeId} {s x:Operand} {v u r:Value} {w':World} (ho:o.op=.call { callee:=.builtin .append,args:=#[s,x],argTypes:=#[t,tx] }) (hs:a.eval s=v) (hx:a.eval x=u)
 (hr:(Builtin.append_ #[t,tx] o.type #[v,u]).run P w=.ok r w'):(execOp a.eval o).run P w=.ok (.value r) w':=by
 simp only [execOp,ho,resolve,invoke,builtin,Sem.run_bind,Sem.run_pure,Result.andThen_ok,List.map_toArray,List.map_cons,List.map_nil,hs,hx,hr]
theorem ju2 {t tx e:TypeId} {s x:Operand} {is ix:Opd} {ek:Option Nat} {i:TypeInfo} {z:Value} (ho:o.op=.call { callee:=.builtin .append,args:=#[s,x],argTypes:=#[t,tx] }) (ht:P.underlying t=some (.slice e)) (hk:(∃ e',P.underlying tx=some (.slice e'))∨P.underlying tx=some .string) (he:ekOf P e=some ek)
 (hi:P.info? e=some i) (hz:i.zero=some z) (hzs:z.cells.size=z42 ek) (hsx:z79 s=some is) (hx:z79 x=some ix) (hs:RS fb N w F H m lb fr a) (hN:∀ d,o.dst=some d→d<N)
 {fr':Fr} {H':Heap} (hd:z40 (.app e ek i.bytes is ix) o.dst fr H=some (fr',H')) (h:Next fb N w F H m fr' H' K):o.wp P a w K Q:=by
 obtain ⟨h1,_⟩:=z77 hs.fr hsx
 obtain ⟨h2,_⟩:=z77 hs.fr hx
 have hisz:i.size=z42 ek:=by have:=(zv7 he).1;simpa [hi] using this
 have hpos:=(zv7 he).2
 unfold z40 at hd
 dsimp only at hd
 cases ha:appH e ek i.bytes (fr.opd is) (fr.opd ix) H with
 | none=>rw [ha] at hd;cases hd
 | some p=>
   obtain ⟨v,H1⟩:=p
   rw [ha] at hd
   injection hd with hd
   injection hd with q1 q2
   subst q1;subst q2
   generalize fr.opd is=vs at ha h1
   generalize fr.opd ix=vx at ha h2
   unfold appH at ha
   cases hel:ql8 ek vx H with
   | none=>rw [hel] at ha;cases ha
   | some new=>
     rw [hel] at ha
     dsimp only at ha
     generalize e1:a.eval x=vx' at h2
     obtain ⟨us,hsrc,hrow⟩:=wl6 (P:=P) hs.heap hk hisz hel h2
     have hul:us.length=new.length * i.size:=by rw [zg1 hrow,hisz]
     have hone:=ja5 hrow
     split at ha
     · unfold RH at h1
       split at ha
       · rename_i hn
         subst hn
         injection ha with ha
         injection ha with z1 z2
         subst z1;subst z2
         refine z61 hs hN (u:=.slice none 0 0) (by unfold RH;rfl) (by simp) h (zo4 ho h1 e1 ?_)
         exact zu9 ht hi none 0 0 (Nat.le_refl _) hsrc
       · rename_i hn
         split at ha
         · rename_i hlim
           injection ha with ha
           injection ha with z1 z2
           subst z1;subst z2
           have hlen:0<new.length:=List.length_pos_iff.2 hn
           simp only [lim] at hlim
           have hrun:=run_append_grow_src (P:=P) w t tx o.type e i z ht hi hz none 0 0 [] (run_firstCells_none w.drew i.size 0 0 0) vx' new.length us hsrc (by omega) (by omega) (by rw [Nat.zero_add,nextslicecap_zero hlen];omega)
           simp only [Nat.zero_add,List.nil_append] at hrun
           have hcl:=grownCap_le_maxLen w new.length 0 e (by simp only [maxLen];omega)
           have hcg:=grownCap_ge w new.length 0 e
           generalize grownCap w new.length 0 e=cap at hrun hcl hcg
           have hcells:(us.toArray++Builtin.zeroCells z.cells (cap - new.length))=(us++(Builtin.zeroCells z.cells (cap - new.length)).toList).toArray:=by simp
           rw [hcells] at hrun
           have st0:=qo9 (F:=F) (H:=H) (m:=m) (w:=w) w.heap.size
           have hh0:=zy7 hs.heap
           have st1:=qn6 hh0 (.cells (us++(Builtin.zeroCells z.cells (cap - new.length)).toList).toArray e (0,0)) (.row false e ek 0 new) cap
           have hh1:=qc2 hh0 (vs:=us++(Builtin.zeroCells z.cells (cap - new.length)).toList) (e:=e) (ho:=.row false e ek 0 new) (cap:=cap) (fun ek' cs he=>by cases he) (fun fz e' ek' ver xs he=>by
            injection he with y1 y2 y3 y4 y5
            subst y1;subst y2;subst y3;subst y4;subst y5
            refine ⟨rfl,rfl,us,_,rfl,RRow.keep st1.g.keeps _ _ _ (RRow.keep st0.g.keeps _ _ _ hrow),?_,hcl,hpos⟩
            rw [hul,hisz]
            simp only [Array.length_toList,size_zeroCells,hzs]
            rw [← Nat.add_mul]
            congr 1
            omega)
           refine zl6 hs hN (st0.trans st1) hh1 (u:=.slice (some ⟨w.heap.size,0,none⟩) new.length cap) ?_ (by simp) h (zo4 ho h1 e1 hrun)
           unfold RH
           refine ⟨_,_,rfl,⟨false,e,ek,0,new,by simp,Nat.le_refl _⟩,fun fz e2 ek2 xs2 hH2=>?_⟩
           simp at hH2
           obtain ⟨y1,y2,y3,y4⟩:=hH2
           subst y4;subst y3
           refine ⟨by omega,by simp [upd],hcg,fun _=>by simp [upd]⟩
         · cases ha
     · rename_i id ver n
       split at ha
       · rename_i e' ek' ver' xs hH
         split at ha
         · rename_i hc
           obtain ⟨y1,y2,y3,hnx,hb1,hb2⟩:=hc
           subst y1;subst y2;subst y3
           injection ha with ha
           injection ha with z1 z2
           subst z1;subst z2
           simp only [lim] at hb1 hb2
           unfold RH at h1
           obtain ⟨ad0,cap,h1,hex,hall⟩:=h1
           obtain ⟨p1,p2,p3,p4⟩:=hall _ _ _ _ hH
           have had:=p4 (.inr rfl)
           simp only [Nat.zero_mul,Nat.zero_add] at had p1 p2
           subst had
           obtain ⟨cs,rest,⟨q0,k1,hq0⟩,k2,k3,k4,k5,k6,k7⟩:=hs.heap.row id false e' ek' _ xs hH
           cases hq0 rfl
           have hcl:=zg1 k2
           have hnle:n * z42 ek'≤cs.length:=by rw [hcl];exact Nat.mul_le_mul_right _ hnx
           have hkeepn:=qg2 n k2
           have hrow':=j70 hkeepn hrow
           have hlen':(cs.take (n * z42 ek')).length=n * z42 ek':=by rw [List.length_take];omega
           have hres:∀ (F2:Nat→Prop) (m2:LMap) (w2:World) (b2 cap2:Nat),m2 id=⟨b2,cap2⟩→n+new.length≤cap2 →
            RH w2 F2 (H.set id (.row false e' ek' (ver'+1) (xs.take n++new))) m2 (.sl id (ver'+1) 0 (n+new.length)) (.slice (some ⟨b2,0,none⟩) (n+new.length) cap2):=by
            intro F2 m2 w2 b2 cap2 hm2 hcap2
            have hid:=(List.getElem?_eq_some_iff.1 hH).1
            unfold RH
            refine ⟨_,_,rfl,⟨false,e',ek',ver'+1,xs.take n++new,by simp [hid],Nat.le_refl _⟩,fun fz e2 ek2 xs2 hH2=>?_⟩
            simp [hid] at hH2
            obtain ⟨y1,y2,y3,y4⟩:=hH2
            subst y4;subst y3
            rw [hm2]
            refine ⟨by simp only [List.length_append,List.length_take];omega,by simp,hcap2,fun _=>by simp⟩
           have hcur:(cs++rest).toArray.toList=cs++rest:=by simp
           by_cases hnew:new=[]
           · subst hnew
             simp only [List.length_nil,Nat.add_zero,List.append_nil] at *
             have hself:w.setRow (m id).blk (cs.take (n * z42 ek')++(cs.drop (n * z42 ek')++rest)).toArray=w:=by
              rw [← List.append_assoc,List.take_append_drop]
              exact setRow_self w _ _ e' (0,0) k1
             obtain ⟨r1,r2⟩:=j75 hs.heap hH k1 (ver':=ver'+1) (xs':=xs.take n) (us':=cs.take (n * z42 ek')) (rest':=cs.drop (n * z42 ek')++rest) (by simp only [List.length_append,List.length_take,List.length_drop];omega) k3 k4 k5 (by omega) (fun hv=>absurd hv (by omega)) hkeepn
             rw [hself] at r1 r2
             refine zl6 hs hN r2 r1 (hres F m w (m id).blk cap (by subst p2;rfl) p3) (by simp) h (zo4 ho h1 e1 ?_)
             exact zu9 ht hi _ n cap p3 hsrc
           · by_cases hroom:n+new.length≤cap
             · have hfit:n * i.size+us.length≤(cs++rest).toArray.size:=by
                rw [hul,hisz,List.size_toArray,List.length_append,k3,← p2,← Nat.add_mul]
                exact Nat.mul_le_mul_right _ hroom
               have hrun:=q95 (P:=P) (w:=w) t tx o.type e' i ht hi (m id).blk n cap (cs++rest).toArray k1 vx' new.length us hsrc hroom hfit
               rw [hcur,hisz] at hrun
               rw [List.take_append_of_le_length hnle] at hrun
               obtain ⟨r1,r2⟩:=j75 hs.heap hH k1 (ver':=ver'+1) (xs':=xs.take n++new) (us':=cs.take (n * z42 ek')++us) (rest':=(cs++rest).drop (n * z42 ek'+us.length)) (by
                simp only [List.length_append,List.length_drop,hlen']
                have:=hfit
                rw [hisz,List.size_toArray,List.length_append] at this
                omega) k3 k4 k5 (by omega) (fun hv=>absurd hv (by omega)) hrow'
               refine zl6 hs hN r2 r1 (hres F m _ (m id).blk cap (by subst p2;rfl) hroom) (by simp) h (zo4 ho h1 e1 hrun)
             · have holds:∀ j v,(cs.take (n * z42 ek'))[j]?=some v→w.cell? ((⟨(m id).blk,0,none⟩:Addr).add j)=some v:=by
                refine range_add ?_
                intro j v hv
                rw [List.getElem?_take] at hv
                split at hv
                · exact z90 k1 j v hv
                · cases hv
               have hrun:=run_append_grow_src (P:=P) w t tx o.type e' i z ht hi hz (some ⟨(m id).blk,0,none⟩) n cap (cs.take (n * z42 ek')) (run_firstCells_some w.drew i.size n ⟨(m id).blk,0,none⟩ n cap (cs.take (n * z42 ek')) (by rw [hlen',hisz]) (by simpa using holds)) vx' new.length us hsrc (by omega) (by omega) (growslice_fits (by omega) (by omega))
               have hcl2:=grownCap_le_maxLen w (n+new.length) cap e' (by simp only [maxLen];omega)
               have hcg:=grownCap_ge w (n+new.length) cap e'
               generalize grownCap w (n+new.length) cap e'=cap2 at hrun hcl2 hcg
               have hcells:((cs.take (n * z42 ek')++us).toArray++Builtin.zeroCells z.cells (cap2 - (n+new.length)))=((cs.take (n * z42 ek')++us)++(Builtin.zeroCells z.cells (cap2 - (n+new.length))).toList).toArray:=by simp
               rw [hcells] at hrun
               have st0:=qo9 (F:=F) (H:=H) (m:=m) (w:=w) w.heap.size
               have hh0:=zy7 hs.heap
               obtain ⟨r1,r2⟩:=w84 hh0 hH (ver':=ver'+1) (cap':=cap2) (xs':=xs.take n++new) (us':=cs.take (n * z42 ek')++us) (rest':=(Builtin.zeroCells z.cells (cap2 - (n+new.length))).toList) (by omega) (RRow.keep st0.g.keeps _ _ _ hrow') (by
                simp only [List.length_append,hlen',hul,hisz,Array.length_toList,size_zeroCells,hzs]
                rw [← Nat.add_mul,← Nat.add_mul]
                congr 1
                omega) hcl2 hpos
               refine zl6 hs hN (st0.trans r2) r1 (hres F _ _ w.heap.size cap2 (by simp [upd]) hcg) (by simp) h (zo4 ho h1 e1 hrun)
         · cases ha
       · cases ha
     · cases ha
end
theorem jv8 {w:World} {F:Nat→Prop}:∀ {new:List CV} {us:List Value} {l:List UInt8},RRow w F none new us→zf4 new=some l→∃ ns:List Int,us=ns.map (Value.int .u8)∧l=ns.map fun n=>UInt8.ofNat n.toNat:=by
 intro new
 induction new with
 | nil=>
   intro us l h hb
   simp only [zf4,Option.some.injEq] at hb
   subst hb
   unfold RRow at h
   subst h
   exact ⟨[],rfl,rfl⟩
 | cons c new ih=>
   intro us l h hb
   unfold zf4 at hb
   split at hb
   · rename_i e;cases e
   · rename_i n r e
     injection e with e1 e2
     subst e1;subst e2
     split at hb
     · rename_i l' hl
       injection hb with hb
       subst hb
       unfold RRow at h
       obtain ⟨v,us',rfl,hs,hr,hrow⟩:=h
       rw [zc7] at hr
       subst hr
       obtain ⟨ns,rfl,rfl⟩:=ih hrow hl
       exact ⟨n::ns,rfl,rfl⟩
     · cases hb
   · cases hb
theorem j24:∀ (ns:List Int) (s:ByteArray),ns.foldl (fun r n=>r.push (UInt8.ofNat n.toNat)) s=⟨s.data++(ns.map fun n=>UInt8.ofNat n.toNat).toArray⟩:=by
 intro ns
 induction ns with
 | nil=>intro s;simp
 | cons n ns ih=>
   intro s
   rw [List.foldl_cons,ih]
   simp [ByteArray.push]
section
variable {P:Program} {fb N:Nat} {w:World} {F:Nat→Prop} {H:Heap} {m:LMap} {lb:Nat→Nat} {fr:Fr} {a:Act} {o:Oper}
variable {K:Act→World→Prop} {Q:Exit→Act→World→Prop}
theorem wq1 {s d e:TypeId} {x:Operand} {ix:Opd} (ho:o.op=.convert s d x) (h1':P.underlying s=some (.slice e)) (h2':P.underlying d=some .string) (h3':P.underlying e=some (.int .u8)) (hx:z79 x=some ix) (hs:RS fb N w F H m lb fr a) (hN:∀ d,o.dst=some d→d<N)
 {fr':Fr} {H':Heap} (hd:z40 (.b2s ix) o.dst fr H=some (fr',H')) (h:Next fb N w F H m fr' H' K):o.wp P a w K Q:=by
 unfold z40 at hd
 dsimp only at hd
 obtain ⟨h1,_⟩:=z77 hs.fr hx
 cases he:zm9 none (fr.opd ix) H with
 | none=>rw [he] at hd;cases hd
 | some new=>
   rw [he] at hd
   simp only [Option.bind_some] at hd
   cases hb:zf4 new with
   | none=>rw [hb] at hd;cases hd
   | some l=>
     rw [hb] at hd
     injection hd with hd
     injection hd with q1 q2
     subst q1;subst q2
     obtain ⟨ad,c,us,hv,hrow,hne⟩:=qv1 hs.heap he h1
     obtain ⟨ns,rfl,rfl⟩:=jv8 hrow hb
     refine z61 hs hN (u:=.string ⟨(ns.map fun n=>UInt8.ofNat n.toNat).toArray⟩) (by rw [rh_c,ze5]) (by simp) h ?_
     have hlen:new.length=ns.length:=by
      have:=zg1 hrow
      simpa [z42] using this.symm
     have hconv:=run_convert_bytes_string (P:=P) w s d e ad new.length c h1' h3' h2'
     have hfin:(Conv.bytesToString (.slice ad new.length c)).run P w=.ok (.string ⟨(ns.map fun n=>UInt8.ofNat n.toNat).toArray⟩) w:=by
      cases ad with
      | none=>
        have hn:new=[]:=by
         cases new with
         | nil=>rfl
         | cons c0 new0=>obtain ⟨b,off,hh,_⟩:=hne (by simp);cases hh
        subst hn
        have:ns=[]:=by cases ns with
         | nil=>rfl
         | cons=>simp at hlen
        subst this
        simp [Conv.bytesToString]
        rfl
      | some p=>
        rw [run_bytesToString w p new.length c ns,j24]
        · simp
        · rw [hlen]
          have hl:=run_loadCells_list (P:=P) (w:=w) p (ns.map (Value.int .u8)) (by
           intro j v hj
           cases new with
           | nil=>
             have:ns=[]:=by cases ns with
              | nil=>rfl
              | cons=>simp at hlen
             subst this
             simp at hj
           | cons c0 new0=>
             obtain ⟨b,off,hh,hr⟩:=hne (by simp)
             injection hh with hh
             subst hh
             have hr':=hr j v hj
             unfold Addr.add
             by_cases hj0:j=0
             · subst hj0;simpa using hr'
             · simpa [hj0] using hr')
          simpa using hl
     simp only [execOp,ho,Sem.run_bind,hv,hconv,hfin,Result.andThen_ok,Sem.run_pure]
end
end Go.Proofs.Lz
