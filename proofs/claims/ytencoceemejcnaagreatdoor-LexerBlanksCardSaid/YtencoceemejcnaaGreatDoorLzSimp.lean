/- What simp is told of the evaluator. -/
import Derived.Test.YtencoceemejcnaaGreatDoorLzOm
namespace Go.Proofs.Lz
@[simp] theorem upd_at {α:Type} (f:Nat→α) (t:Nat) (v:α) (s:Nat):upd f t v s=if s=t then v else f s:=rfl
@[simp] theorem noAl_at (s:Nat):noAl s=none:=rfl
@[simp] theorem ev_region (E:Env) (c:za3) (it:Run→Run) (ops:List IOper) (fr:Fr) (H:Heap) :
 evC E c it (.region ops) fr H=match zd5 E c ops { fr with al:=noAl } H with
  | some (fr',H')=>some (.nrm,fr',H')
  | none=>none:=rfl
@[simp] theorem ev_regionD (E:Env) (c:za3) (it:Run→Run) (ops:List (Cls×IOper)) (fr:Fr) (H:Heap) :
 evC E c it (.regionD ops) fr H=match zq5 E c ops { fr with al:=noAl } H with
  | some (fr',H')=>some (.nrm,fr',H')
  | none=>none:=rfl
@[simp] theorem ev_seq (E:Env) (c:za3) (it:Run→Run) (a b:ICode) (fr:Fr) (H:Heap) :
 evC E c it (.seq a b) fr H=match evC E c it a fr H with
  | some (.nrm,fr',H')=>evC E c it b fr' H'
  | r=>r:=rfl
@[simp] theorem ev_skip (E:Env) (c:za3) (it:Run→Run) (fr:Fr) (H:Heap):evC E c it .skip fr H=some (.nrm,fr,H):=rfl
@[simp] theorem ev_exit (E:Env) (c:za3) (it:Run→Run) (i:Nat) (fr:Fr) (H:Heap):evC E c it (.exit i) fr H=some (.exit i,fr,H):=rfl
@[simp] theorem ev_goto (E:Env) (c:za3) (it:Run→Run) (i:Nat) (fr:Fr) (H:Heap):evC E c it (.goto i) fr H=some (.goto i,fr,H):=rfl
@[simp] theorem ev_ret (E:Env) (c:za3) (it:Run→Run) (fr:Fr) (H:Heap):evC E c it .ret fr H=some (.ret,fr,H):=rfl
@[simp] theorem ev_label (E:Env) (c:za3) (it:Run→Run) (i:Nat) (fr:Fr) (H:Heap):evC E c it (.label i) fr H=some (.nrm,fr,H):=rfl
@[simp] theorem ev_cond (E:Env) (c:za3) (it:Run→Run) (x:Opd) (a b:ICode) (fr:Fr) (H:Heap) :
 evC E c it (.cond x a b) fr H=match fr.opd x with
  | .c (.bool t)=>if t=true then evC E c it a fr H else evC E c it b fr H
  | _=>none:=rfl
@[simp] theorem ev_block (E:Env) (c:za3) (it:Run→Run) (i:Nat) (a:ICode) (fr:Fr) (H:Heap) :
 evC E c it (.block i a) fr H=match evC E c it a fr H with
  | some (.exit j,fr',H')=>if j=i then some (.nrm,fr',H') else some (.exit j,fr',H')
  | r=>r:=rfl
theorem ev_loop (E:Env) (c:za3) (it:Run→Run) (l:List Nat) (a:ICode) (fr:Fr) (H:Heap) :
 evC E c it (.loop l a) fr H=it (fun fr H=>evC E c it a (keep l fr) H) fr H:=rfl
attribute [simp] aggH zx4 zd2 zd5 stp doOp z42 zq5 stpD stpG doD qa0 zn1 Fr.place Fr.put Fr.link Fr.opd binds za9 HV.flat CV.flat zj8 jp7 zv2 zd0 zo1 binC unC eqL zn5 oneOf
attribute [simp] z82 q69 keep q05 wt0 lenH ixH optI zt0 zh7 zb0 fits zk3 j36 z45 qo5 zd7 zc0 thaw zj3 zc2 zg3 q47 zk6 z99 q46 zn8 isC z91 zw7 zm2 frzV q41 zk2 qa2 noRef noRef.noRefL zt9 zf4 zo1 slcH appH
@[simp] theorem elemsH_frz (ek:Option Nat) (xs:List CV) (H:Heap):zm8 ek (.c (.frz ek xs)) H=some xs:=by
 cases xs<;>simp [zm8]
@[simp] theorem elemsH_frz0 (ek ek':Option Nat) (H:Heap):zm8 ek (.c (.frz ek' [])) H=some []:=rfl
@[simp] theorem elemsH_nils (ek:Option Nat) (H:Heap):zm8 ek .nils H=some []:=rfl
@[simp] theorem elemsH_sl (ek:Option Nat) (id ver off len:Nat) (H:Heap):zm8 ek (.sl id ver off len) H=match H[id]? with
 | some (.row _ _ ek' ver' xs)=>if ek'=ek∧ver=ver'∧off+len≤xs.length then some ((xs.drop off).take len) else none
 | _=>none:=rfl
end Go.Proofs.Lz
