/- What simp is told of the evaluator. -/
import Derived.Test.YtencoceemejcnaaGreatDoorLzOm
namespace Go.Proofs.Lz
@[simp] theorem upd_at {α:Type} (f:Nat→α) (t:Nat) (v:α) (s:Nat):upd f t v s=if s=t then v else f s:=rfl
@[simp] theorem noAl_at (s:Nat):noAl s=none:=rfl
@[simp] theorem ev_region (E:Env) (c:z88) (it:Run→Run) (ops:List IOper) (fr:Fr) (H:Heap) :
 evC E c it (.region ops) fr H=match zc2 E c ops { fr with al:=noAl } H with
  | some (fr',H')=>some (.nrm,fr',H')
  | none=>none:=rfl
@[simp] theorem ev_regionD (E:Env) (c:z88) (it:Run→Run) (ops:List (Cls×IOper)) (fr:Fr) (H:Heap) :
 evC E c it (.regionD ops) fr H=match zp3 E c ops { fr with al:=noAl } H with
  | some (fr',H')=>some (.nrm,fr',H')
  | none=>none:=rfl
@[simp] theorem ev_seq (E:Env) (c:z88) (it:Run→Run) (a b:ICode) (fr:Fr) (H:Heap) :
 evC E c it (.seq a b) fr H=match evC E c it a fr H with
  | some (.nrm,fr',H')=>evC E c it b fr' H'
  | r=>r:=rfl
@[simp] theorem ev_skip (E:Env) (c:z88) (it:Run→Run) (fr:Fr) (H:Heap):evC E c it .skip fr H=some (.nrm,fr,H):=rfl
@[simp] theorem ev_exit (E:Env) (c:z88) (it:Run→Run) (i:Nat) (fr:Fr) (H:Heap):evC E c it (.exit i) fr H=some (.exit i,fr,H):=rfl
@[simp] theorem ev_goto (E:Env) (c:z88) (it:Run→Run) (i:Nat) (fr:Fr) (H:Heap):evC E c it (.goto i) fr H=some (.goto i,fr,H):=rfl
@[simp] theorem ev_ret (E:Env) (c:z88) (it:Run→Run) (fr:Fr) (H:Heap):evC E c it .ret fr H=some (.ret,fr,H):=rfl
@[simp] theorem ev_label (E:Env) (c:z88) (it:Run→Run) (i:Nat) (fr:Fr) (H:Heap):evC E c it (.label i) fr H=some (.nrm,fr,H):=rfl
@[simp] theorem ev_cond (E:Env) (c:z88) (it:Run→Run) (x:Opd) (a b:ICode) (fr:Fr) (H:Heap) :
 evC E c it (.cond x a b) fr H=match fr.opd x with
  | .c (.bool t)=>if t=true then evC E c it a fr H else evC E c it b fr H
  | _=>none:=rfl
@[simp] theorem ev_block (E:Env) (c:z88) (it:Run→Run) (i:Nat) (a:ICode) (fr:Fr) (H:Heap) :
 evC E c it (.block i a) fr H=match evC E c it a fr H with
  | some (.exit j,fr',H')=>if j=i then some (.nrm,fr',H') else some (.exit j,fr',H')
  | r=>r:=rfl
theorem ev_loop (E:Env) (c:z88) (it:Run→Run) (l:List Nat) (a:ICode) (fr:Fr) (H:Heap) :
 evC E c it (.loop l a) fr H=it (fun fr H=>evC E c it a (keep l fr) H) fr H:=rfl
attribute [simp] aggH zu9 zb9 zc2 stp doOp z32 zp3 stpD stpG doD q65 zk5 Fr.place Fr.put Fr.link Fr.opd binds z97 HV.flat CV.flat zh3 jo0 zz3 zb4 zm1 binC unC eqL zl5 oneOf
attribute [simp] z68 q45 keep zx8 wd7 lenH ixH optI zp5 zf6 za0 fits zi0 qz9 z35 qm8 zc1 zc0 thaw zg9 za5 zd9 q11 zi2 z86 q04 zl3 isC z79 zu2 zj5 frzV q01 zh9 q66 noRef noRef.noRefL zr6 zd6 zm1 slcH appH
@[simp] theorem elemsH_frz (ek:Option Nat) (xs:List CV) (H:Heap):zk7 ek (.c (.frz ek xs)) H=some xs:=by
 cases xs<;>simp [zk7]
@[simp] theorem elemsH_frz0 (ek ek':Option Nat) (H:Heap):zk7 ek (.c (.frz ek' [])) H=some []:=rfl
@[simp] theorem elemsH_nils (ek:Option Nat) (H:Heap):zk7 ek .nils H=some []:=rfl
@[simp] theorem elemsH_sl (ek:Option Nat) (id ver off len:Nat) (H:Heap):zk7 ek (.sl id ver off len) H=match H[id]? with
 | some (.row _ _ ek' ver' xs)=>if ek'=ek∧ver=ver'∧off+len≤xs.length then some ((xs.drop off).take len) else none
 | _=>none:=rfl
end Go.Proofs.Lz
