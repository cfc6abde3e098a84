/- What simp is told of the evaluator. -/
import Derived.Test.YtencoceemejcnaaGreatDoorLzOm
namespace Go.Proofs.Lz
@[simp] theorem upd_at {α:Type} (f:Nat→α) (t:Nat) (v:α) (s:Nat):upd f t v s=if s=t then v else f s:=rfl
@[simp] theorem noAl_at (s:Nat):noAl s=none:=rfl
@[simp] theorem ev_region (E:Env) (c:za0) (it:Run→Run) (ops:List IOper) (fr:Fr) (H:Heap) :
 evC E c it (.region ops) fr H=match zd7 E c ops { fr with al:=noAl } H with
  | some (fr',H')=>some (.nrm,fr',H')
  | none=>none:=rfl
@[simp] theorem ev_regionD (E:Env) (c:za0) (it:Run→Run) (ops:List (Cls×IOper)) (fr:Fr) (H:Heap) :
 evC E c it (.regionD ops) fr H=match zq4 E c ops { fr with al:=noAl } H with
  | some (fr',H')=>some (.nrm,fr',H')
  | none=>none:=rfl
@[simp] theorem ev_seq (E:Env) (c:za0) (it:Run→Run) (a b:ICode) (fr:Fr) (H:Heap) :
 evC E c it (.seq a b) fr H=match evC E c it a fr H with
  | some (.nrm,fr',H')=>evC E c it b fr' H'
  | r=>r:=rfl
@[simp] theorem ev_skip (E:Env) (c:za0) (it:Run→Run) (fr:Fr) (H:Heap):evC E c it .skip fr H=some (.nrm,fr,H):=rfl
@[simp] theorem ev_exit (E:Env) (c:za0) (it:Run→Run) (i:Nat) (fr:Fr) (H:Heap):evC E c it (.exit i) fr H=some (.exit i,fr,H):=rfl
@[simp] theorem ev_goto (E:Env) (c:za0) (it:Run→Run) (i:Nat) (fr:Fr) (H:Heap):evC E c it (.goto i) fr H=some (.goto i,fr,H):=rfl
@[simp] theorem ev_ret (E:Env) (c:za0) (it:Run→Run) (fr:Fr) (H:Heap):evC E c it .ret fr H=some (.ret,fr,H):=rfl
@[simp] theorem ev_label (E:Env) (c:za0) (it:Run→Run) (i:Nat) (fr:Fr) (H:Heap):evC E c it (.label i) fr H=some (.nrm,fr,H):=rfl
@[simp] theorem ev_cond (E:Env) (c:za0) (it:Run→Run) (x:Opd) (a b:ICode) (fr:Fr) (H:Heap) :
 evC E c it (.cond x a b) fr H=match fr.opd x with
  | .c (.bool t)=>if t=true then evC E c it a fr H else evC E c it b fr H
  | _=>none:=rfl
@[simp] theorem ev_block (E:Env) (c:za0) (it:Run→Run) (i:Nat) (a:ICode) (fr:Fr) (H:Heap) :
 evC E c it (.block i a) fr H=match evC E c it a fr H with
  | some (.exit j,fr',H')=>if j=i then some (.nrm,fr',H') else some (.exit j,fr',H')
  | r=>r:=rfl
theorem ev_loop (E:Env) (c:za0) (it:Run→Run) (l:List Nat) (a:ICode) (fr:Fr) (H:Heap) :
 evC E c it (.loop l a) fr H=it (fun fr H=>evC E c it a (keep l fr) H) fr H:=rfl
attribute [simp] aggH zw3 zd3 zd7 stp doOp z40 zq4 stpD stpG doD q95 zm9 Fr.place Fr.put Fr.link Fr.opd binds za8 HV.flat CV.flat zj6 js0 zx5 zc8 zo0 binC unC eqL zn3 oneOf
attribute [simp] z81 q66 keep q04 wi7 lenH ixH optI zt1 zh6 zb0 fits zk0 j72 z41 qq6 zd6 zc0 thaw zi9 zb7 zf8 q29 zk4 z97 q43 zn7 isC z91 zv8 zl7 frzV q25 zj9 q96 noRef noRef.noRefL zu0 zf5 zo0 slcH appH
@[simp] theorem elemsH_frz (ek:Option Nat) (xs:List CV) (H:Heap):zm8 ek (.c (.frz ek xs)) H=some xs:=by
 cases xs<;>simp [zm8]
@[simp] theorem elemsH_frz0 (ek ek':Option Nat) (H:Heap):zm8 ek (.c (.frz ek' [])) H=some []:=rfl
@[simp] theorem elemsH_nils (ek:Option Nat) (H:Heap):zm8 ek .nils H=some []:=rfl
@[simp] theorem elemsH_sl (ek:Option Nat) (id ver off len:Nat) (H:Heap):zm8 ek (.sl id ver off len) H=match H[id]? with
 | some (.row _ _ ek' ver' xs)=>if ek'=ek∧ver=ver'∧off+len≤xs.length then some ((xs.drop off).take len) else none
 | _=>none:=rfl
end Go.Proofs.Lz
