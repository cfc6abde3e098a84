/- What simp is told of the evaluator. -/
import Derived.Test.YtencoceemejcnaaGreatDoorLzOm
namespace Go.Proofs.Lz
@[simp] theorem upd_at {α:Type} (f:Nat->α) (t:Nat) (v:α) (s:Nat):upd f t v s=if s=t then v else f s:=rfl
@[simp] theorem noAl_at (s:Nat):f0 s=none:=rfl
@[simp] theorem ev_region (E:Env) (c:f7) (it:Run->Run) (ops:List IOper) (fr:Fr) (H:j6) :
 evC E c it (.region ops) fr H=match C6 E c ops { fr with al:=f0 } H with
  | some (fr',H')=>some (.nrm,fr',H')
  | none=>none:=rfl
@[simp] theorem ev_regionD (E:Env) (c:f7) (it:Run->Run) (ops:List (Cls×IOper)) (fr:Fr) (H:j6) :
 evC E c it (.regionD ops) fr H=match X5 E c ops { fr with al:=f0 } H with
  | some (fr',H')=>some (.nrm,fr',H')
  | none=>none:=rfl
@[simp] theorem ev_seq (E:Env) (c:f7) (it:Run->Run) (a b:ICode) (fr:Fr) (H:j6) :
 evC E c it (.seq a b) fr H=match evC E c it a fr H with
  | some (.nrm,fr',H')=>evC E c it b fr' H'
  | r=>r:=rfl
@[simp] theorem ev_skip (E:Env) (c:f7) (it:Run->Run) (fr:Fr) (H:j6):evC E c it .skip fr H=some (.nrm,fr,H):=rfl
@[simp] theorem ev_exit (E:Env) (c:f7) (it:Run->Run) (i:Nat) (fr:Fr) (H:j6):evC E c it (.exit i) fr H=some (.exit i,fr,H):=rfl
@[simp] theorem ev_goto (E:Env) (c:f7) (it:Run->Run) (i:Nat) (fr:Fr) (H:j6):evC E c it (.goto i) fr H=some (.goto i,fr,H):=rfl
@[simp] theorem ev_ret (E:Env) (c:f7) (it:Run->Run) (fr:Fr) (H:j6):evC E c it .ret fr H=some (.ret,fr,H):=rfl
@[simp] theorem ev_label (E:Env) (c:f7) (it:Run->Run) (i:Nat) (fr:Fr) (H:j6):evC E c it (.label i) fr H=some (.nrm,fr,H):=rfl
@[simp] theorem ev_cond (E:Env) (c:f7) (it:Run->Run) (x:Opd) (a b:ICode) (fr:Fr) (H:j6) :
 evC E c it (.cond x a b) fr H=match fr.opd x with
  | .c (.bool t)=>if t=true then evC E c it a fr H else evC E c it b fr H
  | _=>none:=rfl
@[simp] theorem ev_block (E:Env) (c:f7) (it:Run->Run) (i:Nat) (a:ICode) (fr:Fr) (H:j6) :
 evC E c it (.block i a) fr H=match evC E c it a fr H with
  | some (.exit j,fr',H')=>if j=i then some (.nrm,fr',H') else some (.exit j,fr',H')
  | r=>r:=rfl
theorem ev_loop (E:Env) (c:f7) (it:Run->Run) (l:List Nat) (a:ICode) (fr:Fr) (H:j6) :
 evC E c it (.loop l a) fr H=it (fun fr H=>evC E c it a (keep l fr) H) fr H:=rfl
attribute [simp] qU zG B9 C6 stp i8 x4 X5 I3 M8 doD Z4 Q5 Fr.place Fr.put Fr.link Fr.opd binds o9 HV.flat CV.flat G2 gG P4 B7 T0 S5 unC eqL J3 oneOf
attribute [simp] F5 X0 keep qI qj4 gP ixH N8 xQ S2 H9 fits G4 xF g7 jH N9 J1 thaw F4 F6 D2 U5 O8 J0 jQ qD isC G6 wH P1 U0 W4 G5 Y7 noRef noRef.noRefL Z8 M3 T0 U9 appH
@[simp] theorem elemsH_frz (ek:Option Nat) (xs:List CV) (H:j6):S4 ek (.c (.frz ek xs)) H=some xs:=by
 cases xs<;>simp [S4]
@[simp] theorem elemsH_frz0 (ek ek':Option Nat) (H:j6):S4 ek (.c (.frz ek' [])) H=some []:=rfl
@[simp] theorem elemsH_nils (ek:Option Nat) (H:j6):S4 ek .nils H=some []:=rfl
@[simp] theorem elemsH_sl (ek:Option Nat) (id ver off len:Nat) (H:j6):S4 ek (.sl id ver off len) H=match H[id]? with
 | some (.row _ _ ek' ver' xs)=>if ek'=ek/\ver=ver'/\off+len<=xs.length then some ((xs.drop off).take len) else none
 | _=>none:=rfl
end Go.Proofs.Lz
