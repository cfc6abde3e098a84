/- What simp is told of the evaluator. -/
import Derived.Test.YtclbpddolhgibaaGreatDoorLzCode06
namespace Go.Proofs.Lz
@[simp] theorem upd_at {α:Type} (f:Nat->α) (t:Nat) (v:α) (s:Nat):upd f t v s=if s=t then v else f s:=rfl
@[simp] theorem noAl_at (s:Nat):j8 s=none:=rfl
@[simp] theorem ev_region (E:Env) (c:j5) (it:Run->Run) (ops:List IOper) (fr:Fr) (H:q7) :
 evC E c it (.region ops) fr H=match K0 E c ops { fr with al:=j8 } H with
  | some (fr',H')=>some (.nrm,fr',H')
  | none=>none:=rfl
@[simp] theorem ev_regionD (E:Env) (c:j5) (it:Run->Run) (ops:List (Cls×IOper)) (fr:Fr) (H:q7) :
 evC E c it (.regionD ops) fr H=match E5 E c ops { fr with al:=j8 } H with
  | some (fr',H')=>some (.nrm,fr',H')
  | none=>none:=rfl
@[simp] theorem ev_seq (E:Env) (c:j5) (it:Run->Run) (a b:ICode) (fr:Fr) (H:q7) :
 evC E c it (.seq a b) fr H=match evC E c it a fr H with
  | some (.nrm,fr',H')=>evC E c it b fr' H'
  | r=>r:=rfl
@[simp] theorem ev_skip (E:Env) (c:j5) (it:Run->Run) (fr:Fr) (H:q7):evC E c it .skip fr H=some (.nrm,fr,H):=rfl
@[simp] theorem ev_exit (E:Env) (c:j5) (it:Run->Run) (i:Nat) (fr:Fr) (H:q7):evC E c it (.exit i) fr H=some (.exit i,fr,H):=rfl
@[simp] theorem ev_goto (E:Env) (c:j5) (it:Run->Run) (i:Nat) (fr:Fr) (H:q7):evC E c it (.goto i) fr H=some (.goto i,fr,H):=rfl
@[simp] theorem ev_ret (E:Env) (c:j5) (it:Run->Run) (fr:Fr) (H:q7):evC E c it .ret fr H=some (.ret,fr,H):=rfl
@[simp] theorem ev_label (E:Env) (c:j5) (it:Run->Run) (i:Nat) (fr:Fr) (H:q7):evC E c it (.label i) fr H=some (.nrm,fr,H):=rfl
@[simp] theorem ev_cond (E:Env) (c:j5) (it:Run->Run) (x:Opd) (a b:ICode) (fr:Fr) (H:q7) :
 evC E c it (.cond x a b) fr H=match fr.opd x with
  | .c (.bool t)=>if t=true then evC E c it a fr H else evC E c it b fr H
  | _=>none:=rfl
@[simp] theorem ev_block (E:Env) (c:j5) (it:Run->Run) (i:Nat) (a:ICode) (fr:Fr) (H:q7) :
 evC E c it (.block i a) fr H=match evC E c it a fr H with
  | some (.exit j,fr',H')=>if j=i then some (.nrm,fr',H') else some (.exit j,fr',H')
  | r=>r:=rfl
theorem ev_loop (E:Env) (c:j5) (it:Run->Run) (l:List Nat) (a:ICode) (fr:Fr) (H:q7) :
 evC E c it (.loop l a) fr H=it (fun fr H=>evC E c it a (keep l fr) H) fr H:=rfl
attribute [simp] J8 P1 s6 K0 stp a8 q9 E5 m6 A0 doD K9 C2 Fr.place Fr.put Fr.link Fr.opd binds s5 HV.flat CV.flat B7 S0 G2 b8 I0 L2 unC eqL B1 oneOf
attribute [simp] u7 I6 keep J9 zv1 jE ixH B2 X9 F8 l0 fits c7 X4 j0 P3 C7 s7 thaw c8 d4 y7 J3 C5 l5 S3 N5 isC s9 U6 H5 I7 D8 s8 Q3 noRef noRef.noRefL K3 V6 I0 H8 appH
@[simp] theorem elemsH_frz (ek:Option Nat) (xs:List CV) (H:q7):K4 ek (.c (.frz ek xs)) H=some xs:=by
 cases xs<;>simp [K4]
@[simp] theorem elemsH_frz0 (ek ek':Option Nat) (H:q7):K4 ek (.c (.frz ek' [])) H=some []:=rfl
@[simp] theorem elemsH_nils (ek:Option Nat) (H:q7):K4 ek .nils H=some []:=rfl
@[simp] theorem elemsH_sl (ek:Option Nat) (id ver off len:Nat) (H:q7):K4 ek (.sl id ver off len) H=match H[id]? with
 | some (.row _ _ ek' ver' xs)=>if ek'=ek/\ver=ver'/\off+len<=xs.length then some ((xs.drop off).take len) else none
 | _=>none:=rfl
end Go.Proofs.Lz
