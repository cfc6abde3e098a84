/- What simp is told of the evaluator. -/
import Derived.Test.YtlimfobeoodkjaaGreatDoorLzCode12
namespace Go.Proofs.Lz
@[simp] theorem upd_at {α:Type} (f:Nat->α) (t:Nat) (v:α) (s:Nat):upd f t v s=if s=t then v else f s:=rfl
@[simp] theorem noAl_at (s:Nat):x6 s=none:=rfl
@[simp] theorem ev_region (E:Env) (c:j8) (it:Run->Run) (ops:List IOper) (fr:Fr) (H:q7) :
 evC E c it (.region ops) fr H=match K0 E c ops { fr with al:=x6 } H with
  | some (fr',H')=>some (.nrm,fr',H')
  | none=>none:=rfl
@[simp] theorem ev_regionD (E:Env) (c:j8) (it:Run->Run) (ops:List (Cls×IOper)) (fr:Fr) (H:q7) :
 evC E c it (.regionD ops) fr H=match E7 E c ops { fr with al:=x6 } H with
  | some (fr',H')=>some (.nrm,fr',H')
  | none=>none:=rfl
@[simp] theorem ev_seq (E:Env) (c:j8) (it:Run->Run) (a b:ICode) (fr:Fr) (H:q7) :
 evC E c it (.seq a b) fr H=match evC E c it a fr H with
  | some (.nrm,fr',H')=>evC E c it b fr' H'
  | r=>r:=rfl
@[simp] theorem ev_skip (E:Env) (c:j8) (it:Run->Run) (fr:Fr) (H:q7):evC E c it .skip fr H=some (.nrm,fr,H):=rfl
@[simp] theorem ev_exit (E:Env) (c:j8) (it:Run->Run) (i:Nat) (fr:Fr) (H:q7):evC E c it (.exit i) fr H=some (.exit i,fr,H):=rfl
@[simp] theorem ev_goto (E:Env) (c:j8) (it:Run->Run) (i:Nat) (fr:Fr) (H:q7):evC E c it (.goto i) fr H=some (.goto i,fr,H):=rfl
@[simp] theorem ev_ret (E:Env) (c:j8) (it:Run->Run) (fr:Fr) (H:q7):evC E c it .ret fr H=some (.ret,fr,H):=rfl
@[simp] theorem ev_label (E:Env) (c:j8) (it:Run->Run) (i:Nat) (fr:Fr) (H:q7):evC E c it (.label i) fr H=some (.nrm,fr,H):=rfl
@[simp] theorem ev_cond (E:Env) (c:j8) (it:Run->Run) (x:Opd) (a b:ICode) (fr:Fr) (H:q7) :
 evC E c it (.cond x a b) fr H=match fr.opd x with
  | .c (.bool t)=>if t=true then evC E c it a fr H else evC E c it b fr H
  | _=>none:=rfl
@[simp] theorem ev_block (E:Env) (c:j8) (it:Run->Run) (i:Nat) (a:ICode) (fr:Fr) (H:q7) :
 evC E c it (.block i a) fr H=match evC E c it a fr H with
  | some (.exit j,fr',H')=>if j=i then some (.nrm,fr',H') else some (.exit j,fr',H')
  | r=>r:=rfl
theorem ev_loop (E:Env) (c:j8) (it:Run->Run) (l:List Nat) (a:ICode) (fr:Fr) (H:q7) :
 evC E c it (.loop l a) fr H=it (fun fr H=>evC E c it a (keep l fr) H) fr H:=rfl
attribute [simp] J7 N6 r7 K0 stp f8 q9 E7 c7 B2 doD M8 C9 Fr.place Fr.put Fr.link Fr.opd binds t8 HV.flat CV.flat D1 R7 I9 m9 I7 K5 unC eqL B8 oneOf
attribute [simp] d6 I1 keep K8 z24 jC ixH C0 Z1 F4 f0 fits s5 Y2 j0 P4 C5 A2 thaw t6 m8 u7 H9 C4 a8 R2 O6 isC l0 V1 G9 I3 E3 l7 P1 noRef noRef.noRefL J5 V8 I7 I0 appH
@[simp] theorem elemsH_frz (ek:Option Nat) (xs:List CV) (H:q7):J8 ek (.c (.frz ek xs)) H=some xs:=by
 cases xs<;>simp [J8]
@[simp] theorem elemsH_frz0 (ek ek':Option Nat) (H:q7):J8 ek (.c (.frz ek' [])) H=some []:=rfl
@[simp] theorem elemsH_nils (ek:Option Nat) (H:q7):J8 ek .nils H=some []:=rfl
@[simp] theorem elemsH_sl (ek:Option Nat) (id ver off len:Nat) (H:q7):J8 ek (.sl id ver off len) H=match H[id]? with
 | some (.row _ _ ek' ver' xs)=>if ek'=ek/\ver=ver'/\off+len<=xs.length then some ((xs.drop off).take len) else none
 | _=>none:=rfl
end Go.Proofs.Lz
