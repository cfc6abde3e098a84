/- The evaluator: values, the small code, and what it computes. Nothing of the model is changed; this text only defines. -/
import GoSem.Step
namespace Go.Proofs.Lz
theorem gEs {α:Type} {l:List α} {i:Nat} {a:α} (h:l[i]?=some a):∃ h:i<l.length,l[i]=a:=List.getElem?_eq_some_iff.1 h
theorem gEg {α:Type} {l:List α} {i:Nat} (h:i<l.length):l[i]?=some l[i]:=List.getElem?_eq_getElem h
inductive CV where
 | bool (b:Bool)
 | int (k:IntKind) (n:Int)
 | str (s:List UInt8)
 | agg (cs:List CV)
 | frz (ek:Option Nat) (xs:List CV)
 | fptr (ek:Option Nat) (x:CV) (off:Nat)
 | fn (f:Nat) (first cap:List CV)
 | iface (t:Nat) (v:CV)
 | nili
 | nilp
 | nilfn
 | opq
 | nilm
 | nes
 | nln
 deriving Inhabited
def CV.flat:CV->List CV
 | .agg cs=>cs
 | v=>[v]
inductive HV where
 | c (v:CV)
 | agg (cs:List HV)
 | tup (vs:List HV)
 | nils
 | sl (id ver off len:Nat)
 | ptr (id off:Nat)
 | eptr (id ver i off:Nat)
 | lbox (ek:Option Nat) (v:HV)
 | fn (f:Nat) (first cap:List HV)
 | iface (t:Nat) (v:HV)
 | mapr (id:Nat)
 | skipv
 | undef
 deriving Inhabited
def HV.flat:HV->List HV
 | .agg cs=>cs
 | .c (.agg l)=>l.map .c
 | v=>[v]
def J7:HV->Option (List HV)
 | .agg cs=>some cs
 | .c (.agg l)=>some (l.map .c)
 | _=>none
def d6:List HV->Option (List CV)
 | []=>some []
 | .c v::r=>match d6 r with
   | some l=>some (v::l)
   | none=>none
 | _::_=>none
def I1 (cs:List HV):HV:=
 match d6 cs with
 | some l=>.c (.agg l)
 | none=>.agg cs
inductive HO where
 | var (ek:Option Nat) (cs:List HV)
 | row (fz:Bool) (e:Nat) (ek:Option Nat) (ver:Nat) (xs:List CV)
 | mp (es:List (CV×HV×Nat)) (clock:Nat)
 deriving Inhabited
abbrev q7:=List HO
def j0:Option Nat->Nat
 | none=>1
 | some n=>n
structure Fr where
 env:Nat->HV
 al:Nat->Option (Nat×Nat)
def upd {α:Type} (f:Nat->α) (t:Nat) (v:α):Nat->α:=fun s=>if s=t then v else f s
def x6:Nat->Option (Nat×Nat):=fun _=>none
def unlink (d:Nat) (al:Nat->Option (Nat×Nat)):Nat->Option (Nat×Nat):=fun t=>if t=d then none else match al t with
 | some (b,off)=>if b=d then none else some (b,off)
 | none=>none
def t8:List (Nat×HV)->Nat->HV
 | [],_=>.undef
 | (t,v)::r,s=>if s=t then v else t8 r s
def keep (live:List Nat) (fr:Fr):Fr:={ env:=t8 (live.map fun s=>(s,fr.env s)),al:=x6 }
inductive Opd where
 | t (i:Nat)
 | k (v:HV)
def r7:HV->HV
 | .lbox _ _=>.undef
 | v=>v
def Fr.opd (fr:Fr):Opd->HV
 | .t i=>r7 (fr.env i)
 | .k v=>v
inductive IOp where
 | mv (x:Opd)
 | un (op:UnOp) (x:Opd)
 | bin (op:BinOp) (x y:Opd)
 | eqs (neg:Bool) (ks:List Nat) (x y:Opd)
 | eqb (neg:Bool) (x y:Opd)
 | pick (c a b:Opd)
 | load (ek:Option Nat) (a:Opd)
 | store (ek:Option Nat) (a x:Opd)
 | faddr (off:Nat) (a:Opd)
 | nck (a:Opd)
 | fld (ek:Option Nat) (off:Nat) (x:Opd)
 | ix (ek:Option Nat) (x i:Opd)
 | six (x i:Opd)
 | aix (ek:Option Nat) (n:Nat) (x i:Opd)
 | slc (st:Bool) (ek:Option Nat) (x:Opd) (lo hi:Option Opd)
 | len (st:Bool) (x:Opd)
 | app (e:Nat) (ek:Option Nat) (bytes:Nat) (s x:Opd)
 | build (zero:List HV) (parts:List (Nat×Nat×Opd))
 | bsl (fz:Bool) (e:Nat) (ek:Option Nat) (zero:List CV) (len:Nat) (parts:List (Nat×Opd))
 | lbox (ek:Option Nat) (x:Opd)
 | hbox (ek:Option Nat) (x:Opd)
 | fbox (ek:Option Nat) (x:Opd)
 | b2s (x:Opd)
 | cvs (x:Opd)
 | call (f:Nat) (args:List Opd)
 | callv (x:Opd) (args:List Opd)
 | mkf (f:Nat) (first cap:List Opd)
 | ext (x:Opd) (i:Nat)
 | cvt (k:IntKind) (x:Opd)
 | isn (neg:Bool) (k:Nat) (x:Opd)
 | tyck (T n:Nat) (x:Opd)
 | peq (x y:Opd)
 | rowck (e:Nat) (x:Opd)
 | mx (isMax:Bool) (x y:Opd)
 | mkm
 | mget (kd:Nat) (ok:Bool) (zero:HV) (x k:Opd)
 | mset (kd:Nat) (x k v:Opd)
 | ment (kd:Nat) (zero:HV) (x k:Opd)
 | msto (x s v:Opd)
 | mlen (x:Opd)
 | mxs (isMax:Bool) (x:Opd) (ys:List Opd)
structure IOper where
 dst:Option Nat
 guard:Option (Nat×Bool)
 op:IOp
inductive Cls where
 | pure
 | rdb (b:Nat)
 | wrb (b:Nat)
 | rd
 | wr
 | hb
 | lb
 | rdw
 deriving DecidableEq
inductive ICode where
 | skip
 | stuck
 | region (ops:List IOper)
 | regionD (ops:List (Cls×IOper))
 | regionW (bs:List (List (Cls×IOper)))
 | seq (a b:ICode)
 | cond (c:Opd) (thn els:ICode)
 | block (id:Nat) (body:ICode)
 | loop (live:List Nat) (body:ICode)
 | exit (id:Nat)
 | scope (l:Nat) (live:List Nat) (body rest:ICode)
 | label (l:Nat)
 | keep (live:List Nat)
 | goto (l:Nat)
 | ret
inductive IRes where
 | tmp (t:Nat)
 | cell (a:Nat) (ek:Option Nat)
structure IFn where
 body:ICode
 res:List IRes
inductive Md where
 | P
 | S
 deriving DecidableEq
structure Env where
 fn:Nat->Option IFn
 md:Nat->Md
 ext:Nat->Option (List CV->Option (List CV)):=fun _=>none
 ar:Nat->Option Nat:=fun _=>none
def Z2 (a:Option Nat) (n:Nat) (o:Option IFn):Option IFn:=match a with
 | none=>o
 | some k=>if k=n then o else none
theorem zv1 {a:Option Nat} {n:Nat} {o:Option IFn} {g:IFn} (h:Z2 a n o=some g):o=some g/\∀ k,a=some k->n=k:=by
 unfold Z2 at h;split at h
 . exact ⟨h,fun k hk=>by cases hk⟩
 . rename_i k;split at h
   . rename_i hk;exact ⟨h,fun j hj=>by injection hj with hj;omega⟩
   . cases h
abbrev Env.fnA (E:Env) (f n:Nat):Option IFn:=Z2 (E.ar f) n (E.fn f)
def eqL:List Nat->List CV->List CV->Option Bool
 | [],[],[]=>some true
 | 0::ks,.bool a::r,.bool b::s=>match eqL ks r s with
   | some x=>some (a==b&&x)
   | none=>none
 | 1::ks,.int k a::r,.int k' b::s=>if k=k' then match eqL ks r s with
    | some x=>some (a==b&&x)
    | none=>none
   else none
 | 2::ks,.str a::r,.str b::s=>match eqL ks r s with
   | some x=>some (a==b&&x)
   | none=>none
 | _,_,_=>none
def K5 (op:BinOp) (x y:CV):Option CV:=
 match x,y with
 | .int k a,.int k' b=>
   match op with
   | .add=>if k=k' then some (.int k (k.wrap (a+b))) else none
   | .sub=>if k=k' then some (.int k (k.wrap (a - b))) else none
   | .mul=>if k=k' then some (.int k (k.wrap (a * b))) else none
   | .quo=>if k=k'/\b≠0 then some (.int k (k.wrap (a.tdiv b))) else none
   | .rem=>if k=k'/\b≠0 then some (.int k (a.tmod b)) else none
   | .eql=>if k=k' then some (.bool (a==b)) else none
   | .neq=>if k=k' then some (.bool (a != b)) else none
   | .lss=>if k=k' then some (.bool (decide (a<b))) else none
   | .leq=>if k=k' then some (.bool (decide (a<=b))) else none
   | .gtr=>if k=k' then some (.bool (decide (b<a))) else none
   | .geq=>if k=k' then some (.bool (decide (b<=a))) else none
   | .and=>if k=k' then some (.int k (k.wrap (BitVec.ofInt k.bits a &&& BitVec.ofInt k.bits b).toNat)) else none
   | .or=>if k=k' then some (.int k (k.wrap (BitVec.ofInt k.bits a ||| BitVec.ofInt k.bits b).toNat)) else none
   | .xor=>if k=k' then some (.int k (k.wrap (BitVec.ofInt k.bits a ^^^ BitVec.ofInt k.bits b).toNat)) else none
   | .andNot=>if k=k' then some (.int k (k.wrap (BitVec.ofInt k.bits a &&& ~~~(BitVec.ofInt k.bits b)).toNat)) else none
   | .shl=>if 0<=b then some (.int k (k.wrap (a * 2 ^ (min b.toNat k.bits)))) else none
   | .shr=>if 0<=b then some (.int k (a.fdiv (2 ^ (min b.toNat k.bits)))) else none
 | .str a,.str b=>
   match op with
   | .add=>if a.length+b.length<=9223372036854775807 then some (.str (a++b)) else none
   | .eql=>some (.bool (a==b))
   | .neq=>some (.bool (!(a==b)))
   | .lss=>some (.bool (Op.bytesLess a b))
   | .leq=>some (.bool (Op.bytesLess a b||a==b))
   | .gtr=>some (.bool (!(Op.bytesLess a b||a==b)))
   | .geq=>some (.bool (!(Op.bytesLess a b)))
   | _=>none
 | _,_=>none
def unC (op:UnOp) (x:CV):Option CV:=
 match op,x with
 | .not,.bool b=>some (.bool (!b))
 | .neg,.int k n=>some (.int k (k.wrap (0 - n)))
 | _,_=>none
def D1 (ek:Option Nat) (cs:List HV) (off:Nat):Option HV:=
 match ek with
 | none=>cs[off]?
 | some n=>if off+n<=cs.length then some (I1 ((cs.drop off).take n)) else none
def R7 (ek:Option Nat) (cs:List CV) (off:Nat):Option CV:=
 match ek with
 | none=>cs[off]?
 | some n=>if off+n<=cs.length then some (.agg ((cs.drop off).take n)) else none
def I9 (ek' ek:Option Nat) (x:CV) (off:Nat):Option CV:=
 if off=0/\ek'=ek then some x else R7 ek x.flat off
def f0 (cs:List HV) (off:Nat) (new:List HV):List HV:=cs.take off++new++cs.drop (off+new.length)
def qB (cs:List CV) (off:Nat) (new:List CV):List CV:=cs.take off++new++cs.drop (off+new.length)
def fits:Option Nat->CV->Bool
 | none,.agg _=>false
 | none,_=>true
 | some n,.agg cs=>cs.length==n
 | some _,_=>false
def s5:Option Nat->HV->Bool
 | ek,.c v=>fits ek v
 | some n,.agg cs=>cs.length==n
 | none,.nils=>true
 | none,.sl _ _ _ _=>true
 | none,.ptr _ _=>true
 | none,.eptr _ _ _ _=>true
 | none,.fn _ _ _=>true
 | none,.iface _ _=>true
 | none,.mapr _=>true
 | _,_=>false
def A2 (ek:Option Nat) (cs:List CV):Option CV:=match ek with
 | none=>cs[0]?
 | some _=>some (.agg cs)
def V1 (ek:Option Nat) (cs:List HV):Option HV:=match ek with
 | none=>cs[0]?
 | some _=>some (I1 cs)
def t6 (H:q7):HV->Option CV
 | .c v=>some v
 | .nils=>some (.frz none [])
 | .sl id ver off len=>match H[id]? with
   | some (.row _ _ ek ver' xs)=>if ver=ver'/\off+len<=xs.length then some (.frz ek ((xs.drop off).take len)) else none
   | _=>none
 | _=>none
def m8 (H:q7):List HV->Option (List CV)
 | []=>some []
 | x::r=>match t6 H x,m8 H r with
   | some a,some b=>some (a::b)
   | _,_=>none
def u7 (H:q7):HV->Option CV
 | .agg cs=>match m8 H cs with
   | some l=>some (.agg l)
   | none=>none
 | .iface t (.agg cs)=>match m8 H cs with
   | some l=>some (.iface t (.agg l))
   | none=>none
 | .iface t v=>match t6 H v with
   | some x=>some (.iface t x)
   | none=>none
 | v=>t6 H v
def H9 (H:q7):HV->Option CV
 | .ptr id off=>match H[id]? with
   | some (.var ek cs)=>match m8 H cs with
     | some l=>if l.length=j0 ek then match A2 ek l with
       | some x=>some (.fptr ek x off)
       | none=>none
       else none
     | none=>none
   | _=>none
 | v=>u7 H v
def C4 (H:q7):List HV->Option (List CV)
 | []=>some []
 | x::r=>match H9 H x,C4 H r with
   | some a,some b=>some (a::b)
   | _,_=>none
def thaw (H:q7):HV->Option CV
 | .fn f first cap=>match C4 H first,C4 H cap with
   | some a,some b=>some (.fn f a b)
   | _,_=>none
 | v=>H9 H v
def P1 (id:Nat) (H:q7):q7:=match H[id]? with
 | some (.row _ e ek ver xs)=>H.set id (.row true e ek ver xs)
 | _=>H
def l7:List HV->q7->q7
 | [],H=>H
 | .sl id _ _ _::r,H=>l7 r (P1 id H)
 | _::r,H=>l7 r H
def I3 (v:HV) (H:q7):q7:=match v with
 | .agg cs=>l7 cs H
 | .iface _ (.agg cs)=>l7 cs H
 | .iface _ v=>l7 [v] H
 | v=>l7 [v] H
def E3:List HV->q7->q7
 | [],H=>H
 | v::r,H=>E3 r (I3 v H)
def G9 (v:HV) (H:q7):Option (CV×q7):=match v with
 | .c u=>some (u,H)
 | v=>match u7 H v with
   | some u=>some (u,I3 v H)
   | none=>none
def J5:CV->Bool
 | .bool _ | .int _ _ | .str _=>true
 | _=>false
def noRef:HV->Bool
 | .c (.agg l)=>l.all J5
 | .c v=>J5 v
 | .tup vs=>noRefL vs
 | _=>false
where noRefL:List HV->Bool
 | []=>true
 | .c (.agg l)::r=>l.all J5&&noRefL r
 | .c v::r=>J5 v&&noRefL r
 | _::_=>false
def isC:HV->Bool
 | .c _=>true
 | .nils=>true
 | _=>false
def zZ:HV->Bool
 | .agg cs=>cs.all isC
 | v=>isC v
def a8 (H:q7):List HV->Option (List HV)
 | []=>some []
 | x::r=>match thaw H x,a8 H r with
   | some a,some b=>some (.c a::b)
   | _,_=>none
def R2 (H:q7):List HV->Option (List HV)
 | []=>some []
 | x::r=>match u7 H x,R2 H r with
   | some a,some b=>some (.c a::b)
   | _,_=>none
def O6 (H:q7):HV->Option HV
 | .tup vs=>(R2 H vs).map .tup
 | v=>(u7 H v).map .c
def M6:HV->Bool
 | .fn _ _ _=>false
 | .ptr _ _=>false
 | _=>true
abbrev j8:=Nat->List HV->q7->Option (HV×q7)
def l0 (E:Env) (e:j8) (f:Nat) (args:List HV) (H:q7):Option (HV×q7):=
 match E.md f with
 | .S=>e f args H
 | .P=>match a8 H args with
   | none=>none
   | some a5=>match e f a5 [] with
     | none=>none
     | some (r,H')=>match O6 H' r with
       | none=>none
       | some r'=>if args.all isC||noRef r' then some (r',H) else if args.all M6 then some (r',E3 args H) else none
def Fr.put (fr:Fr) (dst:Option Nat) (v:HV):Fr:=
 match dst with
 | none=>fr
 | some d=>{ env:=upd fr.env d v,al:=upd fr.al d none }
def Fr.link (fr:Fr) (dst:Option Nat) (b off:Nat):Fr:=
 match dst with
 | none=>fr
 | some d=>{ env:=upd fr.env d .undef,al:=upd fr.al d (some (b,off)) }
def N6 (dst:Option Nat) (b off:Nat) (fr:Fr) (H:q7):Option (Fr×q7):=if dst=some b then none else some (fr.link dst b off,H)
def Fr.place (fr:Fr) (x:Opd):Option (Nat×Nat):=
 match x with
 | .k _=>none
 | .t i=>match fr.al i with
   | some (b,off)=>match fr.env b with
     | .lbox _ _=>some (b,off)
     | _=>none
   | none=>match fr.env i with
     | .lbox _ _=>some (i,0)
     | _=>none
def K8:HV->Option Int
 | .c (.int _ n)=>some n
 | _=>none
def z24:HV->Option Bool
 | .c (.bool b)=>some b
 | _=>none
def jC (st:Bool):HV->Option Nat
 | .c (.str s)=>if st then some s.length else none
 | .c (.frz _ xs)=>if st then none else some xs.length
 | .nils=>if st then none else some 0
 | .sl _ _ _ n=>if st then none else some n
 | _=>none
def ixH (ek:Option Nat) (x:HV) (i:Int) (H:q7):Option HV:=
 match x with
 | .c (.frz ek' xs)=>if ek'=ek/\0<=i then match xs[i.toNat]? with
    | some v=>some (.c (.fptr ek v 0))
    | none=>none
   else none
 | .sl id ver off len=>match H[id]? with
   | some (.row _ _ ek' ver' _)=>if ek'=ek/\ver'=ver/\0<=i/\i<len then some (.eptr id ver (off+i.toNat) 0) else none
   | _=>none
 | _=>none
def m9 (ek:Option Nat) (p:HV) (H:q7):Option HV:=
 match p with
 | .c (.fptr ek' x off)=>(I9 ek' ek x off).map .c
 | .ptr id off=>match H[id]? with
   | some (.var _ cs)=>D1 ek cs off
   | _=>none
 | .eptr id ver i off=>match H[id]? with
   | some (.row _ _ ek' ver' xs)=>if ver'=ver then match xs[i]? with
      | some x=>(I9 ek' ek x off).map .c
      | none=>none
     else none
   | _=>none
 | _=>none
def I7 (ek:Option Nat) (p:HV) (v:HV) (H:q7):Option q7:=
 match p with
 | .ptr id off=>match H[id]? with
   | some (.var ek' cs)=>if s5 ek v=true/\off+v.flat.length<=cs.length then some (H.set id (.var ek' (f0 cs off v.flat))) else none
   | _=>none
 | .eptr id ver i off=>match G9 v H with
   | some (u,H')=>match H'[id]? with
     | some (.row false e ek' ver' xs)=>if ver'=ver/\fits ek u=true then match xs[i]? with
        | some x=>
          if off=0/\ek'=ek then some (H'.set id (.row false e ek' ver (xs.set i u)))
          else if off+u.flat.length<=x.flat.length then
           match A2 ek' (qB x.flat off u.flat) with
           | some x'=>if fits ek' x'=true then some (H'.set id (.row false e ek' ver (xs.set i x'))) else none
           | none=>none
          else none
        | none=>none
       else none
     | _=>none
   | none=>none
 | _=>none
def I0 (st:Bool) (ek:Option Nat) (x:HV) (lo hi:Option Int) (H:q7):Option HV:=
 match x with
 | .c (.str s)=>
   let l:=lo.getD 0
   let h:=hi.getD s.length
   if st=true/\0<=l/\l<=h/\h<=s.length then some (.c (.str ((s.drop l.toNat).take (h.toNat - l.toNat)))) else none
 | .c (.frz ek' xs)=>
   let l:=lo.getD 0
   let h:=hi.getD xs.length
   if st=false/\(ek'=ek\/xs=[])/\0<=l/\l<=h/\h<=xs.length then some (.c (.frz ek' ((xs.drop l.toNat).take (h.toNat - l.toNat)))) else none
 | .nils=>
   let l:=lo.getD 0
   let h:=hi.getD 0
   if st=false/\0<=l/\l<=h/\h<=0 then some .nils else none
 | .sl id ver off n=>match H[id]? with
   | some (.row _ _ ek' ver' _)=>if ver'=ver/\ek'=ek then
     let l:=lo.getD 0
     let h:=hi.getD n
     if st=false/\0<=l/\l<=h/\h<=n then some (.sl id ver (off+l.toNat) (h.toNat - l.toNat)) else none
     else none
   | _=>none
 | _=>none
def J8 (ek:Option Nat) (x:HV) (H:q7):Option (List CV):=
 match x with
 | .nils=>some []
 | .c (.frz _ [])=>some []
 | .c .nes=>some []
 | .c (.frz ek' xs)=>if ek'=ek then some xs else none
 | .sl id ver off len=>match H[id]? with
   | some (.row _ _ ek' ver' xs)=>if ek'=ek/\ver=ver'/\off+len<=xs.length then some ((xs.drop off).take len) else none
   | _=>none
 | _=>none
def lim:Nat:=140737488355328
def Z4:Nat:=1048576
def rJ (n T:Nat):Option Nat:=some (n+Z4 * (T+1))
def R1:Option Nat->Option Nat
 | some n=>if Z4<=n then some (n / Z4 - 1) else none
 | none=>none
def ekB:Option Nat->Option Nat
 | some n=>some (n % Z4)
 | none=>none
def kF (k:Nat):CV->Option Bool
 | .nilp=>if k=0 then some true else none
 | .fptr _ _ _=>if k=0 then some false else none
 | .nili=>if k=1 then some true else none
 | .iface _ _=>if k=1 then some false else none
 | .opq=>if k=1 then some false else none
 | .nilfn=>if k=2 then some true else none
 | .fn _ _ _=>if k=2 then some false else none
 | .frz _ (_::_)=>if k=3 then some false else none
 | .nes=>if k=3 then some false else none
 | .nln=>if k=3 then some true else none
 | .nilm=>if k=4 then some true else none
 | _=>none
def yK (k:Nat):HV->Option Bool
 | .c v=>kF k v
 | .ptr _ _=>if k=0 then some false else none
 | .eptr _ _ _ _=>if k=0 then some false else none
 | .iface _ _=>if k=1 then some false else none
 | .fn _ _ _=>if k=2 then some false else none
 | .nils=>if k=3 then some true else none
 | .sl _ _ _ _=>if k=3 then some false else none
 | .mapr _=>if k=4 then some false else none
 | _=>none
def bE:List CV->Bool
 | []=>true
 | .int .u8 n::r=>decide (0<=n/\n<256)&&bE r
 | _=>false
def bytesV (s:List UInt8):List CV:=s.map fun b=>.int .u8 b.toNat
def zH (ek:Option Nat) (x:HV) (H:q7):Option (List CV):=match x with
 | .c (.str s)=>if ek=none then some (bytesV s) else none
 | x=>J8 ek x H
def appH (e:Nat) (ek:Option Nat) (bytes:Nat) (s x:HV) (H:q7):Option (HV×q7):=
 match zH ek x H with
 | none=>none
 | some new=>match s with
   | .nils=>if new=[] then some (.nils,H) else if new.length * bytes<=lim/\new.length<=lim then some (.sl H.length 0 0 new.length,H++[.row false e ek 0 new]) else none
   | .sl id ver 0 n=>match H[id]? with
     | some (.row false e' ek' ver' xs)=>
       if e'=e/\ek'=ek/\ver'=ver/\n<=xs.length/\(n+new.length) * bytes<=lim/\n+new.length<=lim then
        some (.sl id (ver+1) 0 (n+new.length),H.set id (.row false e ek (ver+1) (xs.take n++new)))
       else none
     | _=>none
   | _=>none
def Y2 (n:Nat) (v:HV):Bool:=s5 (some n) v||(n==1&&s5 none v)
def P4 (cs:List HV):List (Nat×Nat×HV)->Option (List HV)
 | []=>some cs
 | (off,n,v)::r=>if Y2 n v=true/\off+n<=cs.length then P4 (f0 cs off v.flat) r else none
def C5 (ek:Option Nat) (xs:List CV) (H:q7):List (Nat×HV)->Option (List CV×q7)
 | []=>some (xs,H)
 | (i,v)::r=>match G9 v H with
   | some (u,H')=>if i<xs.length/\fits ek u=true then C5 ek (xs.set i u) H' r else none
   | none=>none
def V8:List CV->Option (List UInt8)
 | []=>some []
 | .int .u8 n::r=>match V8 r with
   | some l=>some (UInt8.ofNat n.toNat::l)
   | none=>none
 | _=>none
def C0 (fr:Fr):Option Opd->Option (Option Int)
 | none=>some none
 | some x=>match K8 (fr.opd x) with
   | some i=>some (some i)
   | none=>none
def uA:Nat->CV->CV->Option Bool
 | 0,.bool a,.bool b=>some (a==b)
 | 1,.int k a,.int k' b=>if k=k' then some (a==b) else none
 | 2,.str a,.str b=>some (a==b)
 | _,_,_=>none
def J9 (kd:Nat) (k:CV):List (CV×HV×Nat)->Nat->Option (Option (Nat×HV×Nat))
 | [],_=>some none
 | (k',x,b)::r,i=>match uA kd k k' with
   | some true=>some (some (i,x,b))
   | some false=>J9 kd k r (i+1)
   | none=>none
def X3 (n:Int):List (CV×HV×Nat)->Nat->Option (Nat×CV×Nat)
 | [],_=>none
 | (k,_,b)::r,i=>if (b:Int)=n then some (i,k,b) else X3 n r (i+1)
def N4:HV->q7->Option (List (CV×HV×Nat))
 | .c .nilm,_=>some []
 | .mapr id,H=>match H[id]? with
   | some (.mp es _)=>some es
   | _=>none
 | _,_=>none
def mxL (isMax:Bool):Int->List HV->Option Int
 | a,[]=>some a
 | a,.c (.int _ b)::r=>mxL isMax (if isMax then max a b else min a b) r
 | _,_=>none
def q9 (o:IOp) (dst:Option Nat) (fr:Fr) (H:q7):Option (Fr×q7):=
 match o with
 | .mv x=>match fr.place x with
   | some (b,off)=>N6 dst b off fr H
   | none=>some (fr.put dst (fr.opd x),H)
 | .un op x=>match fr.opd x with
   | .c a=>match unC op a with
     | some v=>some (fr.put dst (.c v),H)
     | none=>none
   | _=>none
 | .bin op x y=>match fr.opd x,fr.opd y with
   | .c a,.c b=>match K5 op a b with
     | some v=>some (fr.put dst (.c v),H)
     | none=>none
   | _,_=>none
 | .eqs neg ks x y=>match fr.opd x,fr.opd y with
   | .c (.agg a),.c (.agg b)=>match eqL ks a b with
     | some v=>some (fr.put dst (.c (.bool (if neg then !v else v))),H)
     | none=>none
   | _,_=>none
 | .eqb neg x y=>match fr.opd x,fr.opd y with
   | .c (.bool a),.c (.bool b)=>some (fr.put dst (.c (.bool (if neg then !(a==b) else a==b))),H)
   | _,_=>none
 | .pick c a b=>match fr.opd c with
   | .c (.bool t)=>some (fr.put dst (if t then fr.opd a else fr.opd b),H)
   | _=>none
 | .load ek a=>match fr.place a with
   | some (b,off)=>match fr.env b with
     | .lbox ek' x=>match (if off=0/\ek'=ek then some x else D1 ek x.flat off) with
       | some v=>some (fr.put dst v,H)
       | none=>none
     | _=>none
   | none=>match m9 ek (fr.opd a) H with
     | some v=>some (fr.put dst v,H)
     | none=>none
 | .store ek a x=>match fr.place a with
   | some (b,off)=>match fr.env b with
     | .lbox ek' x0=>
       let v:=fr.opd x
       if s5 ek v=true then
        if off=0/\ek'=ek then some ({ fr with env:=upd fr.env b (.lbox ek' v) },H)
        else if off+v.flat.length<=x0.flat.length then
         match V1 ek' (f0 x0.flat off v.flat) with
         | some x'=>if s5 ek' x'=true then some ({ fr with env:=upd fr.env b (.lbox ek' x') },H) else none
         | none=>none
        else none
       else none
     | _=>none
   | none=>match I7 ek (fr.opd a) (fr.opd x) H with
     | some H'=>some (fr,H')
     | none=>none
 | .faddr n a=>match fr.place a with
   | some (b,off)=>N6 dst b (off+n) fr H
   | none=>match fr.opd a with
     | .ptr id off=>some (fr.put dst (.ptr id (off+n)),H)
     | .eptr id ver i off=>some (fr.put dst (.eptr id ver i (off+n)),H)
     | .c (.fptr ek x off)=>some (fr.put dst (.c (.fptr ek x (off+n))),H)
     | _=>none
 | .nck a=>match fr.place a with
   | some (b,off)=>N6 dst b off fr H
   | none=>match fr.opd a with
     | .ptr id off=>some (fr.put dst (.ptr id off),H)
     | .eptr id ver i off=>some (fr.put dst (.eptr id ver i off),H)
     | .c (.fptr ek x off)=>some (fr.put dst (.c (.fptr ek x off)),H)
     | _=>none
 | .fld ek off x=>match J7 (fr.opd x) with
   | some cs=>match D1 ek cs off with
     | some v=>some (fr.put dst v,H)
     | none=>none
   | none=>none
 | .cvs x=>match fr.opd x with
   | .c (.str s)=>some (fr.put dst (.c (.str s)),H)
   | _=>none
 | .ix ek x i=>match K8 (fr.opd i) with
   | some n=>match ixH ek (fr.opd x) n H with
     | some v=>some (fr.put dst v,H)
     | none=>none
   | none=>none
 | .six x i=>match fr.opd x,K8 (fr.opd i) with
   | .c (.str s),some n=>if 0<=n then match s[n.toNat]? with
      | some b=>some (fr.put dst (.c (.int .u8 b.toNat)),H)
      | none=>none
     else none
   | _,_=>none
 | .aix ek n x i=>match J7 (fr.opd x),K8 (fr.opd i) with
   | some cs,some j=>if 0<=j/\j<n then match D1 ek cs (j.toNat * j0 ek) with
      | some v=>some (fr.put dst v,H)
      | none=>none
     else none
   | _,_=>none
 | .slc st ek x lo hi=>match C0 fr lo,C0 fr hi with
   | some l,some h=>match I0 st ek (fr.opd x) l h H with
     | some v=>some (fr.put dst v,H)
     | none=>none
   | _,_=>none
 | .len st x=>match jC st (fr.opd x) with
   | some n=>some (fr.put dst (.c (.int .i64 n)),H)
   | none=>none
 | .app e ek bytes s x=>match appH e ek bytes (fr.opd s) (fr.opd x) H with
   | some (v,H')=>some (fr.put dst v,H')
   | none=>none
 | .build zero parts=>match P4 zero (parts.map fun p=>(p.1,p.2.1,fr.opd p.2.2)) with
   | some cs=>some (fr.put dst (I1 cs),H)
   | none=>none
 | .bsl fz e ek zero n parts=>match A2 ek zero with
   | some z=>if fits ek z=true then match C5 ek (List.replicate n z) H (parts.map fun p=>(p.1,fr.opd p.2)) with
     | some (xs,H')=>if fz then some (fr.put dst (.c (.frz ek xs)),H') else some (fr.put dst (.sl H'.length 0 0 n),H'++[.row false e ek 0 xs])
     | none=>none
     else none
   | none=>none
 | .lbox ek x=>match dst with
   | some d=>if s5 ek (fr.opd x)=true then some ({ env:=upd fr.env d (.lbox ek (fr.opd x)),al:=unlink d fr.al },H) else none
   | none=>none
 | .hbox ek x=>if s5 (ekB ek) (fr.opd x)=true then some (fr.put dst (.ptr H.length 0),H++[.var ek (fr.opd x).flat]) else none
 | .fbox ek x=>match fr.opd x with
   | .c v=>if fits ek v=true then some (fr.put dst (.c (.fptr ek v 0)),H) else none
   | _=>none
 | .mkm=>some (fr.put dst (.mapr H.length),H++[.mp [] 0])
 | .mget kd ok zero x k=>match N4 (fr.opd x) H,fr.opd k with
   | some es,.c key=>match J9 kd key es 0 with
     | some (some (_,v,_))=>some (fr.put dst (if ok then .tup [r7 v,.c (.bool true)] else r7 v),H)
     | some none=>some (fr.put dst (if ok then .tup [r7 zero,.c (.bool false)] else r7 zero),H)
     | none=>none
   | _,_=>none
 | .mset kd x k v=>match dst,fr.opd x,fr.opd k with
   | none,.mapr id,.c key=>match H[id]? with
     | some (.mp es ck)=>match J9 kd key es 0 with
       | some (some (i,_,b))=>some (fr,H.set id (.mp (es.set i (key,fr.opd v,b)) ck))
       | some none=>some (fr,H.set id (.mp (es++[(key,fr.opd v,ck)]) (ck+1)))
       | none=>none
     | _=>none
   | _,_,_=>none
 | .ment kd zero x k=>match fr.opd x,fr.opd k with
   | .mapr id,.c key=>match H[id]? with
     | some (.mp es ck)=>match J9 kd key es 0 with
       | some (some (i,v,b))=>some (fr.put dst (.tup [r7 v,.c (.int .i64 b)]),H.set id (.mp (es.set i (key,r7 v,b)) ck))
       | some none=>some (fr.put dst (.tup [r7 zero,.c (.int .i64 ck)]),H.set id (.mp (es++[(key,r7 zero,ck)]) (ck+1)))
       | none=>none
     | _=>none
   | _,_=>none
 | .msto x s v=>match dst,fr.opd x,fr.opd s with
   | none,.mapr id,.c (.int _ n)=>match H[id]? with
     | some (.mp es ck)=>match X3 n es 0 with
       | some (i,k,b)=>some (fr,H.set id (.mp (es.set i (k,fr.opd v,b)) ck))
       | none=>none
     | _=>none
   | _,_,_=>none
 | .mlen x=>match N4 (fr.opd x) H with
   | some es=>some (fr.put dst (.c (.int .i64 es.length)),H)
   | none=>none
 | .mxs isMax x ys=>match fr.opd x with
   | .c (.int k a)=>match mxL isMax a (ys.map fr.opd) with
     | some b=>some (fr.put dst (.c (.int k b)),H)
     | none=>none
   | _=>none
 | .b2s x=>match (J8 none (fr.opd x) H).bind V8 with
   | some l=>some (fr.put dst (.c (.str l)),H)
   | none=>none
 | .mkf f first cap=>some (fr.put dst (match d6 (first.map fr.opd),d6 (cap.map fr.opd) with
    | some a,some b=>.c (.fn f a b)
    | _,_=>.fn f (first.map fr.opd) (cap.map fr.opd)),H)
 | .ext x i=>match fr.opd x with
   | .tup vs=>match vs[i]? with
     | some v=>some (fr.put dst v,H)
     | none=>none
   | _=>none
 | .tyck T n x=>match fr.opd x with
   | .ptr id 0=>match H[id]? with
     | some (.var ek cs)=>if R1 ek=some T/\cs.length=n then some (fr.put dst (.ptr id 0),H) else none
     | _=>none
   | _=>none
 | .rowck e x=>match fr.opd x with
   | .nils=>some (fr.put dst (.c (.bool true)),H)
   | .sl id ver 0 len=>match H[id]? with
     | some (.row _ e' none ver' xs)=>if e'=e/\ver'=ver/\0<len/\len<=xs.length/\bE (xs.take len)=true then some (fr.put dst (.c (.bool false)),H) else none
     | _=>none
   | _=>none
 | .peq x y=>match fr.opd x,fr.opd y with
   | .ptr i a,.ptr j b=>some (fr.put dst (.c (.bool (decide (i=j/\a=b)))),H)
   | _,_=>none
 | .isn neg k x=>match yK k (fr.opd x) with
   | some b=>some (fr.put dst (.c (.bool (if neg then !b else b))),H)
   | none=>none
 | .cvt k x=>match fr.opd x with
   | .c (.int _ n)=>some (fr.put dst (.c (.int k (k.wrap n))),H)
   | _=>none
 | .mx isMax x y=>match fr.opd x,fr.opd y with
   | .c (.int k a),.c (.int _ b)=>some (fr.put dst (.c (.int k (if isMax then max a b else min a b))),H)
   | _,_=>none
 | .call _ _=>none
 | .callv _ _=>none
section
variable (E:Env) (call:j8)
def Z1 (v:HV) (args:List HV):Option (Nat×List HV):=
 match v with
 | .c (.fn f first cap)=>some (f,first.map .c++args++cap.map .c)
 | .fn f first cap=>some (f,first++args++cap)
 | _=>none
def F4 (dst:Option Nat) (fr:Fr):Option (HV×q7)->Option (Fr×q7)
 | some (v,H')=>some (fr.put dst v,H')
 | none=>none
def f8 (o:IOp) (dst:Option Nat) (fr:Fr) (H:q7):Option (Fr×q7):=
 match o with
 | .call f args=>F4 dst fr (l0 E call f (args.map fr.opd) H)
 | .callv x args=>match Z1 (fr.opd x) (args.map fr.opd) with
   | some (f,a5)=>F4 dst fr (l0 E call f a5 H)
   | none=>none
 | o=>q9 o dst fr H
def stp (o:IOper) (fr:Fr) (H:q7):Option (Fr×q7):=
 match o.guard with
 | none=>f8 E call o.op o.dst fr H
 | some (s,want)=>match fr.env s with
   | .c (.bool b)=>if b=want then f8 E call o.op o.dst fr H else some (fr.put o.dst .skipv,H)
   | .skipv=>some (fr.put o.dst .skipv,H)
   | _=>none
def K0:List IOper->Fr->q7->Option (Fr×q7)
 | [],fr,H=>some (fr,H)
 | o::r,fr,H=>match stp E call o fr H with
   | some (fr',H')=>K0 r fr' H'
   | none=>none
def C9:IOp->Bool
 | .mv _ | .un _ _ | .bin _ _ _ | .eqs _ _ _ _ | .eqb _ _ _ | .pick _ _ _ | .faddr _ _ | .nck _ | .fld _ _ _ | .cvs _ | .fbox _ _ | .six _ _ | .len _ _ | .build _ _ | .mkf _ _ _ | .ext _ _ | .cvt _ _ | .mx _ _ _ | .mxs _ _ _ | .aix _ _ _ _ | .isn _ _ _=>true
 | _=>false
def M8 (fr:Fr):Option Nat->Bool
 | none=>true
 | some d=>match fr.env d with
   | .lbox _ _=>false
   | _=>true
def doD (c:Cls) (o:IOp) (dst:Option Nat) (fr:Fr) (H:q7):Option (Fr×q7):=
 match c with
 | .pure=>match o with
   | .bsl fz e ek z n ps=>if fz=true/\(ps.all fun p=>(u7 [] (fr.opd p.2)).isSome)=true then q9 (.bsl fz e ek z n ps) dst fr H else none
   | o=>if C9 o=true then q9 o dst fr H else none
 | .rdb b=>match o with
   | .load ek a=>if (fr.place a).map (·.1)=some b then q9 (.load ek a) dst fr H else none
   | _=>none
 | .wrb b=>match o with
   | .store ek a x=>if (fr.place a).map (·.1)=some b/\dst=none then q9 (.store ek a x) dst fr H else none
   | _=>none
 | .rd=>match o with
   | .load ek a=>if (fr.place a).isSome=true then none else q9 (.load ek a) dst fr H
   | .ix ek x i=>q9 (.ix ek x i) dst fr H
   | .mget kd ok z x k=>q9 (.mget kd ok z x k) dst fr H
   | .mlen x=>q9 (.mlen x) dst fr H
   | .slc st ek x lo hi=>q9 (.slc st ek x lo hi) dst fr H
   | .call f args=>if E.md f=.P then match l0 E call f (args.map fr.opd) H with
      | some (v,_)=>if noRef v=true\/(args.map fr.opd).all zZ=true then some (fr.put dst v,H) else none
      | none=>none
     else none
   | _=>none
 | .wr=>match o with
   | .store ek a x=>if (fr.place a).isSome=true\/dst≠none then none else q9 (.store ek a x) dst fr H
   | .app e ek n s x=>q9 (.app e ek n s x) dst fr H
   | .mkm=>q9 .mkm dst fr H
   | .mset kd x k v=>q9 (.mset kd x k v) dst fr H
   | .ment kd z x k=>q9 (.ment kd z x k) dst fr H
   | .msto x s v=>q9 (.msto x s v) dst fr H
   | .bsl fz e ek z n ps=>q9 (.bsl fz e ek z n ps) dst fr H
   | .call f args=>f8 E call (.call f args) dst fr H
   | .callv x args=>f8 E call (.callv x args) dst fr H
   | _=>none
 | .hb=>match o with
   | .hbox ek x=>q9 (.hbox ek x) dst fr H
   | .bsl fz e ek z n ps=>if fz=false/\(ps.all fun p=>(u7 [] (fr.opd p.2)).isSome)=true then q9 (.bsl fz e ek z n ps) dst fr H else none
   | _=>none
 | .rdw=>match o with
   | .load ek a=>if (fr.place a).isSome=true then none else q9 (.load ek a) dst fr H
   | _=>none
 | .lb=>match o with
   | .lbox ek x=>q9 (.lbox ek x) dst fr H
   | _=>none
def B2 (c:Cls) (o:IOper) (fr:Fr) (H:q7):Option (Fr×q7):=
 match o.guard with
 | none=>doD E call c o.op o.dst fr H
 | some (s,want)=>match fr.env s with
   | .c (.bool b)=>if b=want then doD E call c o.op o.dst fr H else some (fr.put o.dst .skipv,H)
   | .skipv=>some (fr.put o.dst .skipv,H)
   | _=>none
def c7 (c:Cls) (o:IOper) (fr:Fr) (H:q7):Option (Fr×q7):=
 if M8 fr o.dst=true then match B2 E call c o fr H with
  | some (fr',H')=>if c=.lb\/M8 fr' o.dst=true then some (fr',H') else none
  | none=>none
 else none
def E7:List (Cls×IOper)->Fr->q7->Option (Fr×q7)
 | [],fr,H=>some (fr,H)
 | (c,o)::r,fr,H=>match c7 E call c o fr H with
   | some (fr',H')=>E7 r fr' H'
   | none=>none
def pN:HV->HV->Bool
 | .c (.bool a),.c (.bool b)=>a==b
 | .c (.int k a),.c (.int k' b)=>decide (k=k')&&a==b
 | .c (.str a),.c (.str b)=>a==b
 | .nils,.nils=>true
 | .ptr a b,.ptr a' b'=>a==a'&&b==b'
 | .sl a b c d,.sl a' b' c' d'=>a==a'&&b==b'&&c==c'&&d==d'
 | .mapr a,.mapr b=>a==b
 | _,_=>false
theorem zp5 {x y:HV} (h:pN x y=true):x=y:=by
 unfold pN at h;split at h<;>simp only [beq_iff_eq,Bool.and_eq_true,decide_eq_true_eq,Bool.false_eq_true] at h
 . rw [h]
 . rw [h.1,h.2]
 . rw [h]
 . rfl
 . rw [h.1,h.2]
 . rw [h.1.1.1,h.1.1.2,h.1.2,h.2]
 . rw [h]
def M5:List (Cls×IOper)->Fr->q7->Option (Fr×q7×List q7×List (Option Nat×HV×HV))
 | [],fr,H=>some (fr,H,[H],[])
 | (c,o)::r,fr,H=>match c7 E call c o fr H with
   | some (fr',H')=>match M5 r fr' H' with
     | some (f2,H2,W,cs)=>if c=.rdw then match o.guard,o.op with
        | none,.load ek a=>match m9 ek (fr.opd a) H with
          | some v=>some (f2,H2,H::W,(ek,fr.opd a,v)::cs)
          | none=>none
        | _,_=>none
        else some (f2,H2,H::W,cs)
     | none=>none
   | none=>none
def vY (W:List q7) (cs:List (Option Nat×HV×HV)):Bool:=cs.all fun c=>W.all fun H=>match m9 c.1 c.2.1 H with
 | some v=>pN v c.2.2
 | none=>false
def Y5 (ops:List (Cls×IOper)) (fr:Fr) (H:q7):Option (Fr×q7):=match M5 E call ops fr H with
 | some (f,H',W,cs)=>if vY W cs=true then some (f,H') else none
 | none=>none
def Q8:List (List (Cls×IOper))->Fr->q7->Option (Fr×q7)
 | [],fr,H=>some (fr,H)
 | b::r,fr,H=>match Y5 E call b fr H with
   | some (fr',H')=>Q8 r fr' H'
   | none=>none
inductive Ex where
 | nrm
 | exit (id:Nat)
 | goto (l:Nat)
 | ret
abbrev Run:=Fr->q7->Option (Ex×Fr×q7)
def I6 (l:Nat):Option (Ex×Fr×q7)->Option (Ex×Fr×q7)
 | some (.goto l',fr,H)=>if l'=l then some (.nrm,fr,H) else none
 | some (.nrm,fr,H)=>some (.goto l,fr,H)
 | r=>r
def M3 (l:Nat):Option (Ex×Fr×q7)->Option (Ex×Fr×q7)
 | some (.goto l',fr,H)=>if l'=l then some (.nrm,fr,H) else some (.goto l',fr,H)
 | r=>r
variable (it:Run->Run)
def evC:ICode->Run
 | .skip,fr,H=>some (.nrm,fr,H)
 | .stuck,_,_=>none
 | .region ops,fr,H=>match K0 E call ops { fr with al:=x6 } H with
   | some (fr',H')=>some (.nrm,fr',H')
   | none=>none
 | .regionD ops,fr,H=>match E7 E call ops { fr with al:=x6 } H with
   | some (fr',H')=>some (.nrm,fr',H')
   | none=>none
 | .regionW bs,fr,H=>match Q8 E call bs { fr with al:=x6 } H with
   | some (fr',H')=>some (.nrm,fr',H')
   | none=>none
 | .seq a b,fr,H=>match evC a fr H with
   | some (.nrm,fr',H')=>evC b fr' H'
   | r=>r
 | .cond c x y,fr,H=>match fr.opd c with
   | .c (.bool b)=>if b then evC x fr H else evC y fr H
   | _=>none
 | .block id body,fr,H=>match evC body fr H with
   | some (.exit i,fr',H')=>if i=id then some (.nrm,fr',H') else some (.exit i,fr',H')
   | r=>r
 | .loop live body,fr,H=>it (fun fr H=>evC body (keep live fr) H) fr H
 | .exit id,fr,H=>some (.exit id,fr,H)
 | .scope l live body rest,fr,H=>match evC body fr H with
   | some (.goto l',fr',H')=>if l'=l then M3 l (it (fun fr H=>I6 l (evC rest (keep live fr) H)) fr' H') else none
   | r=>r
 | .label _,fr,H=>some (.nrm,fr,H)
 | .keep live,fr,H=>some (.nrm,keep live fr,H)
 | .goto l,fr,H=>some (.goto l,fr,H)
 | .ret,fr,H=>some (.ret,fr,H)
def B8 (fr:Fr) (H:q7):List IRes->Option (List HV)
 | []=>some []
 | .tmp t::r=>match B8 fr H r with
   | some l=>some (r7 (fr.env t)::l)
   | none=>none
 | .cell a ek::r=>
   match (match fr.env a with
    | .lbox ek' x=>if ek'=ek then some x else none
    | p=>m9 ek p H),B8 fr H r with
   | some v,some l=>some (v::l)
   | _,_=>none
def oneOf:List HV->HV
 | [v]=>v
 | vs=>.tup vs
def binds (i:Nat):List HV->List (Nat×HV)
 | []=>[]
 | v::r=>(i,v)::binds (i+1) r
def wB (args:List HV) (H:q7):Option (List CV->Option (List CV))->Option (HV×q7)
 | none=>none
 | some g=>match d6 args with
   | some xs=>match g xs with
     | some us=>some (oneOf (us.map .c),H)
     | none=>none
   | none=>none
def Q1 (f:Nat) (args:List HV) (H:q7):Option (HV×q7):=
 match E.fnA f args.length with
 | none=>wB args H (E.ext f)
 | some g=>match evC E call it g.body { env:=t8 (binds 0 args),al:=x6 } H with
   | some (.nrm,fr,H') | some (.ret,fr,H')=>match B8 fr H' g.res with
     | some vs=>some (oneOf vs,H')
     | none=>none
   | _=>none
end
def itF:Nat->Run->Run
 | 0,_,_,_=>none
 | n+1,s,fr,H=>match s fr H with
   | some (.nrm,fr',H')=>itF n s fr' H'
   | r=>r
def evF (E:Env):Nat->j8
 | 0,_,_,_=>none
 | n+1,f,args,H=>Q1 E (evF E n) (itF n) f args H
end Go.Proofs.Lz
