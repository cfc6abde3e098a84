/- The evaluator: values, the small code, and what it computes. Nothing of the model is changed; this text only defines. -/
import GoSem.Step
namespace Go.Proofs.Lz
inductive CV where
 | bool (b:Bool)
 | int (k:IntKind) (n:Int)
 | str (s:List UInt8)
 | agg (cs:List CV)
 | frz (ek:Option Nat) (xs:List CV)
 | fptr (ek:Option Nat) (x:CV) (off:Nat)
 | fn (f:Nat) (first cap:List CV)
 | iface (t:Nat) (v:CV)
 | nili
 | nilp
 | nilfn
 | opq
 deriving Inhabited
def CV.flat:CV→List CV
 | .agg cs=>cs
 | v=>[v]
inductive HV where
 | c (v:CV)
 | agg (cs:List HV)
 | tup (vs:List HV)
 | nils
 | sl (id ver off len:Nat)
 | ptr (id off:Nat)
 | eptr (id ver i off:Nat)
 | lbox (ek:Option Nat) (v:HV)
 | fn (f:Nat) (first cap:List HV)
 | iface (t:Nat) (v:HV)
 | skipv
 | undef
 deriving Inhabited
def HV.flat:HV→List HV
 | .agg cs=>cs
 | .c (.agg l)=>l.map .c
 | v=>[v]
def aggH:HV→Option (List HV)
 | .agg cs=>some cs
 | .c (.agg l)=>some (l.map .c)
 | _=>none
def z82:List HV→Option (List CV)
 | []=>some []
 | .c v::r=>match z82 r with
   | some l=>some (v::l)
   | none=>none
 | _::_=>none
def q69 (cs:List HV):HV:=
 match z82 cs with
 | some l=>.c (.agg l)
 | none=>.agg cs
inductive HO where
 | var (ek:Option Nat) (cs:List HV)
 | row (fz:Bool) (e:Nat) (ek:Option Nat) (ver:Nat) (xs:List CV)
 deriving Inhabited
abbrev Heap:=List HO
def z45:Option Nat→Nat
 | none=>1
 | some n=>n
structure Fr where
 env:Nat→HV
 al:Nat→Option (Nat×Nat)
def upd {α:Type} (f:Nat→α) (t:Nat) (v:α):Nat→α:=fun s=>if s=t then v else f s
def noAl:Nat→Option (Nat×Nat):=fun _=>none
def unlink (d:Nat) (al:Nat→Option (Nat×Nat)):Nat→Option (Nat×Nat):=fun t=>if t=d then none else match al t with
 | some (b,off)=>if b=d then none else some (b,off)
 | none=>none
def za9:List (Nat×HV)→Nat→HV
 | [],_=>.undef
 | (t,v)::r,s=>if s=t then v else za9 r s
def keep (live:List Nat) (fr:Fr):Fr:={ env:=za9 (live.map fun s=>(s,fr.env s)),al:=noAl }
inductive Opd where
 | t (i:Nat)
 | k (v:HV)
def zd2:HV→HV
 | .lbox _ _=>.undef
 | v=>v
def Fr.opd (fr:Fr):Opd→HV
 | .t i=>zd2 (fr.env i)
 | .k v=>v
inductive IOp where
 | mv (x:Opd)
 | un (op:UnOp) (x:Opd)
 | bin (op:BinOp) (x y:Opd)
 | eqs (neg:Bool) (ks:List Nat) (x y:Opd)
 | eqb (neg:Bool) (x y:Opd)
 | pick (c a b:Opd)
 | load (ek:Option Nat) (a:Opd)
 | store (ek:Option Nat) (a x:Opd)
 | faddr (off:Nat) (a:Opd)
 | nck (a:Opd)
 | fld (ek:Option Nat) (off:Nat) (x:Opd)
 | ix (ek:Option Nat) (x i:Opd)
 | six (x i:Opd)
 | slc (st:Bool) (ek:Option Nat) (x:Opd) (lo hi:Option Opd)
 | len (st:Bool) (x:Opd)
 | app (e:Nat) (ek:Option Nat) (bytes:Nat) (s x:Opd)
 | build (zero:List HV) (parts:List (Nat×Nat×Opd))
 | bsl (fz:Bool) (e:Nat) (ek:Option Nat) (zero:List CV) (len:Nat) (parts:List (Nat×Opd))
 | lbox (ek:Option Nat) (x:Opd)
 | hbox (ek:Option Nat) (x:Opd)
 | fbox (ek:Option Nat) (x:Opd)
 | b2s (x:Opd)
 | cvs (x:Opd)
 | call (f:Nat) (args:List Opd)
 | callv (x:Opd) (args:List Opd)
 | mkf (f:Nat) (first cap:List Opd)
 | ext (x:Opd) (i:Nat)
 | cvt (k:IntKind) (x:Opd)
 | isn (neg:Bool) (k:Nat) (x:Opd)
 | tyck (T n:Nat) (x:Opd)
 | peq (x y:Opd)
 | rowck (e:Nat) (x:Opd)
 | mx (isMax:Bool) (x y:Opd)
structure IOper where
 dst:Option Nat
 guard:Option (Nat×Bool)
 op:IOp
inductive Cls where
 | pure
 | rdb
 | wrb
 | rd
 | wr
 | hb
 | lb
 deriving DecidableEq
inductive ICode where
 | skip
 | region (ops:List IOper)
 | regionD (ops:List (Cls×IOper))
 | seq (a b:ICode)
 | cond (c:Opd) (thn els:ICode)
 | block (id:Nat) (body:ICode)
 | loop (live:List Nat) (body:ICode)
 | exit (id:Nat)
 | scope (l:Nat) (live:List Nat) (body rest:ICode)
 | label (l:Nat)
 | keep (live:List Nat)
 | goto (l:Nat)
 | ret
inductive IRes where
 | tmp (t:Nat)
 | cell (a:Nat) (ek:Option Nat)
structure IFn where
 body:ICode
 res:List IRes
inductive Md where
 | P
 | S
 deriving DecidableEq
structure Env where
 fn:Nat→Option IFn
 md:Nat→Md
 ext:Nat→Option (List CV→Option (List CV)):=fun _=>none
 ar:Nat→Option Nat:=fun _=>none
def arFn (a:Option Nat) (n:Nat) (o:Option IFn):Option IFn:=match a with
 | none=>o
 | some k=>if k=n then o else none
theorem j06 {a:Option Nat} {n:Nat} {o:Option IFn} {g:IFn} (h:arFn a n o=some g):o=some g∧∀ k,a=some k→n=k:=by
 unfold arFn at h
 split at h
 · exact ⟨h,fun k hk=>by cases hk⟩
 · rename_i k
   split at h
   · rename_i hk;exact ⟨h,fun j hj=>by injection hj with hj;omega⟩
   · cases h
abbrev Env.fnA (E:Env) (f n:Nat):Option IFn:=arFn (E.ar f) n (E.fn f)
def eqL:List Nat→List CV→List CV→Option Bool
 | [],[],[]=>some true
 | 0::ks,.bool a::r,.bool b::s=>match eqL ks r s with
   | some x=>some (a==b&&x)
   | none=>none
 | 1::ks,.int k a::r,.int k' b::s=>if k=k' then match eqL ks r s with
    | some x=>some (a==b&&x)
    | none=>none
   else none
 | 2::ks,.str a::r,.str b::s=>match eqL ks r s with
   | some x=>some (a==b&&x)
   | none=>none
 | _,_,_=>none
def binC (op:BinOp) (x y:CV):Option CV:=
 match x,y with
 | .int k a,.int k' b=>
   match op with
   | .add=>if k=k' then some (.int k (k.wrap (a+b))) else none
   | .sub=>if k=k' then some (.int k (k.wrap (a - b))) else none
   | .mul=>if k=k' then some (.int k (k.wrap (a * b))) else none
   | .quo=>if k=k'∧b≠0 then some (.int k (k.wrap (a.tdiv b))) else none
   | .rem=>if k=k'∧b≠0 then some (.int k (a.tmod b)) else none
   | .eql=>if k=k' then some (.bool (a==b)) else none
   | .neq=>if k=k' then some (.bool (a != b)) else none
   | .lss=>if k=k' then some (.bool (decide (a<b))) else none
   | .leq=>if k=k' then some (.bool (decide (a≤b))) else none
   | .gtr=>if k=k' then some (.bool (decide (b<a))) else none
   | .geq=>if k=k' then some (.bool (decide (b≤a))) else none
   | .and=>if k=k' then some (.int k (k.wrap (BitVec.ofInt k.bits a &&& BitVec.ofInt k.bits b).toNat)) else none
   | .or=>if k=k' then some (.int k (k.wrap (BitVec.ofInt k.bits a ||| BitVec.ofInt k.bits b).toNat)) else none
   | .xor=>if k=k' then some (.int k (k.wrap (BitVec.ofInt k.bits a ^^^ BitVec.ofInt k.bits b).toNat)) else none
   | .andNot=>if k=k' then some (.int k (k.wrap (BitVec.ofInt k.bits a &&& ~~~(BitVec.ofInt k.bits b)).toNat)) else none
   | .shl=>if 0≤b then some (.int k (k.wrap (a * 2 ^ (min b.toNat k.bits)))) else none
   | .shr=>if 0≤b then some (.int k (a.fdiv (2 ^ (min b.toNat k.bits)))) else none
 | .str a,.str b=>
   match op with
   | .add=>if a.length+b.length≤9223372036854775807 then some (.str (a++b)) else none
   | .eql=>some (.bool (a==b))
   | .neq=>some (.bool (!(a==b)))
   | .lss=>some (.bool (Op.bytesLess a b))
   | .leq=>some (.bool (Op.bytesLess a b||a==b))
   | .gtr=>some (.bool (!(Op.bytesLess a b||a==b)))
   | .geq=>some (.bool (!(Op.bytesLess a b)))
   | _=>none
 | _,_=>none
def unC (op:UnOp) (x:CV):Option CV:=
 match op,x with
 | .not,.bool b=>some (.bool (!b))
 | .neg,.int k n=>some (.int k (k.wrap (0 - n)))
 | _,_=>none
def zj8 (ek:Option Nat) (cs:List HV) (off:Nat):Option HV:=
 match ek with
 | none=>cs[off]?
 | some n=>if off+n≤cs.length then some (q69 ((cs.drop off).take n)) else none
def jp7 (ek:Option Nat) (cs:List CV) (off:Nat):Option CV:=
 match ek with
 | none=>cs[off]?
 | some n=>if off+n≤cs.length then some (.agg ((cs.drop off).take n)) else none
def zv2 (ek' ek:Option Nat) (x:CV) (off:Nat):Option CV:=
 if off=0∧ek'=ek then some x else jp7 ek x.flat off
def zb0 (cs:List HV) (off:Nat) (new:List HV):List HV:=cs.take off++new++cs.drop (off+new.length)
def zy4 (cs:List CV) (off:Nat) (new:List CV):List CV:=cs.take off++new++cs.drop (off+new.length)
def fits:Option Nat→CV→Bool
 | none,.agg _=>false
 | none,_=>true
 | some n,.agg cs=>cs.length==n
 | some _,_=>false
def zk3:Option Nat→HV→Bool
 | ek,.c v=>fits ek v
 | some n,.agg cs=>cs.length==n
 | none,.nils=>true
 | none,.sl _ _ _ _=>true
 | none,.ptr _ _=>true
 | none,.eptr _ _ _ _=>true
 | none,.fn _ _ _=>true
 | none,.iface _ _=>true
 | _,_=>false
def zc0 (ek:Option Nat) (cs:List CV):Option CV:=match ek with
 | none=>cs[0]?
 | some _=>some (.agg cs)
def zw7 (ek:Option Nat) (cs:List HV):Option HV:=match ek with
 | none=>cs[0]?
 | some _=>some (q69 cs)
def zj3 (H:Heap):HV→Option CV
 | .c v=>some v
 | .nils=>some (.frz none [])
 | .sl id ver off len=>match H[id]? with
   | some (.row _ _ ek ver' xs)=>if ver=ver'∧off+len≤xs.length then some (.frz ek ((xs.drop off).take len)) else none
   | _=>none
 | _=>none
def zc2 (H:Heap):List HV→Option (List CV)
 | []=>some []
 | x::r=>match zj3 H x,zc2 H r with
   | some a,some b=>some (a::b)
   | _,_=>none
def zg3 (H:Heap):HV→Option CV
 | .agg cs=>match zc2 H cs with
   | some l=>some (.agg l)
   | none=>none
 | .iface t (.agg cs)=>match zc2 H cs with
   | some l=>some (.iface t (.agg l))
   | none=>none
 | .iface t v=>match zj3 H v with
   | some x=>some (.iface t x)
   | none=>none
 | v=>zj3 H v
def q47 (H:Heap):HV→Option CV
 | .ptr id off=>match H[id]? with
   | some (.var ek cs)=>match zc2 H cs with
     | some l=>if l.length=z45 ek then match zc0 ek l with
       | some x=>some (.fptr ek x off)
       | none=>none
       else none
     | none=>none
   | _=>none
 | v=>zg3 H v
def zk6 (H:Heap):List HV→Option (List CV)
 | []=>some []
 | x::r=>match q47 H x,zk6 H r with
   | some a,some b=>some (a::b)
   | _,_=>none
def thaw (H:Heap):HV→Option CV
 | .fn f first cap=>match zk6 H first,zk6 H cap with
   | some a,some b=>some (.fn f a b)
   | _,_=>none
 | v=>q47 H v
def qa2 (id:Nat) (H:Heap):Heap:=match H[id]? with
 | some (.row _ e ek ver xs)=>H.set id (.row true e ek ver xs)
 | _=>H
def zk2:List HV→Heap→Heap
 | [],H=>H
 | .sl id _ _ _::r,H=>zk2 r (qa2 id H)
 | _::r,H=>zk2 r H
def frzV (v:HV) (H:Heap):Heap:=match v with
 | .agg cs=>zk2 cs H
 | .iface _ (.agg cs)=>zk2 cs H
 | .iface _ v=>zk2 [v] H
 | v=>zk2 [v] H
def q41:List HV→Heap→Heap
 | [],H=>H
 | v::r,H=>q41 r (frzV v H)
def zm2 (v:HV) (H:Heap):Option (CV×Heap):=match v with
 | .c u=>some (u,H)
 | v=>match zg3 H v with
   | some u=>some (u,frzV v H)
   | none=>none
def zt9:CV→Bool
 | .bool _ | .int _ _ | .str _=>true
 | _=>false
def noRef:HV→Bool
 | .c (.agg l)=>l.all zt9
 | .c v=>zt9 v
 | .tup vs=>noRefL vs
 | _=>false
where noRefL:List HV→Bool
 | []=>true
 | .c (.agg l)::r=>l.all zt9&&noRefL r
 | .c v::r=>zt9 v&&noRefL r
 | _::_=>false
def isC:HV→Bool
 | .c _=>true
 | .nils=>true
 | _=>false
def z99 (H:Heap):List HV→Option (List HV)
 | []=>some []
 | x::r=>match thaw H x,z99 H r with
   | some a,some b=>some (.c a::b)
   | _,_=>none
def q46 (H:Heap):List HV→Option (List HV)
 | []=>some []
 | x::r=>match zg3 H x,q46 H r with
   | some a,some b=>some (.c a::b)
   | _,_=>none
def zn8 (H:Heap):HV→Option HV
 | .tup vs=>(q46 H vs).map .tup
 | v=>(zg3 H v).map .c
def noFn:HV→Bool
 | .fn _ _ _=>false
 | .ptr _ _=>false
 | _=>true
abbrev za3:=Nat→List HV→Heap→Option (HV×Heap)
def z91 (E:Env) (e:za3) (f:Nat) (args:List HV) (H:Heap):Option (HV×Heap):=
 match E.md f with
 | .S=>e f args H
 | .P=>match z99 H args with
   | none=>none
   | some a5=>match e f a5 [] with
     | none=>none
     | some (r,H')=>match zn8 H' r with
       | none=>none
       | some r'=>if args.all isC||noRef r' then some (r',H) else if args.all noFn then some (r',q41 args H) else none
def Fr.put (fr:Fr) (dst:Option Nat) (v:HV):Fr:=
 match dst with
 | none=>fr
 | some d=>{ env:=upd fr.env d v,al:=upd fr.al d none }
def Fr.link (fr:Fr) (dst:Option Nat) (b off:Nat):Fr:=
 match dst with
 | none=>fr
 | some d=>{ env:=upd fr.env d .undef,al:=upd fr.al d (some (b,off)) }
def zx4 (dst:Option Nat) (b off:Nat) (fr:Fr) (H:Heap):Option (Fr×Heap):=if dst=some b then none else some (fr.link dst b off,H)
def Fr.place (fr:Fr) (x:Opd):Option (Nat×Nat):=
 match x with
 | .k _=>none
 | .t i=>match fr.al i with
   | some (b,off)=>match fr.env b with
     | .lbox _ _=>some (b,off)
     | _=>none
   | none=>match fr.env i with
     | .lbox _ _=>some (i,0)
     | _=>none
def q05:HV→Option Int
 | .c (.int _ n)=>some n
 | _=>none
def wt0:HV→Option Bool
 | .c (.bool b)=>some b
 | _=>none
def lenH (st:Bool):HV→Option Nat
 | .c (.str s)=>if st then some s.length else none
 | .c (.frz _ xs)=>if st then none else some xs.length
 | .nils=>if st then none else some 0
 | .sl _ _ _ n=>if st then none else some n
 | _=>none
def ixH (ek:Option Nat) (x:HV) (i:Int) (H:Heap):Option HV:=
 match x with
 | .c (.frz ek' xs)=>if ek'=ek∧0≤i then match xs[i.toNat]? with
    | some v=>some (.c (.fptr ek v 0))
    | none=>none
   else none
 | .sl id ver off len=>match H[id]? with
   | some (.row _ _ ek' ver' _)=>if ek'=ek∧ver'=ver∧0≤i∧i<len then some (.eptr id ver (off+i.toNat) 0) else none
   | _=>none
 | _=>none
def zd0 (ek:Option Nat) (p:HV) (H:Heap):Option HV:=
 match p with
 | .c (.fptr ek' x off)=>(zv2 ek' ek x off).map .c
 | .ptr id off=>match H[id]? with
   | some (.var _ cs)=>zj8 ek cs off
   | _=>none
 | .eptr id ver i off=>match H[id]? with
   | some (.row _ _ ek' ver' xs)=>if ver'=ver then match xs[i]? with
      | some x=>(zv2 ek' ek x off).map .c
      | none=>none
     else none
   | _=>none
 | _=>none
def zo1 (ek:Option Nat) (p:HV) (v:HV) (H:Heap):Option Heap:=
 match p with
 | .ptr id off=>match H[id]? with
   | some (.var ek' cs)=>if zk3 ek v=true∧off+v.flat.length≤cs.length then some (H.set id (.var ek' (zb0 cs off v.flat))) else none
   | _=>none
 | .eptr id ver i off=>match zm2 v H with
   | some (u,H')=>match H'[id]? with
     | some (.row false e ek' ver' xs)=>if ver'=ver∧fits ek u=true then match xs[i]? with
        | some x=>
          if off=0∧ek'=ek then some (H'.set id (.row false e ek' ver (xs.set i u)))
          else if off+u.flat.length≤x.flat.length then
           match zc0 ek' (zy4 x.flat off u.flat) with
           | some x'=>if fits ek' x'=true then some (H'.set id (.row false e ek' ver (xs.set i x'))) else none
           | none=>none
          else none
        | none=>none
       else none
     | _=>none
   | none=>none
 | _=>none
def slcH (st:Bool) (ek:Option Nat) (x:HV) (lo hi:Option Int) (H:Heap):Option HV:=
 match x with
 | .c (.str s)=>
   let l:=lo.getD 0
   let h:=hi.getD s.length
   if st=true∧0≤l∧l≤h∧h≤s.length then some (.c (.str ((s.drop l.toNat).take (h.toNat - l.toNat)))) else none
 | .c (.frz ek' xs)=>
   let l:=lo.getD 0
   let h:=hi.getD xs.length
   if st=false∧(ek'=ek∨xs=[])∧0≤l∧l≤h∧h≤xs.length then some (.c (.frz ek' ((xs.drop l.toNat).take (h.toNat - l.toNat)))) else none
 | .nils=>
   let l:=lo.getD 0
   let h:=hi.getD 0
   if st=false∧0≤l∧l≤h∧h≤0 then some .nils else none
 | .sl id ver off n=>match H[id]? with
   | some (.row _ _ ek' ver' _)=>if ver'=ver∧ek'=ek then
     let l:=lo.getD 0
     let h:=hi.getD n
     if st=false∧0≤l∧l≤h∧h≤n then some (.sl id ver (off+l.toNat) (h.toNat - l.toNat)) else none
     else none
   | _=>none
 | _=>none
def zm8 (ek:Option Nat) (x:HV) (H:Heap):Option (List CV):=
 match x with
 | .nils=>some []
 | .c (.frz _ [])=>some []
 | .c (.frz ek' xs)=>if ek'=ek then some xs else none
 | .sl id ver off len=>match H[id]? with
   | some (.row _ _ ek' ver' xs)=>if ek'=ek∧ver=ver'∧off+len≤xs.length then some ((xs.drop off).take len) else none
   | _=>none
 | _=>none
def lim:Nat:=140737488355328
def j73:Nat:=1048576
def tyEk (n T:Nat):Option Nat:=some (n+j73 * (T+1))
def tyOf:Option Nat→Option Nat
 | some n=>if j73≤n then some (n / j73 - 1) else none
 | none=>none
def ekB:Option Nat→Option Nat
 | some n=>some (n % j73)
 | none=>none
def nilC (k:Nat):CV→Option Bool
 | .nilp=>if k=0 then some true else none
 | .fptr _ _ _=>if k=0 then some false else none
 | .nili=>if k=1 then some true else none
 | .iface _ _=>if k=1 then some false else none
 | .opq=>if k=1 then some false else none
 | .nilfn=>if k=2 then some true else none
 | .fn _ _ _=>if k=2 then some false else none
 | .frz _ (_::_)=>if k=3 then some false else none
 | _=>none
def nilH (k:Nat):HV→Option Bool
 | .c v=>nilC k v
 | .ptr _ _=>if k=0 then some false else none
 | .eptr _ _ _ _=>if k=0 then some false else none
 | .iface _ _=>if k=1 then some false else none
 | .fn _ _ _=>if k=2 then some false else none
 | .nils=>if k=3 then some true else none
 | .sl _ _ _ _=>if k=3 then some false else none
 | _=>none
def zv0:List CV→Bool
 | []=>true
 | .int .u8 n::r=>decide (0≤n∧n<256)&&zv0 r
 | _=>false
def bytesV (s:List UInt8):List CV:=s.map fun b=>.int .u8 b.toNat
def qm5 (ek:Option Nat) (x:HV) (H:Heap):Option (List CV):=match x with
 | .c (.str s)=>if ek=none then some (bytesV s) else none
 | x=>zm8 ek x H
def appH (e:Nat) (ek:Option Nat) (bytes:Nat) (s x:HV) (H:Heap):Option (HV×Heap):=
 match qm5 ek x H with
 | none=>none
 | some new=>match s with
   | .nils=>if new=[] then some (.nils,H) else if new.length * bytes≤lim∧new.length≤lim then some (.sl H.length 0 0 new.length,H++[.row false e ek 0 new]) else none
   | .sl id ver 0 n=>match H[id]? with
     | some (.row false e' ek' ver' xs)=>
       if e'=e∧ek'=ek∧ver'=ver∧n≤xs.length∧(n+new.length) * bytes≤lim∧n+new.length≤lim then
        some (.sl id (ver+1) 0 (n+new.length),H.set id (.row false e ek (ver+1) (xs.take n++new)))
       else none
     | _=>none
   | _=>none
def j36 (n:Nat) (v:HV):Bool:=zk3 (some n) v||(n==1&&zk3 none v)
def qo5 (cs:List HV):List (Nat×Nat×HV)→Option (List HV)
 | []=>some cs
 | (off,n,v)::r=>if j36 n v=true∧off+n≤cs.length then qo5 (zb0 cs off v.flat) r else none
def zd7 (ek:Option Nat) (xs:List CV) (H:Heap):List (Nat×HV)→Option (List CV×Heap)
 | []=>some (xs,H)
 | (i,v)::r=>match zm2 v H with
   | some (u,H')=>if i<xs.length∧fits ek u=true then zd7 ek (xs.set i u) H' r else none
   | none=>none
def zf4:List CV→Option (List UInt8)
 | []=>some []
 | .int .u8 n::r=>match zf4 r with
   | some l=>some (UInt8.ofNat n.toNat::l)
   | none=>none
 | _=>none
def optI (fr:Fr):Option Opd→Option (Option Int)
 | none=>some none
 | some x=>match q05 (fr.opd x) with
   | some i=>some (some i)
   | none=>none
def z42 (o:IOp) (dst:Option Nat) (fr:Fr) (H:Heap):Option (Fr×Heap):=
 match o with
 | .mv x=>match fr.place x with
   | some (b,off)=>zx4 dst b off fr H
   | none=>some (fr.put dst (fr.opd x),H)
 | .un op x=>match fr.opd x with
   | .c a=>match unC op a with
     | some v=>some (fr.put dst (.c v),H)
     | none=>none
   | _=>none
 | .bin op x y=>match fr.opd x,fr.opd y with
   | .c a,.c b=>match binC op a b with
     | some v=>some (fr.put dst (.c v),H)
     | none=>none
   | _,_=>none
 | .eqs neg ks x y=>match fr.opd x,fr.opd y with
   | .c (.agg a),.c (.agg b)=>match eqL ks a b with
     | some v=>some (fr.put dst (.c (.bool (if neg then !v else v))),H)
     | none=>none
   | _,_=>none
 | .eqb neg x y=>match fr.opd x,fr.opd y with
   | .c (.bool a),.c (.bool b)=>some (fr.put dst (.c (.bool (if neg then !(a==b) else a==b))),H)
   | _,_=>none
 | .pick c a b=>match fr.opd c with
   | .c (.bool t)=>some (fr.put dst (if t then fr.opd a else fr.opd b),H)
   | _=>none
 | .load ek a=>match fr.place a with
   | some (b,off)=>match fr.env b with
     | .lbox ek' x=>match (if off=0∧ek'=ek then some x else zj8 ek x.flat off) with
       | some v=>some (fr.put dst v,H)
       | none=>none
     | _=>none
   | none=>match zd0 ek (fr.opd a) H with
     | some v=>some (fr.put dst v,H)
     | none=>none
 | .store ek a x=>match fr.place a with
   | some (b,off)=>match fr.env b with
     | .lbox ek' x0=>
       let v:=fr.opd x
       if zk3 ek v=true then
        if off=0∧ek'=ek then some ({ fr with env:=upd fr.env b (.lbox ek' v) },H)
        else if off+v.flat.length≤x0.flat.length then
         match zw7 ek' (zb0 x0.flat off v.flat) with
         | some x'=>if zk3 ek' x'=true then some ({ fr with env:=upd fr.env b (.lbox ek' x') },H) else none
         | none=>none
        else none
       else none
     | _=>none
   | none=>match zo1 ek (fr.opd a) (fr.opd x) H with
     | some H'=>some (fr,H')
     | none=>none
 | .faddr n a=>match fr.place a with
   | some (b,off)=>zx4 dst b (off+n) fr H
   | none=>match fr.opd a with
     | .ptr id off=>some (fr.put dst (.ptr id (off+n)),H)
     | .eptr id ver i off=>some (fr.put dst (.eptr id ver i (off+n)),H)
     | .c (.fptr ek x off)=>some (fr.put dst (.c (.fptr ek x (off+n))),H)
     | _=>none
 | .nck a=>match fr.place a with
   | some (b,off)=>zx4 dst b off fr H
   | none=>match fr.opd a with
     | .ptr id off=>some (fr.put dst (.ptr id off),H)
     | .eptr id ver i off=>some (fr.put dst (.eptr id ver i off),H)
     | .c (.fptr ek x off)=>some (fr.put dst (.c (.fptr ek x off)),H)
     | _=>none
 | .fld ek off x=>match aggH (fr.opd x) with
   | some cs=>match zj8 ek cs off with
     | some v=>some (fr.put dst v,H)
     | none=>none
   | none=>none
 | .cvs x=>match fr.opd x with
   | .c (.str s)=>some (fr.put dst (.c (.str s)),H)
   | _=>none
 | .ix ek x i=>match q05 (fr.opd i) with
   | some n=>match ixH ek (fr.opd x) n H with
     | some v=>some (fr.put dst v,H)
     | none=>none
   | none=>none
 | .six x i=>match fr.opd x,q05 (fr.opd i) with
   | .c (.str s),some n=>if 0≤n then match s[n.toNat]? with
      | some b=>some (fr.put dst (.c (.int .u8 b.toNat)),H)
      | none=>none
     else none
   | _,_=>none
 | .slc st ek x lo hi=>match optI fr lo,optI fr hi with
   | some l,some h=>match slcH st ek (fr.opd x) l h H with
     | some v=>some (fr.put dst v,H)
     | none=>none
   | _,_=>none
 | .len st x=>match lenH st (fr.opd x) with
   | some n=>some (fr.put dst (.c (.int .i64 n)),H)
   | none=>none
 | .app e ek bytes s x=>match appH e ek bytes (fr.opd s) (fr.opd x) H with
   | some (v,H')=>some (fr.put dst v,H')
   | none=>none
 | .build zero parts=>match qo5 zero (parts.map fun p=>(p.1,p.2.1,fr.opd p.2.2)) with
   | some cs=>some (fr.put dst (q69 cs),H)
   | none=>none
 | .bsl fz e ek zero n parts=>match zc0 ek zero with
   | some z=>if fits ek z=true then match zd7 ek (List.replicate n z) H (parts.map fun p=>(p.1,fr.opd p.2)) with
     | some (xs,H')=>if fz then some (fr.put dst (.c (.frz ek xs)),H') else some (fr.put dst (.sl H'.length 0 0 n),H'++[.row false e ek 0 xs])
     | none=>none
     else none
   | none=>none
 | .lbox ek x=>match dst with
   | some d=>if zk3 ek (fr.opd x)=true then some ({ env:=upd fr.env d (.lbox ek (fr.opd x)),al:=unlink d fr.al },H) else none
   | none=>none
 | .hbox ek x=>if zk3 (ekB ek) (fr.opd x)=true then some (fr.put dst (.ptr H.length 0),H++[.var ek (fr.opd x).flat]) else none
 | .fbox ek x=>match fr.opd x with
   | .c v=>if fits ek v=true then some (fr.put dst (.c (.fptr ek v 0)),H) else none
   | _=>none
 | .b2s x=>match (zm8 none (fr.opd x) H).bind zf4 with
   | some l=>some (fr.put dst (.c (.str l)),H)
   | none=>none
 | .mkf f first cap=>some (fr.put dst (match z82 (first.map fr.opd),z82 (cap.map fr.opd) with
    | some a,some b=>.c (.fn f a b)
    | _,_=>.fn f (first.map fr.opd) (cap.map fr.opd)),H)
 | .ext x i=>match fr.opd x with
   | .tup vs=>match vs[i]? with
     | some v=>some (fr.put dst v,H)
     | none=>none
   | _=>none
 | .tyck T n x=>match fr.opd x with
   | .ptr id 0=>match H[id]? with
     | some (.var ek cs)=>if tyOf ek=some T∧cs.length=n then some (fr.put dst (.ptr id 0),H) else none
     | _=>none
   | _=>none
 | .rowck e x=>match fr.opd x with
   | .nils=>some (fr.put dst (.c (.bool true)),H)
   | .sl id ver 0 len=>match H[id]? with
     | some (.row _ e' none ver' xs)=>if e'=e∧ver'=ver∧0<len∧len≤xs.length∧zv0 (xs.take len)=true then some (fr.put dst (.c (.bool false)),H) else none
     | _=>none
   | _=>none
 | .peq x y=>match fr.opd x,fr.opd y with
   | .ptr i a,.ptr j b=>some (fr.put dst (.c (.bool (decide (i=j∧a=b)))),H)
   | _,_=>none
 | .isn neg k x=>match nilH k (fr.opd x) with
   | some b=>some (fr.put dst (.c (.bool (if neg then !b else b))),H)
   | none=>none
 | .cvt k x=>match fr.opd x with
   | .c (.int _ n)=>some (fr.put dst (.c (.int k (k.wrap n))),H)
   | _=>none
 | .mx isMax x y=>match fr.opd x,fr.opd y with
   | .c (.int k a),.c (.int _ b)=>some (fr.put dst (.c (.int k (if isMax then max a b else min a b))),H)
   | _,_=>none
 | .call _ _=>none
 | .callv _ _=>none
section
variable (E:Env) (call:za3)
def zt0 (v:HV) (args:List HV):Option (Nat×List HV):=
 match v with
 | .c (.fn f first cap)=>some (f,first.map .c++args++cap.map .c)
 | .fn f first cap=>some (f,first++args++cap)
 | _=>none
def zh7 (dst:Option Nat) (fr:Fr):Option (HV×Heap)→Option (Fr×Heap)
 | some (v,H')=>some (fr.put dst v,H')
 | none=>none
def doOp (o:IOp) (dst:Option Nat) (fr:Fr) (H:Heap):Option (Fr×Heap):=
 match o with
 | .call f args=>zh7 dst fr (z91 E call f (args.map fr.opd) H)
 | .callv x args=>match zt0 (fr.opd x) (args.map fr.opd) with
   | some (f,a5)=>zh7 dst fr (z91 E call f a5 H)
   | none=>none
 | o=>z42 o dst fr H
def stp (o:IOper) (fr:Fr) (H:Heap):Option (Fr×Heap):=
 match o.guard with
 | none=>doOp E call o.op o.dst fr H
 | some (s,want)=>match fr.env s with
   | .c (.bool b)=>if b=want then doOp E call o.op o.dst fr H else some (fr.put o.dst .skipv,H)
   | .skipv=>some (fr.put o.dst .skipv,H)
   | _=>none
def zd5:List IOper→Fr→Heap→Option (Fr×Heap)
 | [],fr,H=>some (fr,H)
 | o::r,fr,H=>match stp E call o fr H with
   | some (fr',H')=>zd5 r fr' H'
   | none=>none
def zn1:IOp→Bool
 | .mv _ | .un _ _ | .bin _ _ _ | .eqs _ _ _ _ | .eqb _ _ _ | .pick _ _ _ | .faddr _ _ | .nck _ | .fld _ _ _ | .cvs _ | .fbox _ _ | .six _ _ | .len _ _ | .build _ _ | .mkf _ _ _ | .ext _ _ | .cvt _ _ | .mx _ _ _ | .isn _ _ _=>true
 | _=>false
def qa0 (fr:Fr):Option Nat→Bool
 | none=>true
 | some d=>match fr.env d with
   | .lbox _ _=>false
   | _=>true
def doD (c:Cls) (o:IOp) (dst:Option Nat) (fr:Fr) (H:Heap):Option (Fr×Heap):=
 match c with
 | .pure=>match o with
   | .bsl fz e ek z n ps=>if fz=true∧(ps.all fun p=>(zg3 [] (fr.opd p.2)).isSome)=true then z42 (.bsl fz e ek z n ps) dst fr H else none
   | o=>if zn1 o=true then z42 o dst fr H else none
 | .rdb=>match o with
   | .load ek a=>if (fr.place a).isSome=true then z42 (.load ek a) dst fr H else none
   | _=>none
 | .wrb=>match o with
   | .store ek a x=>if (fr.place a).isSome=true∧dst=none then z42 (.store ek a x) dst fr H else none
   | _=>none
 | .rd=>match o with
   | .load ek a=>if (fr.place a).isSome=true then none else z42 (.load ek a) dst fr H
   | .ix ek x i=>z42 (.ix ek x i) dst fr H
   | .slc st ek x lo hi=>z42 (.slc st ek x lo hi) dst fr H
   | .call f args=>if E.md f=.P then match z91 E call f (args.map fr.opd) H with
      | some (v,_)=>if noRef v=true∨(args.map fr.opd).all isC=true then some (fr.put dst v,H) else none
      | none=>none
     else none
   | _=>none
 | .wr=>match o with
   | .store ek a x=>if (fr.place a).isSome=true∨dst≠none then none else z42 (.store ek a x) dst fr H
   | .app e ek n s x=>z42 (.app e ek n s x) dst fr H
   | .bsl fz e ek z n ps=>z42 (.bsl fz e ek z n ps) dst fr H
   | .call f args=>doOp E call (.call f args) dst fr H
   | .callv x args=>doOp E call (.callv x args) dst fr H
   | _=>none
 | .hb=>match o with
   | .hbox ek x=>z42 (.hbox ek x) dst fr H
   | _=>none
 | .lb=>match o with
   | .lbox ek x=>z42 (.lbox ek x) dst fr H
   | _=>none
def stpG (c:Cls) (o:IOper) (fr:Fr) (H:Heap):Option (Fr×Heap):=
 match o.guard with
 | none=>doD E call c o.op o.dst fr H
 | some (s,want)=>match fr.env s with
   | .c (.bool b)=>if b=want then doD E call c o.op o.dst fr H else some (fr.put o.dst .skipv,H)
   | .skipv=>some (fr.put o.dst .skipv,H)
   | _=>none
def stpD (c:Cls) (o:IOper) (fr:Fr) (H:Heap):Option (Fr×Heap):=
 if qa0 fr o.dst=true then match stpG E call c o fr H with
  | some (fr',H')=>if c=.lb∨qa0 fr' o.dst=true then some (fr',H') else none
  | none=>none
 else none
def zq5:List (Cls×IOper)→Fr→Heap→Option (Fr×Heap)
 | [],fr,H=>some (fr,H)
 | (c,o)::r,fr,H=>match stpD E call c o fr H with
   | some (fr',H')=>zq5 r fr' H'
   | none=>none
inductive Ex where
 | nrm
 | exit (id:Nat)
 | goto (l:Nat)
 | ret
abbrev Run:=Fr→Heap→Option (Ex×Fr×Heap)
def zq0 (l:Nat):Option (Ex×Fr×Heap)→Option (Ex×Fr×Heap)
 | some (.goto l',fr,H)=>if l'=l then some (.nrm,fr,H) else none
 | some (.nrm,fr,H)=>some (.goto l,fr,H)
 | r=>r
def zu1 (l:Nat):Option (Ex×Fr×Heap)→Option (Ex×Fr×Heap)
 | some (.goto l',fr,H)=>if l'=l then some (.nrm,fr,H) else some (.goto l',fr,H)
 | r=>r
variable (it:Run→Run)
def evC:ICode→Run
 | .skip,fr,H=>some (.nrm,fr,H)
 | .region ops,fr,H=>match zd5 E call ops { fr with al:=noAl } H with
   | some (fr',H')=>some (.nrm,fr',H')
   | none=>none
 | .regionD ops,fr,H=>match zq5 E call ops { fr with al:=noAl } H with
   | some (fr',H')=>some (.nrm,fr',H')
   | none=>none
 | .seq a b,fr,H=>match evC a fr H with
   | some (.nrm,fr',H')=>evC b fr' H'
   | r=>r
 | .cond c x y,fr,H=>match fr.opd c with
   | .c (.bool b)=>if b then evC x fr H else evC y fr H
   | _=>none
 | .block id body,fr,H=>match evC body fr H with
   | some (.exit i,fr',H')=>if i=id then some (.nrm,fr',H') else some (.exit i,fr',H')
   | r=>r
 | .loop live body,fr,H=>it (fun fr H=>evC body (keep live fr) H) fr H
 | .exit id,fr,H=>some (.exit id,fr,H)
 | .scope l live body rest,fr,H=>match evC body fr H with
   | some (.goto l',fr',H')=>if l'=l then zu1 l (it (fun fr H=>zq0 l (evC rest (keep live fr) H)) fr' H') else none
   | r=>r
 | .label _,fr,H=>some (.nrm,fr,H)
 | .keep live,fr,H=>some (.nrm,keep live fr,H)
 | .goto l,fr,H=>some (.goto l,fr,H)
 | .ret,fr,H=>some (.ret,fr,H)
def zn5 (fr:Fr) (H:Heap):List IRes→Option (List HV)
 | []=>some []
 | .tmp t::r=>match zn5 fr H r with
   | some l=>some (zd2 (fr.env t)::l)
   | none=>none
 | .cell a ek::r=>
   match (match fr.env a with
    | .lbox ek' x=>if ek'=ek then some x else none
    | p=>zd0 ek p H),zn5 fr H r with
   | some v,some l=>some (v::l)
   | _,_=>none
def oneOf:List HV→HV
 | [v]=>v
 | vs=>.tup vs
def binds (i:Nat):List HV→List (Nat×HV)
 | []=>[]
 | v::r=>(i,v)::binds (i+1) r
def w02 (args:List HV) (H:Heap):Option (List CV→Option (List CV))→Option (HV×Heap)
 | none=>none
 | some g=>match z82 args with
   | some xs=>match g xs with
     | some us=>some (oneOf (us.map .c),H)
     | none=>none
   | none=>none
def q40 (f:Nat) (args:List HV) (H:Heap):Option (HV×Heap):=
 match E.fnA f args.length with
 | none=>w02 args H (E.ext f)
 | some g=>match evC E call it g.body { env:=za9 (binds 0 args),al:=noAl } H with
   | some (.nrm,fr,H') | some (.ret,fr,H')=>match zn5 fr H' g.res with
     | some vs=>some (oneOf vs,H')
     | none=>none
   | _=>none
end
def itF:Nat→Run→Run
 | 0,_,_,_=>none
 | n+1,s,fr,H=>match s fr H with
   | some (.nrm,fr',H')=>itF n s fr' H'
   | r=>r
def evF (E:Env):Nat→za3
 | 0,_,_,_=>none
 | n+1,f,args,H=>q40 E (evF E n) (itF n) f args H
end Go.Proofs.Lz
