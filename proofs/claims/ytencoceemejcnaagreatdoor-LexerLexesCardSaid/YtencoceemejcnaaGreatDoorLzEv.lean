/- The evaluator: values, the small code, and what it computes. Nothing of the model is changed; this text only defines. -/
import GoSem.Step
namespace Go.Proofs.Lz
theorem gEs {α:Type} {l:List α} {i:Nat} {a:α} (h:l[i]?=some a):∃ h:i<l.length,l[i]=a:=List.getElem?_eq_some_iff.1 h
theorem gEg {α:Type} {l:List α} {i:Nat} (h:i<l.length):l[i]?=some l[i]:=List.getElem?_eq_getElem h
inductive CV where
 | bool (b:Bool)
 | int (k:IntKind) (n:Int)
 | str (s:List UInt8)
 | agg (cs:List CV)
 | frz (ek:Option Nat) (xs:List CV)
 | fptr (ek:Option Nat) (x:CV) (off:Nat)
 | fn (f:Nat) (first cap:List CV)
 | iface (t:Nat) (v:CV)
 | nili
 | nilp
 | nilfn
 | opq
 deriving Inhabited
def CV.flat:CV->List CV
 | .agg cs=>cs
 | v=>[v]
inductive HV where
 | c (v:CV)
 | agg (cs:List HV)
 | tup (vs:List HV)
 | nils
 | sl (id ver off len:Nat)
 | ptr (id off:Nat)
 | eptr (id ver i off:Nat)
 | lbox (ek:Option Nat) (v:HV)
 | fn (f:Nat) (first cap:List HV)
 | iface (t:Nat) (v:HV)
 | skipv
 | undef
 deriving Inhabited
def HV.flat:HV->List HV
 | .agg cs=>cs
 | .c (.agg l)=>l.map .c
 | v=>[v]
def qU:HV->Option (List HV)
 | .agg cs=>some cs
 | .c (.agg l)=>some (l.map .c)
 | _=>none
def F5:List HV->Option (List CV)
 | []=>some []
 | .c v::r=>match F5 r with
   | some l=>some (v::l)
   | none=>none
 | _::_=>none
def X0 (cs:List HV):HV:=
 match F5 cs with
 | some l=>.c (.agg l)
 | none=>.agg cs
inductive HO where
 | var (ek:Option Nat) (cs:List HV)
 | row (fz:Bool) (e:Nat) (ek:Option Nat) (ver:Nat) (xs:List CV)
 deriving Inhabited
abbrev j6:=List HO
def g7:Option Nat->Nat
 | none=>1
 | some n=>n
structure Fr where
 env:Nat->HV
 al:Nat->Option (Nat×Nat)
def upd {α:Type} (f:Nat->α) (t:Nat) (v:α):Nat->α:=fun s=>if s=t then v else f s
def f0:Nat->Option (Nat×Nat):=fun _=>none
def unlink (d:Nat) (al:Nat->Option (Nat×Nat)):Nat->Option (Nat×Nat):=fun t=>if t=d then none else match al t with
 | some (b,off)=>if b=d then none else some (b,off)
 | none=>none
def o9:List (Nat×HV)->Nat->HV
 | [],_=>.undef
 | (t,v)::r,s=>if s=t then v else o9 r s
def keep (live:List Nat) (fr:Fr):Fr:={ env:=o9 (live.map fun s=>(s,fr.env s)),al:=f0 }
inductive Opd where
 | t (i:Nat)
 | k (v:HV)
def B9:HV->HV
 | .lbox _ _=>.undef
 | v=>v
def Fr.opd (fr:Fr):Opd->HV
 | .t i=>B9 (fr.env i)
 | .k v=>v
inductive IOp where
 | mv (x:Opd)
 | un (op:UnOp) (x:Opd)
 | bin (op:BinOp) (x y:Opd)
 | eqs (neg:Bool) (ks:List Nat) (x y:Opd)
 | eqb (neg:Bool) (x y:Opd)
 | pick (c a b:Opd)
 | load (ek:Option Nat) (a:Opd)
 | store (ek:Option Nat) (a x:Opd)
 | faddr (off:Nat) (a:Opd)
 | nck (a:Opd)
 | fld (ek:Option Nat) (off:Nat) (x:Opd)
 | ix (ek:Option Nat) (x i:Opd)
 | six (x i:Opd)
 | slc (st:Bool) (ek:Option Nat) (x:Opd) (lo hi:Option Opd)
 | len (st:Bool) (x:Opd)
 | app (e:Nat) (ek:Option Nat) (bytes:Nat) (s x:Opd)
 | build (zero:List HV) (parts:List (Nat×Nat×Opd))
 | bsl (fz:Bool) (e:Nat) (ek:Option Nat) (zero:List CV) (len:Nat) (parts:List (Nat×Opd))
 | lbox (ek:Option Nat) (x:Opd)
 | hbox (ek:Option Nat) (x:Opd)
 | fbox (ek:Option Nat) (x:Opd)
 | b2s (x:Opd)
 | cvs (x:Opd)
 | call (f:Nat) (args:List Opd)
 | callv (x:Opd) (args:List Opd)
 | mkf (f:Nat) (first cap:List Opd)
 | ext (x:Opd) (i:Nat)
 | cvt (k:IntKind) (x:Opd)
 | isn (neg:Bool) (k:Nat) (x:Opd)
 | tyck (T n:Nat) (x:Opd)
 | peq (x y:Opd)
 | rowck (e:Nat) (x:Opd)
 | mx (isMax:Bool) (x y:Opd)
structure IOper where
 dst:Option Nat
 guard:Option (Nat×Bool)
 op:IOp
inductive Cls where
 | pure
 | rdb
 | wrb
 | rd
 | wr
 | hb
 | lb
 deriving DecidableEq
inductive ICode where
 | skip
 | region (ops:List IOper)
 | regionD (ops:List (Cls×IOper))
 | seq (a b:ICode)
 | cond (c:Opd) (thn els:ICode)
 | block (id:Nat) (body:ICode)
 | loop (live:List Nat) (body:ICode)
 | exit (id:Nat)
 | scope (l:Nat) (live:List Nat) (body rest:ICode)
 | label (l:Nat)
 | keep (live:List Nat)
 | goto (l:Nat)
 | ret
inductive IRes where
 | tmp (t:Nat)
 | cell (a:Nat) (ek:Option Nat)
structure IFn where
 body:ICode
 res:List IRes
inductive Md where
 | P
 | S
 deriving DecidableEq
structure Env where
 fn:Nat->Option IFn
 md:Nat->Md
 ext:Nat->Option (List CV->Option (List CV)):=fun _=>none
 ar:Nat->Option Nat:=fun _=>none
def Z2 (a:Option Nat) (n:Nat) (o:Option IFn):Option IFn:=match a with
 | none=>o
 | some k=>if k=n then o else none
theorem fW {a:Option Nat} {n:Nat} {o:Option IFn} {g:IFn} (h:Z2 a n o=some g):o=some g/\∀ k,a=some k->n=k:=by
 unfold Z2 at h;split at h
 . exact ⟨h,fun k hk=>by cases hk⟩
 . rename_i k;split at h
   . rename_i hk;exact ⟨h,fun j hj=>by injection hj with hj;omega⟩
   . cases h
abbrev Env.fnA (E:Env) (f n:Nat):Option IFn:=Z2 (E.ar f) n (E.fn f)
def eqL:List Nat->List CV->List CV->Option Bool
 | [],[],[]=>some true
 | 0::ks,.bool a::r,.bool b::s=>match eqL ks r s with
   | some x=>some (a==b&&x)
   | none=>none
 | 1::ks,.int k a::r,.int k' b::s=>if k=k' then match eqL ks r s with
    | some x=>some (a==b&&x)
    | none=>none
   else none
 | 2::ks,.str a::r,.str b::s=>match eqL ks r s with
   | some x=>some (a==b&&x)
   | none=>none
 | _,_,_=>none
def S5 (op:BinOp) (x y:CV):Option CV:=
 match x,y with
 | .int k a,.int k' b=>
   match op with
   | .add=>if k=k' then some (.int k (k.wrap (a+b))) else none
   | .sub=>if k=k' then some (.int k (k.wrap (a - b))) else none
   | .mul=>if k=k' then some (.int k (k.wrap (a * b))) else none
   | .quo=>if k=k'/\b≠0 then some (.int k (k.wrap (a.tdiv b))) else none
   | .rem=>if k=k'/\b≠0 then some (.int k (a.tmod b)) else none
   | .eql=>if k=k' then some (.bool (a==b)) else none
   | .neq=>if k=k' then some (.bool (a != b)) else none
   | .lss=>if k=k' then some (.bool (decide (a<b))) else none
   | .leq=>if k=k' then some (.bool (decide (a<=b))) else none
   | .gtr=>if k=k' then some (.bool (decide (b<a))) else none
   | .geq=>if k=k' then some (.bool (decide (b<=a))) else none
   | .and=>if k=k' then some (.int k (k.wrap (BitVec.ofInt k.bits a &&& BitVec.ofInt k.bits b).toNat)) else none
   | .or=>if k=k' then some (.int k (k.wrap (BitVec.ofInt k.bits a ||| BitVec.ofInt k.bits b).toNat)) else none
   | .xor=>if k=k' then some (.int k (k.wrap (BitVec.ofInt k.bits a ^^^ BitVec.ofInt k.bits b).toNat)) else none
   | .andNot=>if k=k' then some (.int k (k.wrap (BitVec.ofInt k.bits a &&& ~~~(BitVec.ofInt k.bits b)).toNat)) else none
   | .shl=>if 0<=b then some (.int k (k.wrap (a * 2 ^ (min b.toNat k.bits)))) else none
   | .shr=>if 0<=b then some (.int k (a.fdiv (2 ^ (min b.toNat k.bits)))) else none
 | .str a,.str b=>
   match op with
   | .add=>if a.length+b.length<=9223372036854775807 then some (.str (a++b)) else none
   | .eql=>some (.bool (a==b))
   | .neq=>some (.bool (!(a==b)))
   | .lss=>some (.bool (Op.bytesLess a b))
   | .leq=>some (.bool (Op.bytesLess a b||a==b))
   | .gtr=>some (.bool (!(Op.bytesLess a b||a==b)))
   | .geq=>some (.bool (!(Op.bytesLess a b)))
   | _=>none
 | _,_=>none
def unC (op:UnOp) (x:CV):Option CV:=
 match op,x with
 | .not,.bool b=>some (.bool (!b))
 | .neg,.int k n=>some (.int k (k.wrap (0 - n)))
 | _,_=>none
def G2 (ek:Option Nat) (cs:List HV) (off:Nat):Option HV:=
 match ek with
 | none=>cs[off]?
 | some n=>if off+n<=cs.length then some (X0 ((cs.drop off).take n)) else none
def gG (ek:Option Nat) (cs:List CV) (off:Nat):Option CV:=
 match ek with
 | none=>cs[off]?
 | some n=>if off+n<=cs.length then some (.agg ((cs.drop off).take n)) else none
def P4 (ek' ek:Option Nat) (x:CV) (off:Nat):Option CV:=
 if off=0/\ek'=ek then some x else gG ek x.flat off
def H9 (cs:List HV) (off:Nat) (new:List HV):List HV:=cs.take off++new++cs.drop (off+new.length)
def uH (cs:List CV) (off:Nat) (new:List CV):List CV:=cs.take off++new++cs.drop (off+new.length)
def fits:Option Nat->CV->Bool
 | none,.agg _=>false
 | none,_=>true
 | some n,.agg cs=>cs.length==n
 | some _,_=>false
def G4:Option Nat->HV->Bool
 | ek,.c v=>fits ek v
 | some n,.agg cs=>cs.length==n
 | none,.nils=>true
 | none,.sl _ _ _ _=>true
 | none,.ptr _ _=>true
 | none,.eptr _ _ _ _=>true
 | none,.fn _ _ _=>true
 | none,.iface _ _=>true
 | _,_=>false
def J1 (ek:Option Nat) (cs:List CV):Option CV:=match ek with
 | none=>cs[0]?
 | some _=>some (.agg cs)
def wH (ek:Option Nat) (cs:List HV):Option HV:=match ek with
 | none=>cs[0]?
 | some _=>some (X0 cs)
def F4 (H:j6):HV->Option CV
 | .c v=>some v
 | .nils=>some (.frz none [])
 | .sl id ver off len=>match H[id]? with
   | some (.row _ _ ek ver' xs)=>if ver=ver'/\off+len<=xs.length then some (.frz ek ((xs.drop off).take len)) else none
   | _=>none
 | _=>none
def F6 (H:j6):List HV->Option (List CV)
 | []=>some []
 | x::r=>match F4 H x,F6 H r with
   | some a,some b=>some (a::b)
   | _,_=>none
def D2 (H:j6):HV->Option CV
 | .agg cs=>match F6 H cs with
   | some l=>some (.agg l)
   | none=>none
 | .iface t (.agg cs)=>match F6 H cs with
   | some l=>some (.iface t (.agg l))
   | none=>none
 | .iface t v=>match F4 H v with
   | some x=>some (.iface t x)
   | none=>none
 | v=>F4 H v
def U5 (H:j6):HV->Option CV
 | .ptr id off=>match H[id]? with
   | some (.var ek cs)=>match F6 H cs with
     | some l=>if l.length=g7 ek then match J1 ek l with
       | some x=>some (.fptr ek x off)
       | none=>none
       else none
     | none=>none
   | _=>none
 | v=>D2 H v
def O8 (H:j6):List HV->Option (List CV)
 | []=>some []
 | x::r=>match U5 H x,O8 H r with
   | some a,some b=>some (a::b)
   | _,_=>none
def thaw (H:j6):HV->Option CV
 | .fn f first cap=>match O8 H first,O8 H cap with
   | some a,some b=>some (.fn f a b)
   | _,_=>none
 | v=>U5 H v
def Y7 (id:Nat) (H:j6):j6:=match H[id]? with
 | some (.row _ e ek ver xs)=>H.set id (.row true e ek ver xs)
 | _=>H
def G5:List HV->j6->j6
 | [],H=>H
 | .sl id _ _ _::r,H=>G5 r (Y7 id H)
 | _::r,H=>G5 r H
def U0 (v:HV) (H:j6):j6:=match v with
 | .agg cs=>G5 cs H
 | .iface _ (.agg cs)=>G5 cs H
 | .iface _ v=>G5 [v] H
 | v=>G5 [v] H
def W4:List HV->j6->j6
 | [],H=>H
 | v::r,H=>W4 r (U0 v H)
def P1 (v:HV) (H:j6):Option (CV×j6):=match v with
 | .c u=>some (u,H)
 | v=>match D2 H v with
   | some u=>some (u,U0 v H)
   | none=>none
def Z8:CV->Bool
 | .bool _ | .int _ _ | .str _=>true
 | _=>false
def noRef:HV->Bool
 | .c (.agg l)=>l.all Z8
 | .c v=>Z8 v
 | .tup vs=>noRefL vs
 | _=>false
where noRefL:List HV->Bool
 | []=>true
 | .c (.agg l)::r=>l.all Z8&&noRefL r
 | .c v::r=>Z8 v&&noRefL r
 | _::_=>false
def isC:HV->Bool
 | .c _=>true
 | .nils=>true
 | _=>false
def J0 (H:j6):List HV->Option (List HV)
 | []=>some []
 | x::r=>match thaw H x,J0 H r with
   | some a,some b=>some (.c a::b)
   | _,_=>none
def jQ (H:j6):List HV->Option (List HV)
 | []=>some []
 | x::r=>match D2 H x,jQ H r with
   | some a,some b=>some (.c a::b)
   | _,_=>none
def qD (H:j6):HV->Option HV
 | .tup vs=>(jQ H vs).map .tup
 | v=>(D2 H v).map .c
def jP:HV->Bool
 | .fn _ _ _=>false
 | .ptr _ _=>false
 | _=>true
abbrev f7:=Nat->List HV->j6->Option (HV×j6)
def G6 (E:Env) (e:f7) (f:Nat) (args:List HV) (H:j6):Option (HV×j6):=
 match E.md f with
 | .S=>e f args H
 | .P=>match J0 H args with
   | none=>none
   | some a5=>match e f a5 [] with
     | none=>none
     | some (r,H')=>match qD H' r with
       | none=>none
       | some r'=>if args.all isC||noRef r' then some (r',H) else if args.all jP then some (r',W4 args H) else none
def Fr.put (fr:Fr) (dst:Option Nat) (v:HV):Fr:=
 match dst with
 | none=>fr
 | some d=>{ env:=upd fr.env d v,al:=upd fr.al d none }
def Fr.link (fr:Fr) (dst:Option Nat) (b off:Nat):Fr:=
 match dst with
 | none=>fr
 | some d=>{ env:=upd fr.env d .undef,al:=upd fr.al d (some (b,off)) }
def zG (dst:Option Nat) (b off:Nat) (fr:Fr) (H:j6):Option (Fr×j6):=if dst=some b then none else some (fr.link dst b off,H)
def Fr.place (fr:Fr) (x:Opd):Option (Nat×Nat):=
 match x with
 | .k _=>none
 | .t i=>match fr.al i with
   | some (b,off)=>match fr.env b with
     | .lbox _ _=>some (b,off)
     | _=>none
   | none=>match fr.env i with
     | .lbox _ _=>some (i,0)
     | _=>none
def qI:HV->Option Int
 | .c (.int _ n)=>some n
 | _=>none
def qj4:HV->Option Bool
 | .c (.bool b)=>some b
 | _=>none
def gP (st:Bool):HV->Option Nat
 | .c (.str s)=>if st then some s.length else none
 | .c (.frz _ xs)=>if st then none else some xs.length
 | .nils=>if st then none else some 0
 | .sl _ _ _ n=>if st then none else some n
 | _=>none
def ixH (ek:Option Nat) (x:HV) (i:Int) (H:j6):Option HV:=
 match x with
 | .c (.frz ek' xs)=>if ek'=ek/\0<=i then match xs[i.toNat]? with
    | some v=>some (.c (.fptr ek v 0))
    | none=>none
   else none
 | .sl id ver off len=>match H[id]? with
   | some (.row _ _ ek' ver' _)=>if ek'=ek/\ver'=ver/\0<=i/\i<len then some (.eptr id ver (off+i.toNat) 0) else none
   | _=>none
 | _=>none
def B7 (ek:Option Nat) (p:HV) (H:j6):Option HV:=
 match p with
 | .c (.fptr ek' x off)=>(P4 ek' ek x off).map .c
 | .ptr id off=>match H[id]? with
   | some (.var _ cs)=>G2 ek cs off
   | _=>none
 | .eptr id ver i off=>match H[id]? with
   | some (.row _ _ ek' ver' xs)=>if ver'=ver then match xs[i]? with
      | some x=>(P4 ek' ek x off).map .c
      | none=>none
     else none
   | _=>none
 | _=>none
def T0 (ek:Option Nat) (p:HV) (v:HV) (H:j6):Option j6:=
 match p with
 | .ptr id off=>match H[id]? with
   | some (.var ek' cs)=>if G4 ek v=true/\off+v.flat.length<=cs.length then some (H.set id (.var ek' (H9 cs off v.flat))) else none
   | _=>none
 | .eptr id ver i off=>match P1 v H with
   | some (u,H')=>match H'[id]? with
     | some (.row false e ek' ver' xs)=>if ver'=ver/\fits ek u=true then match xs[i]? with
        | some x=>
          if off=0/\ek'=ek then some (H'.set id (.row false e ek' ver (xs.set i u)))
          else if off+u.flat.length<=x.flat.length then
           match J1 ek' (uH x.flat off u.flat) with
           | some x'=>if fits ek' x'=true then some (H'.set id (.row false e ek' ver (xs.set i x'))) else none
           | none=>none
          else none
        | none=>none
       else none
     | _=>none
   | none=>none
 | _=>none
def U9 (st:Bool) (ek:Option Nat) (x:HV) (lo hi:Option Int) (H:j6):Option HV:=
 match x with
 | .c (.str s)=>
   let l:=lo.getD 0
   let h:=hi.getD s.length
   if st=true/\0<=l/\l<=h/\h<=s.length then some (.c (.str ((s.drop l.toNat).take (h.toNat - l.toNat)))) else none
 | .c (.frz ek' xs)=>
   let l:=lo.getD 0
   let h:=hi.getD xs.length
   if st=false/\(ek'=ek\/xs=[])/\0<=l/\l<=h/\h<=xs.length then some (.c (.frz ek' ((xs.drop l.toNat).take (h.toNat - l.toNat)))) else none
 | .nils=>
   let l:=lo.getD 0
   let h:=hi.getD 0
   if st=false/\0<=l/\l<=h/\h<=0 then some .nils else none
 | .sl id ver off n=>match H[id]? with
   | some (.row _ _ ek' ver' _)=>if ver'=ver/\ek'=ek then
     let l:=lo.getD 0
     let h:=hi.getD n
     if st=false/\0<=l/\l<=h/\h<=n then some (.sl id ver (off+l.toNat) (h.toNat - l.toNat)) else none
     else none
   | _=>none
 | _=>none
def S4 (ek:Option Nat) (x:HV) (H:j6):Option (List CV):=
 match x with
 | .nils=>some []
 | .c (.frz _ [])=>some []
 | .c (.frz ek' xs)=>if ek'=ek then some xs else none
 | .sl id ver off len=>match H[id]? with
   | some (.row _ _ ek' ver' xs)=>if ek'=ek/\ver=ver'/\off+len<=xs.length then some ((xs.drop off).take len) else none
   | _=>none
 | _=>none
def lim:Nat:=140737488355328
def xW:Nat:=1048576
def zp0 (n T:Nat):Option Nat:=some (n+xW * (T+1))
def S6:Option Nat->Option Nat
 | some n=>if xW<=n then some (n / xW - 1) else none
 | none=>none
def ekB:Option Nat->Option Nat
 | some n=>some (n % xW)
 | none=>none
def qT (k:Nat):CV->Option Bool
 | .nilp=>if k=0 then some true else none
 | .fptr _ _ _=>if k=0 then some false else none
 | .nili=>if k=1 then some true else none
 | .iface _ _=>if k=1 then some false else none
 | .opq=>if k=1 then some false else none
 | .nilfn=>if k=2 then some true else none
 | .fn _ _ _=>if k=2 then some false else none
 | .frz _ (_::_)=>if k=3 then some false else none
 | _=>none
def zX (k:Nat):HV->Option Bool
 | .c v=>qT k v
 | .ptr _ _=>if k=0 then some false else none
 | .eptr _ _ _ _=>if k=0 then some false else none
 | .iface _ _=>if k=1 then some false else none
 | .fn _ _ _=>if k=2 then some false else none
 | .nils=>if k=3 then some true else none
 | .sl _ _ _ _=>if k=3 then some false else none
 | _=>none
def vS:List CV->Bool
 | []=>true
 | .int .u8 n::r=>decide (0<=n/\n<256)&&vS r
 | _=>false
def bytesV (s:List UInt8):List CV:=s.map fun b=>.int .u8 b.toNat
def xY (ek:Option Nat) (x:HV) (H:j6):Option (List CV):=match x with
 | .c (.str s)=>if ek=none then some (bytesV s) else none
 | x=>S4 ek x H
def appH (e:Nat) (ek:Option Nat) (bytes:Nat) (s x:HV) (H:j6):Option (HV×j6):=
 match xY ek x H with
 | none=>none
 | some new=>match s with
   | .nils=>if new=[] then some (.nils,H) else if new.length * bytes<=lim/\new.length<=lim then some (.sl H.length 0 0 new.length,H++[.row false e ek 0 new]) else none
   | .sl id ver 0 n=>match H[id]? with
     | some (.row false e' ek' ver' xs)=>
       if e'=e/\ek'=ek/\ver'=ver/\n<=xs.length/\(n+new.length) * bytes<=lim/\n+new.length<=lim then
        some (.sl id (ver+1) 0 (n+new.length),H.set id (.row false e ek (ver+1) (xs.take n++new)))
       else none
     | _=>none
   | _=>none
def xF (n:Nat) (v:HV):Bool:=G4 (some n) v||(n==1&&G4 none v)
def jH (cs:List HV):List (Nat×Nat×HV)->Option (List HV)
 | []=>some cs
 | (off,n,v)::r=>if xF n v=true/\off+n<=cs.length then jH (H9 cs off v.flat) r else none
def N9 (ek:Option Nat) (xs:List CV) (H:j6):List (Nat×HV)->Option (List CV×j6)
 | []=>some (xs,H)
 | (i,v)::r=>match P1 v H with
   | some (u,H')=>if i<xs.length/\fits ek u=true then N9 ek (xs.set i u) H' r else none
   | none=>none
def M3:List CV->Option (List UInt8)
 | []=>some []
 | .int .u8 n::r=>match M3 r with
   | some l=>some (UInt8.ofNat n.toNat::l)
   | none=>none
 | _=>none
def N8 (fr:Fr):Option Opd->Option (Option Int)
 | none=>some none
 | some x=>match qI (fr.opd x) with
   | some i=>some (some i)
   | none=>none
def x4 (o:IOp) (dst:Option Nat) (fr:Fr) (H:j6):Option (Fr×j6):=
 match o with
 | .mv x=>match fr.place x with
   | some (b,off)=>zG dst b off fr H
   | none=>some (fr.put dst (fr.opd x),H)
 | .un op x=>match fr.opd x with
   | .c a=>match unC op a with
     | some v=>some (fr.put dst (.c v),H)
     | none=>none
   | _=>none
 | .bin op x y=>match fr.opd x,fr.opd y with
   | .c a,.c b=>match S5 op a b with
     | some v=>some (fr.put dst (.c v),H)
     | none=>none
   | _,_=>none
 | .eqs neg ks x y=>match fr.opd x,fr.opd y with
   | .c (.agg a),.c (.agg b)=>match eqL ks a b with
     | some v=>some (fr.put dst (.c (.bool (if neg then !v else v))),H)
     | none=>none
   | _,_=>none
 | .eqb neg x y=>match fr.opd x,fr.opd y with
   | .c (.bool a),.c (.bool b)=>some (fr.put dst (.c (.bool (if neg then !(a==b) else a==b))),H)
   | _,_=>none
 | .pick c a b=>match fr.opd c with
   | .c (.bool t)=>some (fr.put dst (if t then fr.opd a else fr.opd b),H)
   | _=>none
 | .load ek a=>match fr.place a with
   | some (b,off)=>match fr.env b with
     | .lbox ek' x=>match (if off=0/\ek'=ek then some x else G2 ek x.flat off) with
       | some v=>some (fr.put dst v,H)
       | none=>none
     | _=>none
   | none=>match B7 ek (fr.opd a) H with
     | some v=>some (fr.put dst v,H)
     | none=>none
 | .store ek a x=>match fr.place a with
   | some (b,off)=>match fr.env b with
     | .lbox ek' x0=>
       let v:=fr.opd x
       if G4 ek v=true then
        if off=0/\ek'=ek then some ({ fr with env:=upd fr.env b (.lbox ek' v) },H)
        else if off+v.flat.length<=x0.flat.length then
         match wH ek' (H9 x0.flat off v.flat) with
         | some x'=>if G4 ek' x'=true then some ({ fr with env:=upd fr.env b (.lbox ek' x') },H) else none
         | none=>none
        else none
       else none
     | _=>none
   | none=>match T0 ek (fr.opd a) (fr.opd x) H with
     | some H'=>some (fr,H')
     | none=>none
 | .faddr n a=>match fr.place a with
   | some (b,off)=>zG dst b (off+n) fr H
   | none=>match fr.opd a with
     | .ptr id off=>some (fr.put dst (.ptr id (off+n)),H)
     | .eptr id ver i off=>some (fr.put dst (.eptr id ver i (off+n)),H)
     | .c (.fptr ek x off)=>some (fr.put dst (.c (.fptr ek x (off+n))),H)
     | _=>none
 | .nck a=>match fr.place a with
   | some (b,off)=>zG dst b off fr H
   | none=>match fr.opd a with
     | .ptr id off=>some (fr.put dst (.ptr id off),H)
     | .eptr id ver i off=>some (fr.put dst (.eptr id ver i off),H)
     | .c (.fptr ek x off)=>some (fr.put dst (.c (.fptr ek x off)),H)
     | _=>none
 | .fld ek off x=>match qU (fr.opd x) with
   | some cs=>match G2 ek cs off with
     | some v=>some (fr.put dst v,H)
     | none=>none
   | none=>none
 | .cvs x=>match fr.opd x with
   | .c (.str s)=>some (fr.put dst (.c (.str s)),H)
   | _=>none
 | .ix ek x i=>match qI (fr.opd i) with
   | some n=>match ixH ek (fr.opd x) n H with
     | some v=>some (fr.put dst v,H)
     | none=>none
   | none=>none
 | .six x i=>match fr.opd x,qI (fr.opd i) with
   | .c (.str s),some n=>if 0<=n then match s[n.toNat]? with
      | some b=>some (fr.put dst (.c (.int .u8 b.toNat)),H)
      | none=>none
     else none
   | _,_=>none
 | .slc st ek x lo hi=>match N8 fr lo,N8 fr hi with
   | some l,some h=>match U9 st ek (fr.opd x) l h H with
     | some v=>some (fr.put dst v,H)
     | none=>none
   | _,_=>none
 | .len st x=>match gP st (fr.opd x) with
   | some n=>some (fr.put dst (.c (.int .i64 n)),H)
   | none=>none
 | .app e ek bytes s x=>match appH e ek bytes (fr.opd s) (fr.opd x) H with
   | some (v,H')=>some (fr.put dst v,H')
   | none=>none
 | .build zero parts=>match jH zero (parts.map fun p=>(p.1,p.2.1,fr.opd p.2.2)) with
   | some cs=>some (fr.put dst (X0 cs),H)
   | none=>none
 | .bsl fz e ek zero n parts=>match J1 ek zero with
   | some z=>if fits ek z=true then match N9 ek (List.replicate n z) H (parts.map fun p=>(p.1,fr.opd p.2)) with
     | some (xs,H')=>if fz then some (fr.put dst (.c (.frz ek xs)),H') else some (fr.put dst (.sl H'.length 0 0 n),H'++[.row false e ek 0 xs])
     | none=>none
     else none
   | none=>none
 | .lbox ek x=>match dst with
   | some d=>if G4 ek (fr.opd x)=true then some ({ env:=upd fr.env d (.lbox ek (fr.opd x)),al:=unlink d fr.al },H) else none
   | none=>none
 | .hbox ek x=>if G4 (ekB ek) (fr.opd x)=true then some (fr.put dst (.ptr H.length 0),H++[.var ek (fr.opd x).flat]) else none
 | .fbox ek x=>match fr.opd x with
   | .c v=>if fits ek v=true then some (fr.put dst (.c (.fptr ek v 0)),H) else none
   | _=>none
 | .b2s x=>match (S4 none (fr.opd x) H).bind M3 with
   | some l=>some (fr.put dst (.c (.str l)),H)
   | none=>none
 | .mkf f first cap=>some (fr.put dst (match F5 (first.map fr.opd),F5 (cap.map fr.opd) with
    | some a,some b=>.c (.fn f a b)
    | _,_=>.fn f (first.map fr.opd) (cap.map fr.opd)),H)
 | .ext x i=>match fr.opd x with
   | .tup vs=>match vs[i]? with
     | some v=>some (fr.put dst v,H)
     | none=>none
   | _=>none
 | .tyck T n x=>match fr.opd x with
   | .ptr id 0=>match H[id]? with
     | some (.var ek cs)=>if S6 ek=some T/\cs.length=n then some (fr.put dst (.ptr id 0),H) else none
     | _=>none
   | _=>none
 | .rowck e x=>match fr.opd x with
   | .nils=>some (fr.put dst (.c (.bool true)),H)
   | .sl id ver 0 len=>match H[id]? with
     | some (.row _ e' none ver' xs)=>if e'=e/\ver'=ver/\0<len/\len<=xs.length/\vS (xs.take len)=true then some (fr.put dst (.c (.bool false)),H) else none
     | _=>none
   | _=>none
 | .peq x y=>match fr.opd x,fr.opd y with
   | .ptr i a,.ptr j b=>some (fr.put dst (.c (.bool (decide (i=j/\a=b)))),H)
   | _,_=>none
 | .isn neg k x=>match zX k (fr.opd x) with
   | some b=>some (fr.put dst (.c (.bool (if neg then !b else b))),H)
   | none=>none
 | .cvt k x=>match fr.opd x with
   | .c (.int _ n)=>some (fr.put dst (.c (.int k (k.wrap n))),H)
   | _=>none
 | .mx isMax x y=>match fr.opd x,fr.opd y with
   | .c (.int k a),.c (.int _ b)=>some (fr.put dst (.c (.int k (if isMax then max a b else min a b))),H)
   | _,_=>none
 | .call _ _=>none
 | .callv _ _=>none
section
variable (E:Env) (call:f7)
def xQ (v:HV) (args:List HV):Option (Nat×List HV):=
 match v with
 | .c (.fn f first cap)=>some (f,first.map .c++args++cap.map .c)
 | .fn f first cap=>some (f,first++args++cap)
 | _=>none
def S2 (dst:Option Nat) (fr:Fr):Option (HV×j6)->Option (Fr×j6)
 | some (v,H')=>some (fr.put dst v,H')
 | none=>none
def i8 (o:IOp) (dst:Option Nat) (fr:Fr) (H:j6):Option (Fr×j6):=
 match o with
 | .call f args=>S2 dst fr (G6 E call f (args.map fr.opd) H)
 | .callv x args=>match xQ (fr.opd x) (args.map fr.opd) with
   | some (f,a5)=>S2 dst fr (G6 E call f a5 H)
   | none=>none
 | o=>x4 o dst fr H
def stp (o:IOper) (fr:Fr) (H:j6):Option (Fr×j6):=
 match o.guard with
 | none=>i8 E call o.op o.dst fr H
 | some (s,want)=>match fr.env s with
   | .c (.bool b)=>if b=want then i8 E call o.op o.dst fr H else some (fr.put o.dst .skipv,H)
   | .skipv=>some (fr.put o.dst .skipv,H)
   | _=>none
def C6:List IOper->Fr->j6->Option (Fr×j6)
 | [],fr,H=>some (fr,H)
 | o::r,fr,H=>match stp E call o fr H with
   | some (fr',H')=>C6 r fr' H'
   | none=>none
def Q5:IOp->Bool
 | .mv _ | .un _ _ | .bin _ _ _ | .eqs _ _ _ _ | .eqb _ _ _ | .pick _ _ _ | .faddr _ _ | .nck _ | .fld _ _ _ | .cvs _ | .fbox _ _ | .six _ _ | .len _ _ | .build _ _ | .mkf _ _ _ | .ext _ _ | .cvt _ _ | .mx _ _ _ | .isn _ _ _=>true
 | _=>false
def Z4 (fr:Fr):Option Nat->Bool
 | none=>true
 | some d=>match fr.env d with
   | .lbox _ _=>false
   | _=>true
def doD (c:Cls) (o:IOp) (dst:Option Nat) (fr:Fr) (H:j6):Option (Fr×j6):=
 match c with
 | .pure=>match o with
   | .bsl fz e ek z n ps=>if fz=true/\(ps.all fun p=>(D2 [] (fr.opd p.2)).isSome)=true then x4 (.bsl fz e ek z n ps) dst fr H else none
   | o=>if Q5 o=true then x4 o dst fr H else none
 | .rdb=>match o with
   | .load ek a=>if (fr.place a).isSome=true then x4 (.load ek a) dst fr H else none
   | _=>none
 | .wrb=>match o with
   | .store ek a x=>if (fr.place a).isSome=true/\dst=none then x4 (.store ek a x) dst fr H else none
   | _=>none
 | .rd=>match o with
   | .load ek a=>if (fr.place a).isSome=true then none else x4 (.load ek a) dst fr H
   | .ix ek x i=>x4 (.ix ek x i) dst fr H
   | .slc st ek x lo hi=>x4 (.slc st ek x lo hi) dst fr H
   | .call f args=>if E.md f=.P then match G6 E call f (args.map fr.opd) H with
      | some (v,_)=>if noRef v=true\/(args.map fr.opd).all isC=true then some (fr.put dst v,H) else none
      | none=>none
     else none
   | _=>none
 | .wr=>match o with
   | .store ek a x=>if (fr.place a).isSome=true\/dst≠none then none else x4 (.store ek a x) dst fr H
   | .app e ek n s x=>x4 (.app e ek n s x) dst fr H
   | .bsl fz e ek z n ps=>x4 (.bsl fz e ek z n ps) dst fr H
   | .call f args=>i8 E call (.call f args) dst fr H
   | .callv x args=>i8 E call (.callv x args) dst fr H
   | _=>none
 | .hb=>match o with
   | .hbox ek x=>x4 (.hbox ek x) dst fr H
   | _=>none
 | .lb=>match o with
   | .lbox ek x=>x4 (.lbox ek x) dst fr H
   | _=>none
def M8 (c:Cls) (o:IOper) (fr:Fr) (H:j6):Option (Fr×j6):=
 match o.guard with
 | none=>doD E call c o.op o.dst fr H
 | some (s,want)=>match fr.env s with
   | .c (.bool b)=>if b=want then doD E call c o.op o.dst fr H else some (fr.put o.dst .skipv,H)
   | .skipv=>some (fr.put o.dst .skipv,H)
   | _=>none
def I3 (c:Cls) (o:IOper) (fr:Fr) (H:j6):Option (Fr×j6):=
 if Z4 fr o.dst=true then match M8 E call c o fr H with
  | some (fr',H')=>if c=.lb\/Z4 fr' o.dst=true then some (fr',H') else none
  | none=>none
 else none
def X5:List (Cls×IOper)->Fr->j6->Option (Fr×j6)
 | [],fr,H=>some (fr,H)
 | (c,o)::r,fr,H=>match I3 E call c o fr H with
   | some (fr',H')=>X5 r fr' H'
   | none=>none
inductive Ex where
 | nrm
 | exit (id:Nat)
 | goto (l:Nat)
 | ret
abbrev Run:=Fr->j6->Option (Ex×Fr×j6)
def V0 (l:Nat):Option (Ex×Fr×j6)->Option (Ex×Fr×j6)
 | some (.goto l',fr,H)=>if l'=l then some (.nrm,fr,H) else none
 | some (.nrm,fr,H)=>some (.goto l,fr,H)
 | r=>r
def Y3 (l:Nat):Option (Ex×Fr×j6)->Option (Ex×Fr×j6)
 | some (.goto l',fr,H)=>if l'=l then some (.nrm,fr,H) else some (.goto l',fr,H)
 | r=>r
variable (it:Run->Run)
def evC:ICode->Run
 | .skip,fr,H=>some (.nrm,fr,H)
 | .region ops,fr,H=>match C6 E call ops { fr with al:=f0 } H with
   | some (fr',H')=>some (.nrm,fr',H')
   | none=>none
 | .regionD ops,fr,H=>match X5 E call ops { fr with al:=f0 } H with
   | some (fr',H')=>some (.nrm,fr',H')
   | none=>none
 | .seq a b,fr,H=>match evC a fr H with
   | some (.nrm,fr',H')=>evC b fr' H'
   | r=>r
 | .cond c x y,fr,H=>match fr.opd c with
   | .c (.bool b)=>if b then evC x fr H else evC y fr H
   | _=>none
 | .block id body,fr,H=>match evC body fr H with
   | some (.exit i,fr',H')=>if i=id then some (.nrm,fr',H') else some (.exit i,fr',H')
   | r=>r
 | .loop live body,fr,H=>it (fun fr H=>evC body (keep live fr) H) fr H
 | .exit id,fr,H=>some (.exit id,fr,H)
 | .scope l live body rest,fr,H=>match evC body fr H with
   | some (.goto l',fr',H')=>if l'=l then Y3 l (it (fun fr H=>V0 l (evC rest (keep live fr) H)) fr' H') else none
   | r=>r
 | .label _,fr,H=>some (.nrm,fr,H)
 | .keep live,fr,H=>some (.nrm,keep live fr,H)
 | .goto l,fr,H=>some (.goto l,fr,H)
 | .ret,fr,H=>some (.ret,fr,H)
def J3 (fr:Fr) (H:j6):List IRes->Option (List HV)
 | []=>some []
 | .tmp t::r=>match J3 fr H r with
   | some l=>some (B9 (fr.env t)::l)
   | none=>none
 | .cell a ek::r=>
   match (match fr.env a with
    | .lbox ek' x=>if ek'=ek then some x else none
    | p=>B7 ek p H),J3 fr H r with
   | some v,some l=>some (v::l)
   | _,_=>none
def oneOf:List HV->HV
 | [v]=>v
 | vs=>.tup vs
def binds (i:Nat):List HV->List (Nat×HV)
 | []=>[]
 | v::r=>(i,v)::binds (i+1) r
def gX (args:List HV) (H:j6):Option (List CV->Option (List CV))->Option (HV×j6)
 | none=>none
 | some g=>match F5 args with
   | some xs=>match g xs with
     | some us=>some (oneOf (us.map .c),H)
     | none=>none
   | none=>none
def U4 (f:Nat) (args:List HV) (H:j6):Option (HV×j6):=
 match E.fnA f args.length with
 | none=>gX args H (E.ext f)
 | some g=>match evC E call it g.body { env:=o9 (binds 0 args),al:=f0 } H with
   | some (.nrm,fr,H') | some (.ret,fr,H')=>match J3 fr H' g.res with
     | some vs=>some (oneOf vs,H')
     | none=>none
   | _=>none
end
def itF:Nat->Run->Run
 | 0,_,_,_=>none
 | n+1,s,fr,H=>match s fr H with
   | some (.nrm,fr',H')=>itF n s fr' H'
   | r=>r
def evF (E:Env):Nat->f7
 | 0,_,_,_=>none
 | n+1,f,args,H=>U4 E (evF E n) (itF n) f args H
end Go.Proofs.Lz
