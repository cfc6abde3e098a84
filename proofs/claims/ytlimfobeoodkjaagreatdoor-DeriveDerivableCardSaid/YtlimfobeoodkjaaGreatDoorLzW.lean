/- The evaluator once more, with slices of one's own held a5 values in their places: definitions. -/
import Derived.Test.YtlimfobeoodkjaaGreatDoorLzEv
namespace Go.Proofs.Lz
inductive Pl where
 | sl (s i k:Nat)
 | hp (id k:Nat)
 | tmp (i k:Nat)
 deriving DecidableEq
inductive WV where
 | c (v:CV)
 | agg (cs:List WV)
 | tup (vs:List WV)
 | nils
 | own (b:Bool) (e:Nat) (ek:Option Nat) (xs:List CV)
 | view (pl:Pl) (b:Bool) (off:Nat) (e:Nat) (ek:Option Nat) (xs:List CV)
 | imm (fz:Bool) (ek:Option Nat) (xs:List CV)
 | ptr (id off:Nat)
 | eptr (pl:Pl) (i off:Nat) (ek:Option Nat) (x:CV)
 | iptr (fz:Bool) (ek:Option Nat) (x:CV) (off:Nat)
 | lbox (ek:Option Nat) (v:WV)
 | fn (f:Nat) (first cap:List WV)
 | skipv
 | undef
 | gone
 deriving Inhabited
inductive WO where
 | var (ek:Option Nat) (cs:List WV)
abbrev q8:=List WO
structure WFr where
 env:Nat->WV
 al:Nat->Option (Nat×Nat)
def o0:List (Nat×WV)->Nat->WV
 | [],_=>.undef
 | (t,v)::r,s=>if s=t then v else o0 r s
def A0 (pl:Pl):WV->WV
 | .own b e ek xs=>.view pl b 0 e ek xs
 | v=>v
def V0 (q:Nat->Pl):Nat->List WV->List WV
 | _,[]=>[]
 | k,v::r=>A0 (q k) v::V0 q (k+1) r
def i7 (q:Nat->Pl):WV->WV
 | .agg cs=>.agg (V0 q 0 cs)
 | v=>A0 (q 0) v
def zB (q:Nat->Nat->Pl):Nat->List WV->List WV
 | _,[]=>[]
 | i,v::r=>i7 (q i) v::zB q (i+1) r
def peek (q:Nat->Nat->Pl):WV->WV
 | .tup vs=>.tup (zB q 0 vs)
 | v=>i7 (q 0) v
def O9:WV->WV
 | .lbox _ _=>.undef
 | v=>v
def Q7:HV->WV
 | .c v=>.c v
 | .nils=>.nils
 | .lbox _ _=>.gone
 | _=>.undef
def okW:WV->Bool
 | .gone=>false
 | _=>true
def okA:WV->Bool
 | .gone=>false
 | .tup _=>false
 | _=>true
def wT:HV->WV
 | .agg cs=>if cs.all isC=true then .agg (cs.map Q7) else .gone
 | v=>Q7 v
def WFr.rd (fr:WFr):Opd->WV
 | .t i=>peek (Pl.sl i) (O9 (fr.env i))
 | .k v=>wT v
def x8 (K:Pl->Bool) (fz:Bool) (pl:Pl):WV->WV
 | .own b e ek xs=>if K pl=true then (if fz=true then .imm true ek xs else .gone) else .own b e ek xs
 | .view p b off e ek xs=>if K p=true then .gone else .view p b off e ek xs
 | .eptr p i off ek x=>if K p=true then .gone else .eptr p i off ek x
 | v=>v
def C6 (K:Pl->Bool) (fz:Bool) (q:Nat->Pl):Nat->List WV->List WV
 | _,[]=>[]
 | k,v::r=>x8 K fz (q k) v::C6 K fz q (k+1) r
def b6 (K:Pl->Bool) (fz:Bool) (q:Nat->Pl):WV->WV
 | .agg cs=>.agg (C6 K fz q 0 cs)
 | v=>x8 K fz (q 0) v
def C3 (K:Pl->Bool) (fz:Bool) (q:Nat->Nat->Pl):Nat->List WV->List WV
 | _,[]=>[]
 | i,v::r=>b6 K fz (q i) v::C3 K fz q (i+1) r
def hit (K:Pl->Bool) (fz:Bool) (q:Nat->Nat->Pl):WV->WV
 | .tup vs=>.tup (C3 K fz q 0 vs)
 | .lbox ek v=>.lbox ek (b6 K fz (q 0) v)
 | v=>b6 K fz (q 0) v
def inK (K:List Pl) (p:Pl):Bool:=K.any fun x=>decide (x=p)
def b8 (K:Pl->Bool) (fz:Bool) (fr:WFr):WFr:={ fr with env:=fun s=>hit K fz (Pl.sl s) (fr.env s) }
def c6 (fz:Bool):List Pl->q8->q8
 | [],H=>H
 | .hp id k::r,H=>c6 fz r (match H[id]? with
   | some (.var ek cs)=>H.set id (.var ek (match cs[k]? with
     | some v=>cs.set k (x8 (fun _=>true) fz (.hp id k) v)
     | none=>cs))
   | none=>H)
 | _::r,H=>c6 fz r H
def K1 (K:List Pl) (fz:Bool) (fr:WFr) (H:q8):WFr×q8:=match K with
 | []=>(fr,H)
 | K=>(b8 (inK K) fz fr,c6 fz K H)
def A7:WV->List Pl
 | .view p _ _ _ _ _=>[p]
 | _=>[]
def J2:List WV->List Pl
 | []=>[]
 | v::r=>A7 v++J2 r
def l6:WV->List Pl
 | .agg cs=>J2 cs
 | v=>A7 v
def A5:List WV->List Pl
 | []=>[]
 | v::r=>l6 v++A5 r
def u4:WV->List Pl
 | .tup vs=>A5 vs
 | v=>l6 v
def B6:WV->WV
 | .view _ b _ e ek xs=>.own b e ek xs
 | .eptr _ _ _ _ _=>.gone
 | v=>v
def j6:WV->WV
 | .agg cs=>.agg (cs.map B6)
 | v=>B6 v
def s4:WV->WV
 | .tup vs=>.tup (vs.map j6)
 | v=>j6 v
def d5:WV->Bool
 | .own _ _ _ _=>true
 | _=>false
def c8:WV->Bool
 | .agg cs=>cs.any d5
 | v=>d5 v
def y7:WV->Bool
 | .tup vs=>vs.any c8
 | .lbox _ v=>c8 v
 | v=>c8 v
def I2:WV->Bool
 | .view _ _ _ _ _ _=>false
 | .eptr _ _ _ _ _=>false
 | _=>true
def E8:WV->Bool
 | .agg cs=>cs.all I2
 | v=>I2 v
def noView:WV->Bool
 | .tup vs=>vs.all E8
 | .lbox _ v=>E8 v
 | v=>E8 v
def o7 (d:Nat):Pl->Bool
 | .sl s _ _=>decide (s=d)
 | _=>false
def jF (b off n:Nat):Pl->Bool
 | .sl s i k=>decide (s=b)&&decide (i=0)&&decide (off<=k)&&decide (k<off+n)
 | _=>false
def yO (id off n:Nat):Pl->Bool
 | .hp j k=>decide (j=id)&&decide (off<=k)&&decide (k<off+n)
 | _=>false
def L8:Pl->Bool
 | .hp _ _=>true
 | _=>false
def WFr.put1 (fr:WFr) (d:Nat) (v:WV):WFr:={ env:=upd fr.env d v,al:=upd fr.al d none }
def WFr.putD (fr:WFr) (d:Nat) (v:WV):WFr:=
 if y7 v=true then (b8 (o7 d) false fr).put1 d v else fr.put1 d v
def WFr.put (fr:WFr) (dst:Option Nat) (v:WV):WFr:=match dst with
 | none=>fr
 | some d=>fr.putD d v
def WFr.link (fr:WFr) (dst:Option Nat) (b off:Nat):WFr:=match dst with
 | none=>fr
 | some d=>{ env:=upd fr.env d .undef,al:=upd fr.al d (some (b,off)) }
def qP (dst:Option Nat) (b off:Nat) (fr:WFr) (H:q8):Option (WFr×q8):=if dst=some b then none else some (fr.link dst b off,H)
def WFr.place (fr:WFr) (x:Opd):Option (Nat×Nat):=match x with
 | .k _=>none
 | .t i=>match fr.al i with
   | some (b,off)=>match fr.env b with
     | .lbox _ _=>some (b,off)
     | _=>none
   | none=>match fr.env i with
     | .lbox _ _=>some (i,0)
     | _=>none
def take (v:WV) (fr:WFr) (H:q8):Option (WV×WFr×q8):=
 if (u4 v).Nodup then match K1 (u4 v) false fr H with
  | (fr',H')=>some (s4 v,fr',H')
 else none
def U4:WV->Option Int
 | .c (.int _ n)=>some n
 | _=>none
def B7:List WV->Option (List CV)
 | []=>some []
 | .c v::r=>match B7 r with
   | some l=>some (v::l)
   | none=>none
 | _::_=>none
def O7 (cs:List WV):WV:=match B7 cs with
 | some l=>.c (.agg l)
 | none=>.agg cs
def WV.flat:WV->List WV
 | .agg cs=>cs
 | .c (.agg l)=>l.map .c
 | .undef=>[]
 | .gone=>[]
 | v=>[v]
def mL:WV->Option (List WV)
 | .agg cs=>some cs
 | .c (.agg l)=>some (l.map .c)
 | _=>none
def cellW:WV->Bool
 | .c (.agg _)=>false
 | .c _=>true
 | .nils=>true
 | .own _ _ _ _=>true
 | .view _ _ _ _ _ _=>true
 | .imm fz _ _=>fz
 | .ptr _ _=>true
 | .fn _ _ _=>true
 | _=>false
def yI:WV->Bool
 | .imm false _ _=>true
 | v=>cellW v
def fitsW:Option Nat->WV->Bool
 | none,v=>cellW v
 | some n,.c v=>fits (some n) v
 | some n,.agg cs=>cs.length==n&&cs.all cellW
 | _,_=>false
def S6 (ek:Option Nat) (cs:List WV) (off:Nat):Option WV:=match ek with
 | none=>cs[off]?
 | some n=>if off+n<=cs.length then some (O7 ((cs.drop off).take n)) else none
def P5 (cs:List WV) (off:Nat) (new:List WV):List WV:=cs.take off++new++cs.drop (off+new.length)
def pK (ek:Option Nat) (cs:List WV):Option WV:=match ek with
 | none=>cs[0]?
 | some _=>some (O7 cs)
def qT (ek:Option Nat):WV->Option (List CV)
 | .nils=>some []
 | .c (.frz _ [])=>some []
 | .c (.frz ek' xs)=>if ek'=ek then some xs else none
 | .view _ _ _ _ ek' xs=>if ek'=ek then some xs else none
 | .imm _ ek' xs=>if ek'=ek then some xs else none
 | _=>none
def pI (st:Bool):WV->Option Nat
 | .c (.str s)=>if st then some s.length else none
 | .c (.frz _ xs)=>if st then none else some xs.length
 | .nils=>if st then none else some 0
 | .view _ _ _ _ _ xs=>if st then none else some xs.length
 | .imm _ _ xs=>if st then none else some xs.length
 | _=>none
def ixW (ek:Option Nat) (x:WV) (i:Int):Option WV:=match x with
 | .c (.frz ek' xs)=>if ek'=ek/\0<=i then match xs[i.toNat]? with
    | some v=>some (.c (.fptr ek v 0))
    | none=>none
   else none
 | .view pl _ off _ ek' xs=>if ek'=ek/\0<=i then match xs[i.toNat]? with
    | some v=>some (.eptr pl (off+i.toNat) 0 ek v)
    | none=>none
   else none
 | .imm fz ek' xs=>if ek'=ek/\0<=i then match xs[i.toNat]? with
    | some v=>some (.iptr fz ek v 0)
    | none=>none
   else none
 | _=>none
def W4 (st:Bool) (ek:Option Nat) (x:WV) (lo hi:Option Int):Option WV:=match x with
 | .c (.str s)=>
   let l:=lo.getD 0
   let h:=hi.getD s.length
   if st=true/\0<=l/\l<=h/\h<=s.length then some (.c (.str ((s.drop l.toNat).take (h.toNat - l.toNat)))) else none
 | .c (.frz ek' xs)=>
   let l:=lo.getD 0
   let h:=hi.getD xs.length
   if st=false/\(ek'=ek\/xs=[])/\0<=l/\l<=h/\h<=xs.length then some (.c (.frz ek' ((xs.drop l.toNat).take (h.toNat - l.toNat)))) else none
 | .nils=>
   let l:=lo.getD 0
   let h:=hi.getD 0
   if st=false/\0<=l/\l<=h/\h<=0 then some .nils else none
 | .view pl b off e ek' xs=>
   let l:=lo.getD 0
   let h:=hi.getD xs.length
   if ek'=ek/\st=false/\0<=l/\l<=h/\h<=xs.length then some (.view pl (b&&decide (l=0)) (off+l.toNat) e ek' ((xs.drop l.toNat).take (h.toNat - l.toNat))) else none
 | .imm fz ek' xs=>
   let l:=lo.getD 0
   let h:=hi.getD xs.length
   if ek'=ek/\st=false/\0<=l/\l<=h/\h<=xs.length then some (.imm fz ek' ((xs.drop l.toNat).take (h.toNat - l.toNat))) else none
 | _=>none
def yB:WV->Option (CV×List Pl)
 | .c u=>some (u,[])
 | .nils=>some (.frz none [],[])
 | .view p _ _ _ ek xs=>some (.frz ek xs,[p])
 | .imm true ek xs=>some (.frz ek xs,[])
 | _=>none
def wL:List WV->Option (List CV×List Pl)
 | []=>some ([],[])
 | v::r=>match yB v,wL r with
   | some (u,p),some (l,ps)=>some (u::l,p++ps)
   | _,_=>none
def jL:WV->Option (CV×List Pl)
 | .agg cs=>match wL cs with
   | some (l,ps)=>some (.agg l,ps)
   | none=>none
 | v=>yB v
def J6 (ek:Option Nat) (p:WV) (H:q8):Option WV:=match p with
 | .c (.fptr ek' x off)=>(I9 ek' ek x off).map .c
 | .ptr id off=>match H[id]? with
   | some (.var _ cs)=>S6 ek (V0 (Pl.hp id) 0 cs) off
   | none=>none
 | .eptr _ _ off ek' x=>(I9 ek' ek x off).map .c
 | .iptr _ ek' x off=>(I9 ek' ek x off).map .c
 | _=>none
def J1 (i:Nat) (f:CV->Option CV):WV->Option WV
 | .own b e ek xs=>match xs[i]? with
   | some x=>match f x with
     | some x'=>some (.own b e ek (xs.set i x'))
     | none=>none
   | none=>none
 | _=>none
def K4 (i:Nat) (f:CV->Option CV):Nat->List WV->Option (List WV)
 | 0,v::r=>match J1 i f v with
   | some v'=>some (v'::r)
   | none=>none
 | k+1,v::r=>match K4 i f k r with
   | some r'=>some (v::r')
   | none=>none
 | _,[]=>none
def H8 (i k:Nat) (f:CV->Option CV):WV->Option WV
 | .agg cs=>match K4 i f k cs with
   | some cs'=>some (.agg cs')
   | none=>none
 | v=>if k=0 then J1 i f v else none
def yA (i k:Nat) (f:CV->Option CV):WV->Option WV
 | .lbox ek v=>match H8 i k f v with
   | some v'=>some (.lbox ek v')
   | none=>none
 | v=>H8 i k f v
def vM (pl:Pl) (i:Nat) (f:CV->Option CV) (fr:WFr) (H:q8):Option (WFr×q8):=match pl with
 | .sl s 0 k=>match yA i k f (fr.env s) with
   | some v=>some ({ fr with env:=upd fr.env s v },H)
   | none=>none
 | .hp id k=>match H[id]? with
   | some (.var ek cs)=>match K4 i f k cs with
     | some cs'=>some (fr,H.set id (.var ek cs'))
     | none=>none
   | none=>none
 | _=>none
def gA (ek:Option Nat) (u:CV) (ek':Option Nat) (off:Nat) (x:CV):Option CV:=
 if fits ek u=true then
  if off=0/\ek'=ek then some u
  else if off+u.flat.length<=x.flat.length then match A2 ek' (qB x.flat off u.flat) with
   | some x'=>if fits ek' x'=true then some x' else none
   | none=>none
  else none
 else none
def O1 (p:Pl):WV->WV
 | .view p' b off e ek xs=>if p'=p then .gone else .view p' b off e ek xs
 | .eptr p' i off ek x=>if p'=p then .gone else .eptr p' i off ek x
 | v=>v
def N2 (p:Pl):WV->WV
 | .agg cs=>.agg (cs.map (O1 p))
 | v=>O1 p v
def blind (p:Pl):WV->WV
 | .tup vs=>.tup (vs.map (N2 p))
 | .lbox ek v=>.lbox ek (N2 p v)
 | v=>N2 p v
def vL (p:Pl) (fr:WFr):WFr:={ fr with env:=fun s=>blind p (fr.env s) }
def zM (ek:Option Nat) (p:WV) (v:WV) (fr:WFr) (H:q8):Option (WFr×q8):=match p with
 | .ptr id off=>if fitsW ek v=true then match take v fr H with
   | none=>none
   | some (v',fr1,H1)=>match H1[id]? with
     | some (.var ek' cs)=>
       if off+v'.flat.length<=cs.length then
        some (if v'.flat.any d5=true then b8 (yO id off v'.flat.length) false fr1 else fr1,H1.set id (.var ek' (P5 cs off v'.flat)))
       else none
     | none=>none
   else none
 | .eptr pl i off ek' _=>match jL v with
   | some (u,ps)=>match K1 ps true fr H with
     | (fr1,H1)=>match vM pl i (gA ek u ek' off) fr1 H1 with
       | some (fr2,H2)=>some (vL pl fr2,H2)
       | none=>none
   | none=>none
 | _=>none
def aE (k:Nat):WV->Option Bool
 | .c v=>kF k v
 | .ptr _ _=>if k=0 then some false else none
 | .fn _ _ _=>if k=2 then some false else none
 | .nils=>if k=3 then some true else none
 | .view _ _ _ _ _ _=>if k=3 then some false else none
 | .imm _ _ _=>if k=3 then some false else none
 | _=>none
def bT (ek:Option Nat):WV->Option (List CV)
 | .c (.str s)=>if ek=none then some (bytesV s) else none
 | x=>qT ek x
def appW (e:Nat) (ek:Option Nat) (bytes:Nat) (s x:WV) (dst:Option Nat) (fr:WFr) (H:q8):Option (WFr×q8):=
 match bT ek x with
 | none=>none
 | some new=>match s with
   | .nils=>if new=[] then some (fr.put dst .nils,H) else if new.length * bytes<=lim/\new.length<=lim then some (fr.put dst (.own true e ek new),H) else none
   | .view pl true 0 e' ek' xs=>
     if e'=e/\ek'=ek/\(xs.length+new.length) * bytes<=lim/\xs.length+new.length<=lim then
      match K1 [pl] false fr H with
      | (fr1,H1)=>some (fr1.put dst (.own true e ek (xs++new)),H1)
     else none
   | _=>none
def zS:Option Nat->WV->Bool
 | none,v=>yI v
 | some n,.c v=>fits (some n) v
 | some n,.agg cs=>cs.length==n&&cs.all yI
 | _,_=>false
def vD (n:Nat) (v:WV):Bool:=zS (some n) v||(n==1&&zS none v)
def qS (cs:List WV):List (Nat×Nat×WV)->Option (List WV)
 | []=>some cs
 | (off,n,v)::r=>if vD n v=true/\off+n<=cs.length then qS (P5 cs off v.flat) r else none
def Y4 (ek:Option Nat) (xs:List CV):List (Nat×WV)->Option (List CV×List Pl)
 | []=>some (xs,[])
 | (i,v)::r=>match jL v with
   | some (u,ps)=>if i<xs.length/\fits ek u=true then match Y4 ek (xs.set i u) r with
      | some (l,qs)=>some (l,ps++qs)
      | none=>none
     else none
   | none=>none
def Q9 (fr:WFr):Option Opd->Option (Option Int)
 | none=>some none
 | some x=>match U4 (fr.rd x) with
   | some i=>some (some i)
   | none=>none
def plainW:WV->Bool
 | .c _=>true
 | .nils=>true
 | .ptr _ _=>true
 | _=>false
def sL (s d:Nat):Pl->Bool
 | .sl t _ _=>decide (t=s)||decide (t=d)
 | _=>false
def wE (d s:Nat) (v:WV) (fr:WFr) (H:q8):Option (WFr×q8):=
 match u4 v with
 | []=>some (fr.put (some d) v,H)
 | ps=>if ps.all (sL s d)=true then match take v fr H with
    | some (v',fr',H')=>some (fr'.put (some d) v',H')
    | none=>none
   else some (fr.put (some d) v,H)
def J4 (dst:Option Nat) (fr:WFr) (H:q8):Option WV->Option (WFr×q8)
 | some v=>some (fr.put dst v,H)
 | none=>none
def kD (isMax:Bool):Int->List WV->Option Int
 | a,[]=>some a
 | a,.c (.int _ b)::r=>kD isMax (if isMax then max a b else min a b) r
 | _,_=>none
def j4 (o:IOp) (dst:Option Nat) (fr:WFr) (H:q8):Option (WFr×q8):=
 match o with
 | .mv x=>match fr.place x with
   | some (b,off)=>qP dst b off fr H
   | none=>if okW (fr.rd x)=true then match dst,x with
     | some d,.t s=>if d<s then wE d s (fr.rd x) fr H else some (fr.put dst (fr.rd x),H)
     | _,_=>some (fr.put dst (fr.rd x),H)
     else none
 | .un op x=>match fr.rd x with
   | .c a=>J4 dst fr H ((unC op a).map .c)
   | _=>none
 | .bin op x y=>match fr.rd x,fr.rd y with
   | .c a,.c b=>J4 dst fr H ((K5 op a b).map .c)
   | _,_=>none
 | .eqs neg ks x y=>match fr.rd x,fr.rd y with
   | .c (.agg a),.c (.agg b)=>J4 dst fr H ((eqL ks a b).map fun v=>.c (.bool (if neg then !v else v)))
   | _,_=>none
 | .eqb neg x y=>match fr.rd x,fr.rd y with
   | .c (.bool a),.c (.bool b)=>some (fr.put dst (.c (.bool (if neg then !(a==b) else a==b))),H)
   | _,_=>none
 | .pick c a b=>match fr.rd c with
   | .c (.bool t)=>if okW (if t then fr.rd a else fr.rd b)=true then some (fr.put dst (if t then fr.rd a else fr.rd b),H) else none
   | _=>none
 | .load ek a=>match fr.place a with
   | some (b,off)=>match fr.env b with
     | .lbox ek' x=>J4 dst fr H (if off=0/\ek'=ek then some (i7 (Pl.sl b 0) x) else S6 ek (i7 (Pl.sl b 0) x).flat off)
     | _=>none
   | none=>J4 dst fr H (J6 ek (fr.rd a) H)
 | .store ek a x=>match fr.place a with
   | some (b,off)=>
     if fitsW ek (fr.rd x)=true then match take (fr.rd x) fr H with
      | none=>none
      | some (v',fr1,H1)=>match fr1.env b with
        | .lbox ek' x0=>
          if off=0/\ek'=ek then some ({ env:=upd (b8 (o7 b) false fr1).env b (.lbox ek' v'),al:=fr1.al },H1)
          else if off+v'.flat.length<=x0.flat.length/\E8 x0=true/\x0.flat.isEmpty=false then
           match pK ek' (P5 x0.flat off v'.flat) with
           | some x'=>if fitsW ek' x'=true then some ({ env:=upd (b8 (jF b off v'.flat.length) false fr1).env b (.lbox ek' x'),al:=fr1.al },H1) else none
           | none=>none
          else none
        | _=>none
     else none
   | none=>match fr.rd a,dst with
     | p,none=>zM ek p (fr.rd x) fr H
     | _,_=>none
 | .faddr n a=>match fr.place a with
   | some (b,off)=>qP dst b (off+n) fr H
   | none=>match fr.rd a with
     | .ptr id off=>some (fr.put dst (.ptr id (off+n)),H)
     | .eptr pl i off ek x=>some (fr.put dst (.eptr pl i (off+n) ek x),H)
     | .iptr fz ek x off=>some (fr.put dst (.iptr fz ek x (off+n)),H)
     | .c (.fptr ek x off)=>some (fr.put dst (.c (.fptr ek x (off+n))),H)
     | _=>none
 | .nck a=>match fr.place a with
   | some (b,off)=>qP dst b off fr H
   | none=>match fr.rd a with
     | .ptr id off=>some (fr.put dst (.ptr id off),H)
     | .eptr pl i off ek x=>some (fr.put dst (.eptr pl i off ek x),H)
     | .iptr fz ek x off=>some (fr.put dst (.iptr fz ek x off),H)
     | .c (.fptr ek x off)=>some (fr.put dst (.c (.fptr ek x off)),H)
     | _=>none
 | .fld ek off x=>match mL (fr.rd x) with
   | some cs=>J4 dst fr H (S6 ek cs off)
   | none=>none
 | .cvs x=>match fr.rd x with
   | .c (.str s)=>some (fr.put dst (.c (.str s)),H)
   | _=>none
 | .fbox ek x=>match fr.rd x with
   | .c v=>if fits ek v=true then some (fr.put dst (.c (.fptr ek v 0)),H) else none
   | _=>none
 | .ix ek x i=>match U4 (fr.rd i) with
   | some n=>J4 dst fr H (ixW ek (fr.rd x) n)
   | none=>none
 | .six x i=>match fr.rd x,U4 (fr.rd i) with
   | .c (.str s),some n=>if 0<=n then match s[n.toNat]? with
      | some b=>some (fr.put dst (.c (.int .u8 b.toNat)),H)
      | none=>none
     else none
   | _,_=>none
 | .slc st ek x lo hi=>match Q9 fr lo,Q9 fr hi with
   | some l,some h=>J4 dst fr H (W4 st ek (fr.rd x) l h)
   | _,_=>none
 | .len st x=>match pI st (fr.rd x) with
   | some n=>some (fr.put dst (.c (.int .i64 n)),H)
   | none=>none
 | .app e ek bytes s x=>appW e ek bytes (fr.rd s) (fr.rd x) dst fr H
 | .build zero parts=>if zero.all isC=true then match qS (zero.map Q7) (parts.map fun p=>(p.1,p.2.1,fr.rd p.2.2)) with
   | some cs=>some (fr.put dst (O7 cs),H)
   | none=>none
   else none
 | .bsl fz e ek zero n parts=>match A2 ek zero with
   | some z=>if fits ek z=true then match Y4 ek (List.replicate n z) (parts.map fun p=>(p.1,fr.rd p.2)) with
     | some (xs,ps)=>match K1 ps true fr H with
       | (fr1,H1)=>some (fr1.put dst (if fz then .c (.frz ek xs) else .own true e ek xs),H1)
     | none=>none
     else none
   | none=>none
 | .lbox ek x=>match dst with
   | some d=>if fitsW ek (fr.rd x)=true then match take (fr.rd x) fr H with
      | some (v,fr1,H1)=>some ({ env:=upd (b8 (o7 d) false fr1).env d (.lbox ek v),al:=unlink d fr.al },H1)
      | none=>none
     else none
   | none=>none
 | .hbox ek x=>if fitsW (ekB ek) (fr.rd x)=true then match take (fr.rd x) fr H with
    | some (v,fr1,H1)=>some (fr1.put dst (.ptr H1.length 0),H1++[.var ek v.flat])
    | none=>none
   else none
 | .b2s x=>match (qT none (fr.rd x)).bind V8 with
   | some l=>some (fr.put dst (.c (.str l)),H)
   | none=>none
 | .mkf f first cap=>
   let a:=first.map fr.rd
   let b:=cap.map fr.rd
   if a.all plainW=true/\b.all plainW=true then some (fr.put dst (match B7 a,B7 b with
    | some x,some y=>.c (.fn f x y)
    | _,_=>.fn f a b),H) else none
 | .ext x i=>match x with
   | .t s=>match fr.env s with
     | .tup vs=>match vs[i]? with
       | some v=>match take (i7 (Pl.sl s i) v) fr H with
         | some (v',fr',H')=>some (fr'.put dst v',H')
         | none=>none
       | none=>none
     | _=>none
   | .k _=>none
 | .tyck T n x=>match fr.rd x with
   | .ptr id 0=>match H[id]? with
     | some (.var ek cs)=>if R1 ek=some T/\cs.length=n then some (fr.put dst (.ptr id 0),H) else none
     | _=>none
   | _=>none
 | .rowck e x=>match fr.rd x with
   | .nils=>some (fr.put dst (.c (.bool true)),H)
   | .view _ true 0 e' none xs=>if e'=e/\0<xs.length/\bE xs=true then some (fr.put dst (.c (.bool false)),H) else none
   | _=>none
 | .peq x y=>match fr.rd x,fr.rd y with
   | .ptr i a,.ptr j b=>some (fr.put dst (.c (.bool (decide (i=j/\a=b)))),H)
   | _,_=>none
 | .isn neg k x=>match aE k (fr.rd x) with
   | some b=>some (fr.put dst (.c (.bool (if neg then !b else b))),H)
   | none=>none
 | .cvt k x=>match fr.rd x with
   | .c (.int _ n)=>some (fr.put dst (.c (.int k (k.wrap n))),H)
   | _=>none
 | .mx isMax x y=>match fr.rd x,fr.rd y with
   | .c (.int k a),.c (.int _ b)=>some (fr.put dst (.c (.int k (if isMax then max a b else min a b))),H)
   | _,_=>none
 | .mxs isMax x ys=>match fr.rd x with
   | .c (.int k a)=>match kD isMax a (ys.map fr.rd) with
     | some b=>some (fr.put dst (.c (.int k b)),H)
     | none=>none
   | _=>none
 | .aix ek n x i=>match fr.rd x,fr.rd i with
   | .c (.agg cs),.c (.int _ j)=>if 0<=j/\j<n then match R7 ek cs (j.toNat * j0 ek) with
      | some v=>some (fr.put dst (.c v),H)
      | none=>none
     else none
   | _,_=>none
 | .mkm=>none
 | .mget _ _ _ _ _=>none
 | .mset _ _ _ _=>none
 | .ment _ _ _ _=>none
 | .msto _ _ _=>none
 | .mlen _=>none
 | .call _ _=>none
 | .callv _ _=>none
abbrev u5:=Nat->List WV->q8->Option (WV×q8)
structure WEnv where
 fn:Nat->Option IFn
 md:Nat->Md
 tk:Nat->List Nat
 ext:Nat->Option (List CV->Option (List CV)):=fun _=>none
 ar:Nat->Option Nat:=fun _=>none
abbrev WEnv.fnA (E:WEnv) (f n:Nat):Option IFn:=Z2 (E.ar f) n (E.fn f)
def e9:WV->Option CV
 | .c v=>some v
 | .nils=>some (.frz none [])
 | .view _ _ _ _ ek xs=>some (.frz ek xs)
 | .imm _ ek xs=>some (.frz ek xs)
 | _=>none
def V7:List WV->Option (List CV)
 | []=>some []
 | x::r=>match e9 x,V7 r with
   | some a,some b=>some (a::b)
   | _,_=>none
def wO:WV->Option CV
 | .agg cs=>match V7 cs with
   | some l=>some (.agg l)
   | none=>none
 | v=>e9 v
def Z8 (H:q8):WV->Option CV
 | .ptr id off=>match H[id]? with
   | some (.var ek cs)=>match V7 (V0 (Pl.hp id) 0 cs) with
     | some l=>if l.length=j0 ek then match A2 ek l with
       | some x=>some (.fptr ek x off)
       | none=>none
       else none
     | none=>none
   | none=>none
 | v=>wO v
def zV (H:q8):List WV->Option (List CV)
 | []=>some []
 | x::r=>match Z8 H x,zV H r with
   | some a,some b=>some (a::b)
   | _,_=>none
def Z3 (H:q8):WV->Option CV
 | .fn f first cap=>match zV H first,zV H cap with
   | some a,some b=>some (.fn f a b)
   | _,_=>none
 | v=>Z8 H v
def i8 (H:q8):List WV->Option (List WV)
 | []=>some []
 | x::r=>match Z3 H x,i8 H r with
   | some a,some b=>some (.c a::b)
   | _,_=>none
def shut1:WV->Option CV
 | .own _ _ ek xs=>some (.frz ek xs)
 | v=>e9 v
def zF:List WV->Option (List CV)
 | []=>some []
 | x::r=>match shut1 x,zF r with
   | some a,some b=>some (a::b)
   | _,_=>none
def O3:WV->Option CV
 | .agg cs=>match zF cs with
   | some l=>some (.agg l)
   | none=>none
 | v=>shut1 v
def O8:List WV->Option (List WV)
 | []=>some []
 | x::r=>match O3 x,O8 r with
   | some a,some b=>some (.c a::b)
   | _,_=>none
def shut:WV->Option WV
 | .tup vs=>match O8 vs with
   | some l=>some (.tup l)
   | none=>none
 | v=>match O3 v with
   | some u=>some (.c u)
   | none=>none
def L0:WV->Bool
 | .c _=>true
 | .nils=>true
 | _=>false
def noRefW:WV->Bool
 | .c (.agg l)=>l.all J5
 | .c v=>J5 v
 | .tup vs=>noRefWL vs
 | _=>false
where noRefWL:List WV->Bool
 | []=>true
 | .c (.agg l)::r=>l.all J5&&noRefWL r
 | .c v::r=>J5 v&&noRefWL r
 | _::_=>false
def W6:WV->Bool
 | .fn _ _ _=>false
 | .ptr _ _=>false
 | _=>true
def jR:WV->Bool
 | .imm false _ _=>true
 | .eptr _ _ _ _ _=>true
 | .iptr _ _ _ _=>true
 | _=>false
def jW:WV->Bool
 | .agg cs=>cs.any jR
 | v=>jR v
def zT:WV->WV
 | .view (.sl _ _ _) _ _ _ ek xs=>.imm false ek xs
 | .view (.hp id k) b off e ek xs=>.view (.hp id k) b off e ek xs
 | .view (.tmp _ _) _ _ _ _ _=>.gone
 | .eptr (.sl _ _ _) _ off ek x=>.iptr false ek x off
 | .eptr (.tmp _ _) _ _ _ _=>.gone
 | .own _ _ _ _=>.gone
 | v=>v
def vZ:WV->WV
 | .agg cs=>.agg (cs.map zT)
 | .tup _=>.undef
 | .lbox _ _=>.undef
 | v=>zT v
def jP:WV->WV
 | .view _ b _ e ek xs=>.own b e ek xs
 | .eptr _ _ _ _ _=>.gone
 | .own _ _ _ _=>.gone
 | v=>v
def xY:WV->WV
 | .agg cs=>.agg (cs.map jP)
 | .tup _=>.undef
 | .lbox _ _=>.undef
 | v=>jP v
def f9:List WV->List Pl
 | []=>[]
 | v::r=>l6 v++f9 r
def C2 (tk:List Nat):Nat->List WV->List Pl
 | _,[]=>[]
 | j,v::r=>(if tk.contains j=true then l6 v else [])++C2 tk (j+1) r
def W7:WV->List Pl
 | .view p _ _ _ _ _=>[p]
 | .eptr p _ _ _ _=>[p]
 | _=>[]
def yC:WV->List Pl
 | .agg cs=>cs.flatMap W7
 | v=>W7 v
def X2 (tk:List Nat):Nat->List WV->List Pl
 | _,[]=>[]
 | j,v::r=>(if tk.contains j=true then [] else yC v)++X2 tk (j+1) r
def L6 (tk:List Nat):Nat->List WV->List WV
 | _,[]=>[]
 | j,v::r=>(if tk.contains j=true then xY v else vZ v)::L6 tk (j+1) r
section
variable (E:WEnv) (call:u5)
def F5 (f:Nat) (args:List WV) (dst:Option Nat) (fr:WFr) (H:q8):Option (WFr×q8):=
 match E.md f with
 | .S=>
   if args.all okA=true/\(C2 (E.tk f) 0 args).Nodup/\(C2 (E.tk f) 0 args).all (fun p=>!(X2 (E.tk f) 0 args).contains p)=true then
    match K1 (C2 (E.tk f) 0 args) false fr H with
    | (fr1,H1)=>match call f (L6 (E.tk f) 0 args) H1 with
      | none=>none
      | some (r,H2)=>some ((b8 L8 false fr1).put dst r,H2)
   else none
 | .P=>match i8 H args with
   | none=>none
   | some a5=>match call f a5 [] with
     | none=>none
     | some (r,_)=>match shut r with
       | none=>none
       | some r'=>
         if args.all L0||noRefW r' then some (fr.put dst r',H)
         else if args.all W6&&!args.any jW then match K1 (f9 args) true fr H with
          | (fr1,H1)=>some (fr1.put dst r',H1)
         else none
def zQ (v:WV) (args:List WV):Option (Nat×List WV):=match v with
 | .c (.fn f first cap)=>some (f,first.map .c++args++cap.map .c)
 | .fn f first cap=>some (f,first++args++cap)
 | _=>none
def wOp (o:IOp) (dst:Option Nat) (fr:WFr) (H:q8):Option (WFr×q8):=match o with
 | .call f args=>F5 E call f (args.map fr.rd) dst fr H
 | .callv x args=>match zQ (fr.rd x) (args.map fr.rd) with
   | some (f,a5)=>F5 E call f a5 dst fr H
   | none=>none
 | o=>j4 o dst fr H
def A8 (o:IOper) (fr:WFr) (H:q8):Option (WFr×q8):=match o.guard with
 | none=>wOp E call o.op o.dst fr H
 | some (s,want)=>match fr.env s with
   | .c (.bool b)=>if b=want then wOp E call o.op o.dst fr H else some (fr.put o.dst .skipv,H)
   | .skipv=>some (fr.put o.dst .skipv,H)
   | _=>none
def B1:List IOper->WFr->q8->Option (WFr×q8)
 | [],fr,H=>some (fr,H)
 | o::r,fr,H=>match A8 E call o fr H with
   | some (fr',H')=>B1 r fr' H'
   | none=>none
def S9 (fr:WFr):Option Nat->Bool
 | none=>true
 | some d=>match fr.env d with
   | .lbox _ _=>false
   | _=>true
def wD (c:Cls) (o:IOp) (dst:Option Nat) (fr:WFr) (H:q8):Option (WFr×q8):=
 match c with
 | .pure=>match o with
   | .bsl fz e ek z n ps=>if fz=true/\(ps.all fun p=>L0 (fr.rd p.2))=true then j4 (.bsl fz e ek z n ps) dst fr H else none
   | o=>if C9 o=true then j4 o dst fr H else none
 | .rdb b=>match o with
   | .load ek a=>if (fr.place a).map (·.1)=some b then j4 (.load ek a) dst fr H else none
   | _=>none
 | .wrb b=>match o with
   | .store ek a x=>if (fr.place a).map (·.1)=some b/\dst=none then j4 (.store ek a x) dst fr H else none
   | _=>none
 | .rd=>match o with
   | .load ek a=>if (fr.place a).isSome=true then none else j4 (.load ek a) dst fr H
   | .ix ek x i=>j4 (.ix ek x i) dst fr H
   | .slc st ek x lo hi=>j4 (.slc st ek x lo hi) dst fr H
   | .call f args=>match E.md f with
     | .P=>match i8 H (args.map fr.rd) with
       | none=>none
       | some a5=>match call f a5 [] with
         | none=>none
         | some (r,_)=>match shut r with
           | none=>none
           | some r'=>if noRefW r'=true\/(args.map fr.rd).all L0=true then some (fr.put dst r',H) else none
     | .S=>none
   | _=>none
 | .wr=>match o with
   | .store ek a x=>if (fr.place a).isSome=true\/dst≠none then none else j4 (.store ek a x) dst fr H
   | .app e ek n s x=>j4 (.app e ek n s x) dst fr H
   | .bsl fz e ek z n ps=>j4 (.bsl fz e ek z n ps) dst fr H
   | .call f args=>wOp E call (.call f args) dst fr H
   | .callv x args=>wOp E call (.callv x args) dst fr H
   | _=>none
 | .hb=>match o with
   | .hbox ek x=>j4 (.hbox ek x) dst fr H
   | _=>none
 | .lb=>match o with
   | .lbox ek x=>j4 (.lbox ek x) dst fr H
   | _=>none
 | .rdw=>none
def G3 (c:Cls) (o:IOper) (fr:WFr) (H:q8):Option (WFr×q8):=
 match o.guard with
 | none=>wD E call c o.op o.dst fr H
 | some (s,want)=>match fr.env s with
   | .c (.bool b)=>if b=want then wD E call c o.op o.dst fr H else some (fr.put o.dst .skipv,H)
   | .skipv=>some (fr.put o.dst .skipv,H)
   | _=>none
def H4 (c:Cls) (o:IOper) (fr:WFr) (H:q8):Option (WFr×q8):=
 if S9 fr o.dst=true then match G3 E call c o fr H with
  | some (fr',H')=>if c=.lb\/S9 fr' o.dst=true then some (fr',H') else none
  | none=>none
 else none
def D8:List (Cls×IOper)->WFr->q8->Option (WFr×q8)
 | [],fr,H=>some (fr,H)
 | (c,o)::r,fr,H=>match H4 E call c o fr H with
   | some (fr',H')=>D8 r fr' H'
   | none=>none
abbrev y0:=WFr->q8->Option (Ex×WFr×q8)
def E5 (l:Nat):Option (Ex×WFr×q8)->Option (Ex×WFr×q8)
 | some (.goto l',fr,H)=>if l'=l then some (.nrm,fr,H) else none
 | some (.nrm,fr,H)=>some (.goto l,fr,H)
 | r=>r
def U3 (l:Nat):Option (Ex×WFr×q8)->Option (Ex×WFr×q8)
 | some (.goto l',fr,H)=>if l'=l then some (.nrm,fr,H) else some (.goto l',fr,H)
 | r=>r
def qW (live:List Nat):Pl->Bool
 | .sl s _ _=>!live.contains s
 | _=>false
def f7 (live:List Nat) (fr:WFr):WFr:={ env:=o0 (live.map fun s=>(s,hit (qW live) false (Pl.sl s) (fr.env s))),al:=x6 }
variable (it:y0->y0)
def wC:ICode->y0
 | .skip,fr,H=>some (.nrm,fr,H)
 | .stuck,_,_=>none
 | .region ops,fr,H=>match B1 E call ops { fr with al:=x6 } H with
   | some (fr',H')=>some (.nrm,fr',H')
   | none=>none
 | .regionD ops,fr,H=>match D8 E call ops { fr with al:=x6 } H with
   | some (fr',H')=>some (.nrm,fr',H')
   | none=>none
 | .regionW _,_,_=>none
 | .seq a b,fr,H=>match wC a fr H with
   | some (.nrm,fr',H')=>wC b fr' H'
   | r=>r
 | .cond c x y,fr,H=>match fr.rd c with
   | .c (.bool b)=>if b then wC x fr H else wC y fr H
   | _=>none
 | .block id body,fr,H=>match wC body fr H with
   | some (.exit i,fr',H')=>if i=id then some (.nrm,fr',H') else some (.exit i,fr',H')
   | r=>r
 | .loop live body,fr,H=>it (fun fr H=>wC body (f7 live fr) H) fr H
 | .exit id,fr,H=>some (.exit id,fr,H)
 | .scope l live body rest,fr,H=>match wC body fr H with
   | some (.goto l',fr',H')=>if l'=l then U3 l (it (fun fr H=>E5 l (wC rest (f7 live fr) H)) fr' H') else none
   | r=>r
 | .label _,fr,H=>some (.nrm,fr,H)
 | .keep live,fr,H=>some (.nrm,f7 live fr,H)
 | .goto l,fr,H=>some (.goto l,fr,H)
 | .ret,fr,H=>some (.ret,fr,H)
def D9 (i:Nat):List WV->List (Nat×WV)
 | []=>[]
 | v::r=>(i,v)::D9 (i+1) r
def D6 (fr:WFr) (H:q8):List IRes->Option (List WV)
 | []=>some []
 | .tmp t::r=>match D6 fr H r with
   | some l=>some (i7 (Pl.sl t 0) (O9 (fr.env t))::l)
   | none=>none
 | .cell a ek::r=>
   match (match fr.env a with
    | .lbox ek' x=>if ek'=ek then some (i7 (Pl.sl a 0) x) else none
    | p=>J6 ek (peek (Pl.sl a) p) H),D6 fr H r with
   | some v,some l=>some (v::l)
   | _,_=>none
def f4:List WV->WV
 | [v]=>v
 | vs=>.tup vs
def F7 (n:Nat):Pl->Bool
 | .sl _ _ _=>true
 | .hp id _=>decide (n<=id)
 | .tmp _ _=>true
def P0:WV->Bool
 | .eptr _ _ _ _ _=>false
 | .iptr _ _ _ _=>false
 | .imm fz _ _=>fz
 | .tup _=>false
 | .lbox _ _=>false
 | _=>true
def A3:WV->Bool
 | .agg cs=>cs.all P0
 | v=>P0 v
def leave1 (n:Nat):WV->WV
 | .view p b off e ek xs=>if F7 n p=true then .own b e ek xs else .view p b off e ek xs
 | v=>v
def F8 (n:Nat):WV->WV
 | .agg cs=>.agg (cs.map (leave1 n))
 | v=>leave1 n v
def X8 (n:Nat) (vs:List WV) (H:q8):Option (WV×q8):=
 if ((f9 vs).filter (F7 n)).Nodup/\vs.all A3=true/\((f9 vs).filter (F7 n)=[]\/(f9 vs).all (F7 n)=true) then
  some (f4 (vs.map (F8 n)),c6 false ((f9 vs).filter (F7 n)) H)
 else none
def wQ (args:List WV) (H:q8):Option (List CV->Option (List CV))->Option (WV×q8)
 | none=>none
 | some g=>match B7 args with
   | some xs=>match g xs with
     | some us=>some (f4 (us.map .c),H)
     | none=>none
   | none=>none
def wFn (f:Nat) (args:List WV) (H:q8):Option (WV×q8):=
 match E.fnA f args.length with
 | none=>wQ args H (E.ext f)
 | some g=>match wC E call it g.body { env:=o0 (D9 0 args),al:=x6 } H with
   | some (.nrm,fr,H') | some (.ret,fr,H')=>match D6 fr H' g.res with
     | some vs=>X8 H.length vs H'
     | none=>none
   | _=>none
end
def m6:Nat->y0->y0
 | 0,_,_,_=>none
 | n+1,s,fr,H=>match s fr H with
   | some (.nrm,fr',H')=>m6 n s fr' H'
   | r=>r
def wF (E:WEnv):Nat->u5
 | 0,_,_,_=>none
 | n+1,f,args,H=>wFn E (wF E n) (m6 n) f args H
end Go.Proofs.Lz
