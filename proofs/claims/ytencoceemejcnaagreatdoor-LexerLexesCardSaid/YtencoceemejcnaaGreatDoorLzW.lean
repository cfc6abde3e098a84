/- The evaluator once more, with slices of one's own held a5 values in their places: definitions. -/
import Derived.Test.YtencoceemejcnaaGreatDoorLzEv
namespace Go.Proofs.Lz
inductive Pl where
 | sl (s i k:Nat)
 | hp (id k:Nat)
 | tmp (i k:Nat)
 deriving DecidableEq
inductive WV where
 | c (v:CV)
 | agg (cs:List WV)
 | tup (vs:List WV)
 | nils
 | own (b:Bool) (e:Nat) (ek:Option Nat) (xs:List CV)
 | view (pl:Pl) (b:Bool) (off:Nat) (e:Nat) (ek:Option Nat) (xs:List CV)
 | imm (fz:Bool) (ek:Option Nat) (xs:List CV)
 | ptr (id off:Nat)
 | eptr (pl:Pl) (i off:Nat) (ek:Option Nat) (x:CV)
 | iptr (fz:Bool) (ek:Option Nat) (x:CV) (off:Nat)
 | lbox (ek:Option Nat) (v:WV)
 | fn (f:Nat) (first cap:List WV)
 | skipv
 | undef
 | gone
 deriving Inhabited
inductive WO where
 | var (ek:Option Nat) (cs:List WV)
abbrev q9:=List WO
structure WFr where
 env:Nat->WV
 al:Nat->Option (Nat×Nat)
def J9:List (Nat×WV)->Nat->WV
 | [],_=>.undef
 | (t,v)::r,s=>if s=t then v else J9 r s
def L0 (pl:Pl):WV->WV
 | .own b e ek xs=>.view pl b 0 e ek xs
 | v=>v
def qN (q:Nat->Pl):Nat->List WV->List WV
 | _,[]=>[]
 | k,v::r=>L0 (q k) v::qN q (k+1) r
def G9 (q:Nat->Pl):WV->WV
 | .agg cs=>.agg (qN q 0 cs)
 | v=>L0 (q 0) v
def yZ (q:Nat->Nat->Pl):Nat->List WV->List WV
 | _,[]=>[]
 | i,v::r=>G9 (q i) v::yZ q (i+1) r
def peek (q:Nat->Nat->Pl):WV->WV
 | .tup vs=>.tup (yZ q 0 vs)
 | v=>G9 (q 0) v
def qV:WV->WV
 | .lbox _ _=>.undef
 | v=>v
def qB:HV->WV
 | .c v=>.c v
 | .nils=>.nils
 | .lbox _ _=>.gone
 | _=>.undef
def okW:WV->Bool
 | .gone=>false
 | _=>true
def okA:WV->Bool
 | .gone=>false
 | .tup _=>false
 | _=>true
def kJ:HV->WV
 | .agg cs=>if cs.all isC=true then .agg (cs.map qB) else .gone
 | v=>qB v
def WFr.rd (fr:WFr):Opd->WV
 | .t i=>peek (Pl.sl i) (qV (fr.env i))
 | .k v=>kJ v
def l8 (K:Pl->Bool) (fz:Bool) (pl:Pl):WV->WV
 | .own b e ek xs=>if K pl=true then (if fz=true then .imm true ek xs else .gone) else .own b e ek xs
 | .view p b off e ek xs=>if K p=true then .gone else .view p b off e ek xs
 | .eptr p i off ek x=>if K p=true then .gone else .eptr p i off ek x
 | v=>v
def K1 (K:Pl->Bool) (fz:Bool) (q:Nat->Pl):Nat->List WV->List WV
 | _,[]=>[]
 | k,v::r=>l8 K fz (q k) v::K1 K fz q (k+1) r
def A8 (K:Pl->Bool) (fz:Bool) (q:Nat->Pl):WV->WV
 | .agg cs=>.agg (K1 K fz q 0 cs)
 | v=>l8 K fz (q 0) v
def K6 (K:Pl->Bool) (fz:Bool) (q:Nat->Nat->Pl):Nat->List WV->List WV
 | _,[]=>[]
 | i,v::r=>A8 K fz (q i) v::K6 K fz q (i+1) r
def hit (K:Pl->Bool) (fz:Bool) (q:Nat->Nat->Pl):WV->WV
 | .tup vs=>.tup (K6 K fz q 0 vs)
 | .lbox ek v=>.lbox ek (A8 K fz (q 0) v)
 | v=>A8 K fz (q 0) v
def inK (K:List Pl) (p:Pl):Bool:=K.any fun x=>decide (x=p)
def D1 (K:Pl->Bool) (fz:Bool) (fr:WFr):WFr:={ fr with env:=fun s=>hit K fz (Pl.sl s) (fr.env s) }
def D8 (fz:Bool):List Pl->q9->q9
 | [],H=>H
 | .hp id k::r,H=>D8 fz r (match H[id]? with
   | some (.var ek cs)=>H.set id (.var ek (match cs[k]? with
     | some v=>cs.set k (l8 (fun _=>true) fz (.hp id k) v)
     | none=>cs))
   | none=>H)
 | _::r,H=>D8 fz r H
def O9 (K:List Pl) (fz:Bool) (fr:WFr) (H:q9):WFr×q9:=match K with
 | []=>(fr,H)
 | K=>(D1 (inK K) fz fr,D8 fz K H)
def I6:WV->List Pl
 | .view p _ _ _ _ _=>[p]
 | _=>[]
def S7:List WV->List Pl
 | []=>[]
 | v::r=>I6 v++S7 r
def E4:WV->List Pl
 | .agg cs=>S7 cs
 | v=>I6 v
def M4:List WV->List Pl
 | []=>[]
 | v::r=>E4 v++M4 r
def B6:WV->List Pl
 | .tup vs=>M4 vs
 | v=>E4 v
def K3:WV->WV
 | .view _ b _ e ek xs=>.own b e ek xs
 | .eptr _ _ _ _ _=>.gone
 | v=>v
def s8:WV->WV
 | .agg cs=>.agg (cs.map K3)
 | v=>K3 v
def E5:WV->WV
 | .tup vs=>.tup (vs.map s8)
 | v=>s8 v
def D3:WV->Bool
 | .own _ _ _ _=>true
 | _=>false
def F8:WV->Bool
 | .agg cs=>cs.any D3
 | v=>D3 v
def A5:WV->Bool
 | .tup vs=>vs.any F8
 | .lbox _ v=>F8 v
 | v=>F8 v
def W3:WV->Bool
 | .view _ _ _ _ _ _=>false
 | .eptr _ _ _ _ _=>false
 | _=>true
def O7:WV->Bool
 | .agg cs=>cs.all W3
 | v=>W3 v
def noView:WV->Bool
 | .tup vs=>vs.all O7
 | .lbox _ v=>O7 v
 | v=>O7 v
def I4 (d:Nat):Pl->Bool
 | .sl s _ _=>decide (s=d)
 | _=>false
def xJ (b off n:Nat):Pl->Bool
 | .sl s i k=>decide (s=b)&&decide (i=0)&&decide (off<=k)&&decide (k<off+n)
 | _=>false
def mU (id off n:Nat):Pl->Bool
 | .hp j k=>decide (j=id)&&decide (off<=k)&&decide (k<off+n)
 | _=>false
def H4:Pl->Bool
 | .hp _ _=>true
 | _=>false
def WFr.put1 (fr:WFr) (d:Nat) (v:WV):WFr:={ env:=upd fr.env d v,al:=upd fr.al d none }
def WFr.putD (fr:WFr) (d:Nat) (v:WV):WFr:=
 if A5 v=true then (D1 (I4 d) false fr).put1 d v else fr.put1 d v
def WFr.put (fr:WFr) (dst:Option Nat) (v:WV):WFr:=match dst with
 | none=>fr
 | some d=>fr.putD d v
def WFr.link (fr:WFr) (dst:Option Nat) (b off:Nat):WFr:=match dst with
 | none=>fr
 | some d=>{ env:=upd fr.env d .undef,al:=upd fr.al d (some (b,off)) }
def xO (dst:Option Nat) (b off:Nat) (fr:WFr) (H:q9):Option (WFr×q9):=if dst=some b then none else some (fr.link dst b off,H)
def WFr.place (fr:WFr) (x:Opd):Option (Nat×Nat):=match x with
 | .k _=>none
 | .t i=>match fr.al i with
   | some (b,off)=>match fr.env b with
     | .lbox _ _=>some (b,off)
     | _=>none
   | none=>match fr.env i with
     | .lbox _ _=>some (i,0)
     | _=>none
def take (v:WV) (fr:WFr) (H:q9):Option (WV×WFr×q9):=
 if (B6 v).Nodup then match O9 (B6 v) false fr H with
  | (fr',H')=>some (E5 v,fr',H')
 else none
def Y4:WV->Option Int
 | .c (.int _ n)=>some n
 | _=>none
def J5:List WV->Option (List CV)
 | []=>some []
 | .c v::r=>match J5 r with
   | some l=>some (v::l)
   | none=>none
 | _::_=>none
def Z1 (cs:List WV):WV:=match J5 cs with
 | some l=>.c (.agg l)
 | none=>.agg cs
def WV.flat:WV->List WV
 | .agg cs=>cs
 | .c (.agg l)=>l.map .c
 | .undef=>[]
 | .gone=>[]
 | v=>[v]
def ze7:WV->Option (List WV)
 | .agg cs=>some cs
 | .c (.agg l)=>some (l.map .c)
 | _=>none
def cellW:WV->Bool
 | .c (.agg _)=>false
 | .c _=>true
 | .nils=>true
 | .own _ _ _ _=>true
 | .view _ _ _ _ _ _=>true
 | .imm fz _ _=>fz
 | .ptr _ _=>true
 | .fn _ _ _=>true
 | _=>false
def dM:WV->Bool
 | .imm false _ _=>true
 | v=>cellW v
def fitsW:Option Nat->WV->Bool
 | none,v=>cellW v
 | some n,.c v=>fits (some n) v
 | some n,.agg cs=>cs.length==n&&cs.all cellW
 | _,_=>false
def X6 (ek:Option Nat) (cs:List WV) (off:Nat):Option WV:=match ek with
 | none=>cs[off]?
 | some n=>if off+n<=cs.length then some (Z1 ((cs.drop off).take n)) else none
def R2 (cs:List WV) (off:Nat) (new:List WV):List WV:=cs.take off++new++cs.drop (off+new.length)
def mP (ek:Option Nat) (cs:List WV):Option WV:=match ek with
 | none=>cs[0]?
 | some _=>some (Z1 cs)
def wW (ek:Option Nat):WV->Option (List CV)
 | .nils=>some []
 | .c (.frz _ [])=>some []
 | .c (.frz ek' xs)=>if ek'=ek then some xs else none
 | .view _ _ _ _ ek' xs=>if ek'=ek then some xs else none
 | .imm _ ek' xs=>if ek'=ek then some xs else none
 | _=>none
def sS (st:Bool):WV->Option Nat
 | .c (.str s)=>if st then some s.length else none
 | .c (.frz _ xs)=>if st then none else some xs.length
 | .nils=>if st then none else some 0
 | .view _ _ _ _ _ xs=>if st then none else some xs.length
 | .imm _ _ xs=>if st then none else some xs.length
 | _=>none
def ixW (ek:Option Nat) (x:WV) (i:Int):Option WV:=match x with
 | .c (.frz ek' xs)=>if ek'=ek/\0<=i then match xs[i.toNat]? with
    | some v=>some (.c (.fptr ek v 0))
    | none=>none
   else none
 | .view pl _ off _ ek' xs=>if ek'=ek/\0<=i then match xs[i.toNat]? with
    | some v=>some (.eptr pl (off+i.toNat) 0 ek v)
    | none=>none
   else none
 | .imm fz ek' xs=>if ek'=ek/\0<=i then match xs[i.toNat]? with
    | some v=>some (.iptr fz ek v 0)
    | none=>none
   else none
 | _=>none
def wK (st:Bool) (ek:Option Nat) (x:WV) (lo hi:Option Int):Option WV:=match x with
 | .c (.str s)=>
   let l:=lo.getD 0
   let h:=hi.getD s.length
   if st=true/\0<=l/\l<=h/\h<=s.length then some (.c (.str ((s.drop l.toNat).take (h.toNat - l.toNat)))) else none
 | .c (.frz ek' xs)=>
   let l:=lo.getD 0
   let h:=hi.getD xs.length
   if st=false/\(ek'=ek\/xs=[])/\0<=l/\l<=h/\h<=xs.length then some (.c (.frz ek' ((xs.drop l.toNat).take (h.toNat - l.toNat)))) else none
 | .nils=>
   let l:=lo.getD 0
   let h:=hi.getD 0
   if st=false/\0<=l/\l<=h/\h<=0 then some .nils else none
 | .view pl b off e ek' xs=>
   let l:=lo.getD 0
   let h:=hi.getD xs.length
   if ek'=ek/\st=false/\0<=l/\l<=h/\h<=xs.length then some (.view pl (b&&decide (l=0)) (off+l.toNat) e ek' ((xs.drop l.toNat).take (h.toNat - l.toNat))) else none
 | .imm fz ek' xs=>
   let l:=lo.getD 0
   let h:=hi.getD xs.length
   if ek'=ek/\st=false/\0<=l/\l<=h/\h<=xs.length then some (.imm fz ek' ((xs.drop l.toNat).take (h.toNat - l.toNat))) else none
 | _=>none
def pK:WV->Option (CV×List Pl)
 | .c u=>some (u,[])
 | .nils=>some (.frz none [],[])
 | .view p _ _ _ ek xs=>some (.frz ek xs,[p])
 | .imm true ek xs=>some (.frz ek xs,[])
 | _=>none
def pL:List WV->Option (List CV×List Pl)
 | []=>some ([],[])
 | v::r=>match pK v,pL r with
   | some (u,p),some (l,ps)=>some (u::l,p++ps)
   | _,_=>none
def uJ:WV->Option (CV×List Pl)
 | .agg cs=>match pL cs with
   | some (l,ps)=>some (.agg l,ps)
   | none=>none
 | v=>pK v
def Q8 (ek:Option Nat) (p:WV) (H:q9):Option WV:=match p with
 | .c (.fptr ek' x off)=>(P4 ek' ek x off).map .c
 | .ptr id off=>match H[id]? with
   | some (.var _ cs)=>X6 ek (qN (Pl.hp id) 0 cs) off
   | none=>none
 | .eptr _ _ off ek' x=>(P4 ek' ek x off).map .c
 | .iptr _ ek' x off=>(P4 ek' ek x off).map .c
 | _=>none
def U8 (i:Nat) (f:CV->Option CV):WV->Option WV
 | .own b e ek xs=>match xs[i]? with
   | some x=>match f x with
     | some x'=>some (.own b e ek (xs.set i x'))
     | none=>none
   | none=>none
 | _=>none
def W7 (i:Nat) (f:CV->Option CV):Nat->List WV->Option (List WV)
 | 0,v::r=>match U8 i f v with
   | some v'=>some (v'::r)
   | none=>none
 | k+1,v::r=>match W7 i f k r with
   | some r'=>some (v::r')
   | none=>none
 | _,[]=>none
def V3 (i k:Nat) (f:CV->Option CV):WV->Option WV
 | .agg cs=>match W7 i f k cs with
   | some cs'=>some (.agg cs')
   | none=>none
 | v=>if k=0 then U8 i f v else none
def dJ (i k:Nat) (f:CV->Option CV):WV->Option WV
 | .lbox ek v=>match V3 i k f v with
   | some v'=>some (.lbox ek v')
   | none=>none
 | v=>V3 i k f v
def bY (pl:Pl) (i:Nat) (f:CV->Option CV) (fr:WFr) (H:q9):Option (WFr×q9):=match pl with
 | .sl s 0 k=>match dJ i k f (fr.env s) with
   | some v=>some ({ fr with env:=upd fr.env s v },H)
   | none=>none
 | .hp id k=>match H[id]? with
   | some (.var ek cs)=>match W7 i f k cs with
     | some cs'=>some (fr,H.set id (.var ek cs'))
     | none=>none
   | none=>none
 | _=>none
def rV (ek:Option Nat) (u:CV) (ek':Option Nat) (off:Nat) (x:CV):Option CV:=
 if fits ek u=true then
  if off=0/\ek'=ek then some u
  else if off+u.flat.length<=x.flat.length then match J1 ek' (uH x.flat off u.flat) with
   | some x'=>if fits ek' x'=true then some x' else none
   | none=>none
  else none
 else none
def zD (p:Pl):WV->WV
 | .view p' b off e ek xs=>if p'=p then .gone else .view p' b off e ek xs
 | .eptr p' i off ek x=>if p'=p then .gone else .eptr p' i off ek x
 | v=>v
def zW (p:Pl):WV->WV
 | .agg cs=>.agg (cs.map (zD p))
 | v=>zD p v
def blind (p:Pl):WV->WV
 | .tup vs=>.tup (vs.map (zW p))
 | .lbox ek v=>.lbox ek (zW p v)
 | v=>zW p v
def mX (p:Pl) (fr:WFr):WFr:={ fr with env:=fun s=>blind p (fr.env s) }
def vX (ek:Option Nat) (p:WV) (v:WV) (fr:WFr) (H:q9):Option (WFr×q9):=match p with
 | .ptr id off=>if fitsW ek v=true then match take v fr H with
   | none=>none
   | some (v',fr1,H1)=>match H1[id]? with
     | some (.var ek' cs)=>
       if off+v'.flat.length<=cs.length then
        some (if v'.flat.any D3=true then D1 (mU id off v'.flat.length) false fr1 else fr1,H1.set id (.var ek' (R2 cs off v'.flat)))
       else none
     | none=>none
   else none
 | .eptr pl i off ek' _=>match uJ v with
   | some (u,ps)=>match O9 ps true fr H with
     | (fr1,H1)=>match bY pl i (rV ek u ek' off) fr1 H1 with
       | some (fr2,H2)=>some (mX pl fr2,H2)
       | none=>none
   | none=>none
 | _=>none
def tP (k:Nat):WV->Option Bool
 | .c v=>qT k v
 | .ptr _ _=>if k=0 then some false else none
 | .fn _ _ _=>if k=2 then some false else none
 | .nils=>if k=3 then some true else none
 | .view _ _ _ _ _ _=>if k=3 then some false else none
 | .imm _ _ _=>if k=3 then some false else none
 | _=>none
def vT (ek:Option Nat):WV->Option (List CV)
 | .c (.str s)=>if ek=none then some (bytesV s) else none
 | x=>wW ek x
def appW (e:Nat) (ek:Option Nat) (bytes:Nat) (s x:WV) (dst:Option Nat) (fr:WFr) (H:q9):Option (WFr×q9):=
 match vT ek x with
 | none=>none
 | some new=>match s with
   | .nils=>if new=[] then some (fr.put dst .nils,H) else if new.length * bytes<=lim/\new.length<=lim then some (fr.put dst (.own true e ek new),H) else none
   | .view pl true 0 e' ek' xs=>
     if e'=e/\ek'=ek/\(xs.length+new.length) * bytes<=lim/\xs.length+new.length<=lim then
      match O9 [pl] false fr H with
      | (fr1,H1)=>some (fr1.put dst (.own true e ek (xs++new)),H1)
     else none
   | _=>none
def yM:Option Nat->WV->Bool
 | none,v=>dM v
 | some n,.c v=>fits (some n) v
 | some n,.agg cs=>cs.length==n&&cs.all dM
 | _,_=>false
def pR (n:Nat) (v:WV):Bool:=yM (some n) v||(n==1&&yM none v)
def wP (cs:List WV):List (Nat×Nat×WV)->Option (List WV)
 | []=>some cs
 | (off,n,v)::r=>if pR n v=true/\off+n<=cs.length then wP (R2 cs off v.flat) r else none
def zS (ek:Option Nat) (xs:List CV):List (Nat×WV)->Option (List CV×List Pl)
 | []=>some (xs,[])
 | (i,v)::r=>match uJ v with
   | some (u,ps)=>if i<xs.length/\fits ek u=true then match zS ek (xs.set i u) r with
      | some (l,qs)=>some (l,ps++qs)
      | none=>none
     else none
   | none=>none
def zJ (fr:WFr):Option Opd->Option (Option Int)
 | none=>some none
 | some x=>match Y4 (fr.rd x) with
   | some i=>some (some i)
   | none=>none
def plainW:WV->Bool
 | .c _=>true
 | .nils=>true
 | .ptr _ _=>true
 | _=>false
def kY (s d:Nat):Pl->Bool
 | .sl t _ _=>decide (t=s)||decide (t=d)
 | _=>false
def xG (d s:Nat) (v:WV) (fr:WFr) (H:q9):Option (WFr×q9):=
 match B6 v with
 | []=>some (fr.put (some d) v,H)
 | ps=>if ps.all (kY s d)=true then match take v fr H with
    | some (v',fr',H')=>some (fr'.put (some d) v',H')
    | none=>none
   else some (fr.put (some d) v,H)
def M5 (dst:Option Nat) (fr:WFr) (H:q9):Option WV->Option (WFr×q9)
 | some v=>some (fr.put dst v,H)
 | none=>none
def y8 (o:IOp) (dst:Option Nat) (fr:WFr) (H:q9):Option (WFr×q9):=
 match o with
 | .mv x=>match fr.place x with
   | some (b,off)=>xO dst b off fr H
   | none=>if okW (fr.rd x)=true then match dst,x with
     | some d,.t s=>if d<s then xG d s (fr.rd x) fr H else some (fr.put dst (fr.rd x),H)
     | _,_=>some (fr.put dst (fr.rd x),H)
     else none
 | .un op x=>match fr.rd x with
   | .c a=>M5 dst fr H ((unC op a).map .c)
   | _=>none
 | .bin op x y=>match fr.rd x,fr.rd y with
   | .c a,.c b=>M5 dst fr H ((S5 op a b).map .c)
   | _,_=>none
 | .eqs neg ks x y=>match fr.rd x,fr.rd y with
   | .c (.agg a),.c (.agg b)=>M5 dst fr H ((eqL ks a b).map fun v=>.c (.bool (if neg then !v else v)))
   | _,_=>none
 | .eqb neg x y=>match fr.rd x,fr.rd y with
   | .c (.bool a),.c (.bool b)=>some (fr.put dst (.c (.bool (if neg then !(a==b) else a==b))),H)
   | _,_=>none
 | .pick c a b=>match fr.rd c with
   | .c (.bool t)=>if okW (if t then fr.rd a else fr.rd b)=true then some (fr.put dst (if t then fr.rd a else fr.rd b),H) else none
   | _=>none
 | .load ek a=>match fr.place a with
   | some (b,off)=>match fr.env b with
     | .lbox ek' x=>M5 dst fr H (if off=0/\ek'=ek then some (G9 (Pl.sl b 0) x) else X6 ek (G9 (Pl.sl b 0) x).flat off)
     | _=>none
   | none=>M5 dst fr H (Q8 ek (fr.rd a) H)
 | .store ek a x=>match fr.place a with
   | some (b,off)=>
     if fitsW ek (fr.rd x)=true then match take (fr.rd x) fr H with
      | none=>none
      | some (v',fr1,H1)=>match fr1.env b with
        | .lbox ek' x0=>
          if off=0/\ek'=ek then some ({ env:=upd (D1 (I4 b) false fr1).env b (.lbox ek' v'),al:=fr1.al },H1)
          else if off+v'.flat.length<=x0.flat.length/\O7 x0=true/\x0.flat.isEmpty=false then
           match mP ek' (R2 x0.flat off v'.flat) with
           | some x'=>if fitsW ek' x'=true then some ({ env:=upd (D1 (xJ b off v'.flat.length) false fr1).env b (.lbox ek' x'),al:=fr1.al },H1) else none
           | none=>none
          else none
        | _=>none
     else none
   | none=>match fr.rd a,dst with
     | p,none=>vX ek p (fr.rd x) fr H
     | _,_=>none
 | .faddr n a=>match fr.place a with
   | some (b,off)=>xO dst b (off+n) fr H
   | none=>match fr.rd a with
     | .ptr id off=>some (fr.put dst (.ptr id (off+n)),H)
     | .eptr pl i off ek x=>some (fr.put dst (.eptr pl i (off+n) ek x),H)
     | .iptr fz ek x off=>some (fr.put dst (.iptr fz ek x (off+n)),H)
     | .c (.fptr ek x off)=>some (fr.put dst (.c (.fptr ek x (off+n))),H)
     | _=>none
 | .nck a=>match fr.place a with
   | some (b,off)=>xO dst b off fr H
   | none=>match fr.rd a with
     | .ptr id off=>some (fr.put dst (.ptr id off),H)
     | .eptr pl i off ek x=>some (fr.put dst (.eptr pl i off ek x),H)
     | .iptr fz ek x off=>some (fr.put dst (.iptr fz ek x off),H)
     | .c (.fptr ek x off)=>some (fr.put dst (.c (.fptr ek x off)),H)
     | _=>none
 | .fld ek off x=>match ze7 (fr.rd x) with
   | some cs=>M5 dst fr H (X6 ek cs off)
   | none=>none
 | .cvs x=>match fr.rd x with
   | .c (.str s)=>some (fr.put dst (.c (.str s)),H)
   | _=>none
 | .fbox ek x=>match fr.rd x with
   | .c v=>if fits ek v=true then some (fr.put dst (.c (.fptr ek v 0)),H) else none
   | _=>none
 | .ix ek x i=>match Y4 (fr.rd i) with
   | some n=>M5 dst fr H (ixW ek (fr.rd x) n)
   | none=>none
 | .six x i=>match fr.rd x,Y4 (fr.rd i) with
   | .c (.str s),some n=>if 0<=n then match s[n.toNat]? with
      | some b=>some (fr.put dst (.c (.int .u8 b.toNat)),H)
      | none=>none
     else none
   | _,_=>none
 | .slc st ek x lo hi=>match zJ fr lo,zJ fr hi with
   | some l,some h=>M5 dst fr H (wK st ek (fr.rd x) l h)
   | _,_=>none
 | .len st x=>match sS st (fr.rd x) with
   | some n=>some (fr.put dst (.c (.int .i64 n)),H)
   | none=>none
 | .app e ek bytes s x=>appW e ek bytes (fr.rd s) (fr.rd x) dst fr H
 | .build zero parts=>if zero.all isC=true then match wP (zero.map qB) (parts.map fun p=>(p.1,p.2.1,fr.rd p.2.2)) with
   | some cs=>some (fr.put dst (Z1 cs),H)
   | none=>none
   else none
 | .bsl fz e ek zero n parts=>match J1 ek zero with
   | some z=>if fits ek z=true then match zS ek (List.replicate n z) (parts.map fun p=>(p.1,fr.rd p.2)) with
     | some (xs,ps)=>match O9 ps true fr H with
       | (fr1,H1)=>some (fr1.put dst (if fz then .c (.frz ek xs) else .own true e ek xs),H1)
     | none=>none
     else none
   | none=>none
 | .lbox ek x=>match dst with
   | some d=>if fitsW ek (fr.rd x)=true then match take (fr.rd x) fr H with
      | some (v,fr1,H1)=>some ({ env:=upd (D1 (I4 d) false fr1).env d (.lbox ek v),al:=unlink d fr.al },H1)
      | none=>none
     else none
   | none=>none
 | .hbox ek x=>if fitsW (ekB ek) (fr.rd x)=true then match take (fr.rd x) fr H with
    | some (v,fr1,H1)=>some (fr1.put dst (.ptr H1.length 0),H1++[.var ek v.flat])
    | none=>none
   else none
 | .b2s x=>match (wW none (fr.rd x)).bind M3 with
   | some l=>some (fr.put dst (.c (.str l)),H)
   | none=>none
 | .mkf f first cap=>
   let a:=first.map fr.rd
   let b:=cap.map fr.rd
   if a.all plainW=true/\b.all plainW=true then some (fr.put dst (match J5 a,J5 b with
    | some x,some y=>.c (.fn f x y)
    | _,_=>.fn f a b),H) else none
 | .ext x i=>match x with
   | .t s=>match fr.env s with
     | .tup vs=>match vs[i]? with
       | some v=>match take (G9 (Pl.sl s i) v) fr H with
         | some (v',fr',H')=>some (fr'.put dst v',H')
         | none=>none
       | none=>none
     | _=>none
   | .k _=>none
 | .tyck T n x=>match fr.rd x with
   | .ptr id 0=>match H[id]? with
     | some (.var ek cs)=>if S6 ek=some T/\cs.length=n then some (fr.put dst (.ptr id 0),H) else none
     | _=>none
   | _=>none
 | .rowck e x=>match fr.rd x with
   | .nils=>some (fr.put dst (.c (.bool true)),H)
   | .view _ true 0 e' none xs=>if e'=e/\0<xs.length/\vS xs=true then some (fr.put dst (.c (.bool false)),H) else none
   | _=>none
 | .peq x y=>match fr.rd x,fr.rd y with
   | .ptr i a,.ptr j b=>some (fr.put dst (.c (.bool (decide (i=j/\a=b)))),H)
   | _,_=>none
 | .isn neg k x=>match tP k (fr.rd x) with
   | some b=>some (fr.put dst (.c (.bool (if neg then !b else b))),H)
   | none=>none
 | .cvt k x=>match fr.rd x with
   | .c (.int _ n)=>some (fr.put dst (.c (.int k (k.wrap n))),H)
   | _=>none
 | .mx isMax x y=>match fr.rd x,fr.rd y with
   | .c (.int k a),.c (.int _ b)=>some (fr.put dst (.c (.int k (if isMax then max a b else min a b))),H)
   | _,_=>none
 | .call _ _=>none
 | .callv _ _=>none
abbrev C9:=Nat->List WV->q9->Option (WV×q9)
structure WEnv where
 fn:Nat->Option IFn
 md:Nat->Md
 tk:Nat->List Nat
 ext:Nat->Option (List CV->Option (List CV)):=fun _=>none
 ar:Nat->Option Nat:=fun _=>none
abbrev WEnv.fnA (E:WEnv) (f n:Nat):Option IFn:=Z2 (E.ar f) n (E.fn f)
def J2:WV->Option CV
 | .c v=>some v
 | .nils=>some (.frz none [])
 | .view _ _ _ _ ek xs=>some (.frz ek xs)
 | .imm _ ek xs=>some (.frz ek xs)
 | _=>none
def jU:List WV->Option (List CV)
 | []=>some []
 | x::r=>match J2 x,jU r with
   | some a,some b=>some (a::b)
   | _,_=>none
def gW:WV->Option CV
 | .agg cs=>match jU cs with
   | some l=>some (.agg l)
   | none=>none
 | v=>J2 v
def uF (H:q9):WV->Option CV
 | .ptr id off=>match H[id]? with
   | some (.var ek cs)=>match jU (qN (Pl.hp id) 0 cs) with
     | some l=>if l.length=g7 ek then match J1 ek l with
       | some x=>some (.fptr ek x off)
       | none=>none
       else none
     | none=>none
   | none=>none
 | v=>gW v
def yY (H:q9):List WV->Option (List CV)
 | []=>some []
 | x::r=>match uF H x,yY H r with
   | some a,some b=>some (a::b)
   | _,_=>none
def vN (H:q9):WV->Option CV
 | .fn f first cap=>match yY H first,yY H cap with
   | some a,some b=>some (.fn f a b)
   | _,_=>none
 | v=>uF H v
def K4 (H:q9):List WV->Option (List WV)
 | []=>some []
 | x::r=>match vN H x,K4 H r with
   | some a,some b=>some (.c a::b)
   | _,_=>none
def shut1:WV->Option CV
 | .own _ _ ek xs=>some (.frz ek xs)
 | v=>J2 v
def uM:List WV->Option (List CV)
 | []=>some []
 | x::r=>match shut1 x,uM r with
   | some a,some b=>some (a::b)
   | _,_=>none
def zN:WV->Option CV
 | .agg cs=>match uM cs with
   | some l=>some (.agg l)
   | none=>none
 | v=>shut1 v
def qP:List WV->Option (List WV)
 | []=>some []
 | x::r=>match zN x,qP r with
   | some a,some b=>some (.c a::b)
   | _,_=>none
def shut:WV->Option WV
 | .tup vs=>match qP vs with
   | some l=>some (.tup l)
   | none=>none
 | v=>match zN v with
   | some u=>some (.c u)
   | none=>none
def U3:WV->Bool
 | .c _=>true
 | .nils=>true
 | _=>false
def noRefW:WV->Bool
 | .c (.agg l)=>l.all Z8
 | .c v=>Z8 v
 | .tup vs=>noRefWL vs
 | _=>false
where noRefWL:List WV->Bool
 | []=>true
 | .c (.agg l)::r=>l.all Z8&&noRefWL r
 | .c v::r=>Z8 v&&noRefWL r
 | _::_=>false
def wU:WV->Bool
 | .fn _ _ _=>false
 | .ptr _ _=>false
 | _=>true
def gI:WV->Bool
 | .imm false _ _=>true
 | .eptr _ _ _ _ _=>true
 | .iptr _ _ _ _=>true
 | _=>false
def pI:WV->Bool
 | .agg cs=>cs.any gI
 | v=>gI v
def uP:WV->WV
 | .view (.sl _ _ _) _ _ _ ek xs=>.imm false ek xs
 | .view (.hp id k) b off e ek xs=>.view (.hp id k) b off e ek xs
 | .view (.tmp _ _) _ _ _ _ _=>.gone
 | .eptr (.sl _ _ _) _ off ek x=>.iptr false ek x off
 | .eptr (.tmp _ _) _ _ _ _=>.gone
 | .own _ _ _ _=>.gone
 | v=>v
def pT:WV->WV
 | .agg cs=>.agg (cs.map uP)
 | .tup _=>.undef
 | .lbox _ _=>.undef
 | v=>uP v
def kU:WV->WV
 | .view _ b _ e ek xs=>.own b e ek xs
 | .eptr _ _ _ _ _=>.gone
 | .own _ _ _ _=>.gone
 | v=>v
def dQ:WV->WV
 | .agg cs=>.agg (cs.map kU)
 | .tup _=>.undef
 | .lbox _ _=>.undef
 | v=>kU v
def H7:List WV->List Pl
 | []=>[]
 | v::r=>E4 v++H7 r
def N2 (tk:List Nat):Nat->List WV->List Pl
 | _,[]=>[]
 | j,v::r=>(if tk.contains j=true then E4 v else [])++N2 tk (j+1) r
def wS:WV->List Pl
 | .view p _ _ _ _ _=>[p]
 | .eptr p _ _ _ _=>[p]
 | _=>[]
def bK:WV->List Pl
 | .agg cs=>cs.flatMap wS
 | v=>wS v
def vW (tk:List Nat):Nat->List WV->List Pl
 | _,[]=>[]
 | j,v::r=>(if tk.contains j=true then [] else bK v)++vW tk (j+1) r
def W8 (tk:List Nat):Nat->List WV->List WV
 | _,[]=>[]
 | j,v::r=>(if tk.contains j=true then dQ v else pT v)::W8 tk (j+1) r
section
variable (E:WEnv) (call:C9)
def O1 (f:Nat) (args:List WV) (dst:Option Nat) (fr:WFr) (H:q9):Option (WFr×q9):=
 match E.md f with
 | .S=>
   if args.all okA=true/\(N2 (E.tk f) 0 args).Nodup/\(N2 (E.tk f) 0 args).all (fun p=>!(vW (E.tk f) 0 args).contains p)=true then
    match O9 (N2 (E.tk f) 0 args) false fr H with
    | (fr1,H1)=>match call f (W8 (E.tk f) 0 args) H1 with
      | none=>none
      | some (r,H2)=>some ((D1 H4 false fr1).put dst r,H2)
   else none
 | .P=>match K4 H args with
   | none=>none
   | some a5=>match call f a5 [] with
     | none=>none
     | some (r,_)=>match shut r with
       | none=>none
       | some r'=>
         if args.all U3||noRefW r' then some (fr.put dst r',H)
         else if args.all wU&&!args.any pI then match O9 (H7 args) true fr H with
          | (fr1,H1)=>some (fr1.put dst r',H1)
         else none
def xE (v:WV) (args:List WV):Option (Nat×List WV):=match v with
 | .c (.fn f first cap)=>some (f,first.map .c++args++cap.map .c)
 | .fn f first cap=>some (f,first++args++cap)
 | _=>none
def wOp (o:IOp) (dst:Option Nat) (fr:WFr) (H:q9):Option (WFr×q9):=match o with
 | .call f args=>O1 E call f (args.map fr.rd) dst fr H
 | .callv x args=>match xE (fr.rd x) (args.map fr.rd) with
   | some (f,a5)=>O1 E call f a5 dst fr H
   | none=>none
 | o=>y8 o dst fr H
def M9 (o:IOper) (fr:WFr) (H:q9):Option (WFr×q9):=match o.guard with
 | none=>wOp E call o.op o.dst fr H
 | some (s,want)=>match fr.env s with
   | .c (.bool b)=>if b=want then wOp E call o.op o.dst fr H else some (fr.put o.dst .skipv,H)
   | .skipv=>some (fr.put o.dst .skipv,H)
   | _=>none
def M7:List IOper->WFr->q9->Option (WFr×q9)
 | [],fr,H=>some (fr,H)
 | o::r,fr,H=>match M9 E call o fr H with
   | some (fr',H')=>M7 r fr' H'
   | none=>none
def O3 (fr:WFr):Option Nat->Bool
 | none=>true
 | some d=>match fr.env d with
   | .lbox _ _=>false
   | _=>true
def wD (c:Cls) (o:IOp) (dst:Option Nat) (fr:WFr) (H:q9):Option (WFr×q9):=
 match c with
 | .pure=>match o with
   | .bsl fz e ek z n ps=>if fz=true/\(ps.all fun p=>U3 (fr.rd p.2))=true then y8 (.bsl fz e ek z n ps) dst fr H else none
   | o=>if Q5 o=true then y8 o dst fr H else none
 | .rdb=>match o with
   | .load ek a=>if (fr.place a).isSome=true then y8 (.load ek a) dst fr H else none
   | _=>none
 | .wrb=>match o with
   | .store ek a x=>if (fr.place a).isSome=true/\dst=none then y8 (.store ek a x) dst fr H else none
   | _=>none
 | .rd=>match o with
   | .load ek a=>if (fr.place a).isSome=true then none else y8 (.load ek a) dst fr H
   | .ix ek x i=>y8 (.ix ek x i) dst fr H
   | .slc st ek x lo hi=>y8 (.slc st ek x lo hi) dst fr H
   | .call f args=>match E.md f with
     | .P=>match K4 H (args.map fr.rd) with
       | none=>none
       | some a5=>match call f a5 [] with
         | none=>none
         | some (r,_)=>match shut r with
           | none=>none
           | some r'=>if noRefW r'=true\/(args.map fr.rd).all U3=true then some (fr.put dst r',H) else none
     | .S=>none
   | _=>none
 | .wr=>match o with
   | .store ek a x=>if (fr.place a).isSome=true\/dst≠none then none else y8 (.store ek a x) dst fr H
   | .app e ek n s x=>y8 (.app e ek n s x) dst fr H
   | .bsl fz e ek z n ps=>y8 (.bsl fz e ek z n ps) dst fr H
   | .call f args=>wOp E call (.call f args) dst fr H
   | .callv x args=>wOp E call (.callv x args) dst fr H
   | _=>none
 | .hb=>match o with
   | .hbox ek x=>y8 (.hbox ek x) dst fr H
   | _=>none
 | .lb=>match o with
   | .lbox ek x=>y8 (.lbox ek x) dst fr H
   | _=>none
def Q3 (c:Cls) (o:IOper) (fr:WFr) (H:q9):Option (WFr×q9):=
 match o.guard with
 | none=>wD E call c o.op o.dst fr H
 | some (s,want)=>match fr.env s with
   | .c (.bool b)=>if b=want then wD E call c o.op o.dst fr H else some (fr.put o.dst .skipv,H)
   | .skipv=>some (fr.put o.dst .skipv,H)
   | _=>none
def L8 (c:Cls) (o:IOper) (fr:WFr) (H:q9):Option (WFr×q9):=
 if O3 fr o.dst=true then match Q3 E call c o fr H with
  | some (fr',H')=>if c=.lb\/O3 fr' o.dst=true then some (fr',H') else none
  | none=>none
 else none
def N1:List (Cls×IOper)->WFr->q9->Option (WFr×q9)
 | [],fr,H=>some (fr,H)
 | (c,o)::r,fr,H=>match L8 E call c o fr H with
   | some (fr',H')=>N1 r fr' H'
   | none=>none
abbrev A4:=WFr->q9->Option (Ex×WFr×q9)
def Q0 (l:Nat):Option (Ex×WFr×q9)->Option (Ex×WFr×q9)
 | some (.goto l',fr,H)=>if l'=l then some (.nrm,fr,H) else none
 | some (.nrm,fr,H)=>some (.goto l,fr,H)
 | r=>r
def wR (l:Nat):Option (Ex×WFr×q9)->Option (Ex×WFr×q9)
 | some (.goto l',fr,H)=>if l'=l then some (.nrm,fr,H) else some (.goto l',fr,H)
 | r=>r
def jW (live:List Nat):Pl->Bool
 | .sl s _ _=>!live.contains s
 | _=>false
def J8 (live:List Nat) (fr:WFr):WFr:={ env:=J9 (live.map fun s=>(s,hit (jW live) false (Pl.sl s) (fr.env s))),al:=f0 }
variable (it:A4->A4)
def wC:ICode->A4
 | .skip,fr,H=>some (.nrm,fr,H)
 | .region ops,fr,H=>match M7 E call ops { fr with al:=f0 } H with
   | some (fr',H')=>some (.nrm,fr',H')
   | none=>none
 | .regionD ops,fr,H=>match N1 E call ops { fr with al:=f0 } H with
   | some (fr',H')=>some (.nrm,fr',H')
   | none=>none
 | .seq a b,fr,H=>match wC a fr H with
   | some (.nrm,fr',H')=>wC b fr' H'
   | r=>r
 | .cond c x y,fr,H=>match fr.rd c with
   | .c (.bool b)=>if b then wC x fr H else wC y fr H
   | _=>none
 | .block id body,fr,H=>match wC body fr H with
   | some (.exit i,fr',H')=>if i=id then some (.nrm,fr',H') else some (.exit i,fr',H')
   | r=>r
 | .loop live body,fr,H=>it (fun fr H=>wC body (J8 live fr) H) fr H
 | .exit id,fr,H=>some (.exit id,fr,H)
 | .scope l live body rest,fr,H=>match wC body fr H with
   | some (.goto l',fr',H')=>if l'=l then wR l (it (fun fr H=>Q0 l (wC rest (J8 live fr) H)) fr' H') else none
   | r=>r
 | .label _,fr,H=>some (.nrm,fr,H)
 | .keep live,fr,H=>some (.nrm,J8 live fr,H)
 | .goto l,fr,H=>some (.goto l,fr,H)
 | .ret,fr,H=>some (.ret,fr,H)
def O2 (i:Nat):List WV->List (Nat×WV)
 | []=>[]
 | v::r=>(i,v)::O2 (i+1) r
def J4 (fr:WFr) (H:q9):List IRes->Option (List WV)
 | []=>some []
 | .tmp t::r=>match J4 fr H r with
   | some l=>some (G9 (Pl.sl t 0) (qV (fr.env t))::l)
   | none=>none
 | .cell a ek::r=>
   match (match fr.env a with
    | .lbox ek' x=>if ek'=ek then some (G9 (Pl.sl a 0) x) else none
    | p=>Q8 ek (peek (Pl.sl a) p) H),J4 fr H r with
   | some v,some l=>some (v::l)
   | _,_=>none
def I8:List WV->WV
 | [v]=>v
 | vs=>.tup vs
def R7 (n:Nat):Pl->Bool
 | .sl _ _ _=>true
 | .hp id _=>decide (n<=id)
 | .tmp _ _=>true
def qG:WV->Bool
 | .eptr _ _ _ _ _=>false
 | .iptr _ _ _ _=>false
 | .imm fz _ _=>fz
 | .tup _=>false
 | .lbox _ _=>false
 | _=>true
def M1:WV->Bool
 | .agg cs=>cs.all qG
 | v=>qG v
def leave1 (n:Nat):WV->WV
 | .view p b off e ek xs=>if R7 n p=true then .own b e ek xs else .view p b off e ek xs
 | v=>v
def S1 (n:Nat):WV->WV
 | .agg cs=>.agg (cs.map (leave1 n))
 | v=>leave1 n v
def qL (n:Nat) (vs:List WV) (H:q9):Option (WV×q9):=
 if ((H7 vs).filter (R7 n)).Nodup/\vs.all M1=true/\((H7 vs).filter (R7 n)=[]\/(H7 vs).all (R7 n)=true) then
  some (I8 (vs.map (S1 n)),D8 false ((H7 vs).filter (R7 n)) H)
 else none
def uY (args:List WV) (H:q9):Option (List CV->Option (List CV))->Option (WV×q9)
 | none=>none
 | some g=>match J5 args with
   | some xs=>match g xs with
     | some us=>some (I8 (us.map .c),H)
     | none=>none
   | none=>none
def wFn (f:Nat) (args:List WV) (H:q9):Option (WV×q9):=
 match E.fnA f args.length with
 | none=>uY args H (E.ext f)
 | some g=>match wC E call it g.body { env:=J9 (O2 0 args),al:=f0 } H with
   | some (.nrm,fr,H') | some (.ret,fr,H')=>match J4 fr H' g.res with
     | some vs=>qL H.length vs H'
     | none=>none
   | _=>none
end
def E7:Nat->A4->A4
 | 0,_,_,_=>none
 | n+1,s,fr,H=>match s fr H with
   | some (.nrm,fr',H')=>E7 n s fr' H'
   | r=>r
def wF (E:WEnv):Nat->C9
 | 0,_,_,_=>none
 | n+1,f,args,H=>wFn E (wF E n) (E7 n) f args H
end Go.Proofs.Lz
