/- The evaluator once more, with slices of one's own held a5 values in their places: definitions. -/
import Derived.Test.YtencoceemejcnaaGreatDoorLzEv
namespace Go.Proofs.Lz
inductive Pl where
 | sl (s i k:Nat)
 | hp (id k:Nat)
 | tmp (i k:Nat)
 deriving DecidableEq
inductive WV where
 | c (v:CV)
 | agg (cs:List WV)
 | tup (vs:List WV)
 | nils
 | own (b:Bool) (e:Nat) (ek:Option Nat) (xs:List CV)
 | view (pl:Pl) (b:Bool) (off:Nat) (e:Nat) (ek:Option Nat) (xs:List CV)
 | imm (fz:Bool) (ek:Option Nat) (xs:List CV)
 | ptr (id off:Nat)
 | eptr (pl:Pl) (i off:Nat) (ek:Option Nat) (x:CV)
 | iptr (fz:Bool) (ek:Option Nat) (x:CV) (off:Nat)
 | lbox (ek:Option Nat) (v:WV)
 | fn (f:Nat) (first cap:List WV)
 | skipv
 | undef
 | gone
 deriving Inhabited
inductive WO where
 | var (ek:Option Nat) (cs:List WV)
abbrev z18:=List WO
structure WFr where
 env:Nat→WV
 al:Nat→Option (Nat×Nat)
def zg1:List (Nat×WV)→Nat→WV
 | [],_=>.undef
 | (t,v)::r,s=>if s=t then v else zg1 r s
def zo7 (pl:Pl):WV→WV
 | .own b e ek xs=>.view pl b 0 e ek xs
 | v=>v
def qj6 (q:Nat→Pl):Nat→List WV→List WV
 | _,[]=>[]
 | k,v::r=>zo7 (q k) v::qj6 q (k+1) r
def zl3 (q:Nat→Pl):WV→WV
 | .agg cs=>.agg (qj6 q 0 cs)
 | v=>zo7 (q 0) v
def jk0 (q:Nat→Nat→Pl):Nat→List WV→List WV
 | _,[]=>[]
 | i,v::r=>zl3 (q i) v::jk0 q (i+1) r
def peek (q:Nat→Nat→Pl):WV→WV
 | .tup vs=>.tup (jk0 q 0 vs)
 | v=>zl3 (q 0) v
def zx7:WV→WV
 | .lbox _ _=>.undef
 | v=>v
def qi0:HV→WV
 | .c v=>.c v
 | .nils=>.nils
 | .lbox _ _=>.gone
 | _=>.undef
def okW:WV→Bool
 | .gone=>false
 | _=>true
def okA:WV→Bool
 | .gone=>false
 | .tup _=>false
 | _=>true
def ofHV:HV→WV
 | .agg cs=>if cs.all isC=true then .agg (cs.map qi0) else .gone
 | v=>qi0 v
def WFr.rd (fr:WFr):Opd→WV
 | .t i=>peek (Pl.sl i) (zx7 (fr.env i))
 | .k v=>ofHV v
def hit1 (K:Pl→Bool) (fz:Bool) (pl:Pl):WV→WV
 | .own b e ek xs=>if K pl=true then (if fz=true then .imm true ek xs else .gone) else .own b e ek xs
 | .view p b off e ek xs=>if K p=true then .gone else .view p b off e ek xs
 | .eptr p i off ek x=>if K p=true then .gone else .eptr p i off ek x
 | v=>v
def hitL (K:Pl→Bool) (fz:Bool) (q:Nat→Pl):Nat→List WV→List WV
 | _,[]=>[]
 | k,v::r=>hit1 K fz (q k) v::hitL K fz q (k+1) r
def hitC (K:Pl→Bool) (fz:Bool) (q:Nat→Pl):WV→WV
 | .agg cs=>.agg (hitL K fz q 0 cs)
 | v=>hit1 K fz (q 0) v
def hitT (K:Pl→Bool) (fz:Bool) (q:Nat→Nat→Pl):Nat→List WV→List WV
 | _,[]=>[]
 | i,v::r=>hitC K fz (q i) v::hitT K fz q (i+1) r
def hit (K:Pl→Bool) (fz:Bool) (q:Nat→Nat→Pl):WV→WV
 | .tup vs=>.tup (hitT K fz q 0 vs)
 | .lbox ek v=>.lbox ek (hitC K fz (q 0) v)
 | v=>hitC K fz (q 0) v
def inK (K:List Pl) (p:Pl):Bool:=K.any fun x=>decide (x=p)
def hitF (K:Pl→Bool) (fz:Bool) (fr:WFr):WFr:={ fr with env:=fun s=>hit K fz (Pl.sl s) (fr.env s) }
def hitH (fz:Bool):List Pl→z18→z18
 | [],H=>H
 | .hp id k::r,H=>hitH fz r (match H[id]? with
   | some (.var ek cs)=>H.set id (.var ek (match cs[k]? with
     | some v=>cs.set k (hit1 (fun _=>true) fz (.hp id k) v)
     | none=>cs))
   | none=>H)
 | _::r,H=>hitH fz r H
def zh3 (K:List Pl) (fz:Bool) (fr:WFr) (H:z18):WFr×z18:=match K with
 | []=>(fr,H)
 | K=>(hitF (inK K) fz fr,hitH fz K H)
def src1:WV→List Pl
 | .view p _ _ _ _ _=>[p]
 | _=>[]
def srcL:List WV→List Pl
 | []=>[]
 | v::r=>src1 v++srcL r
def srcC:WV→List Pl
 | .agg cs=>srcL cs
 | v=>src1 v
def srcT:List WV→List Pl
 | []=>[]
 | v::r=>srcC v++srcT r
def srcs:WV→List Pl
 | .tup vs=>srcT vs
 | v=>srcC v
def ze2:WV→WV
 | .view _ b _ e ek xs=>.own b e ek xs
 | .eptr _ _ _ _ _=>.gone
 | v=>v
def z62:WV→WV
 | .agg cs=>.agg (cs.map ze2)
 | v=>ze2 v
def zg7:WV→WV
 | .tup vs=>.tup (vs.map z62)
 | v=>z62 v
def z88:WV→Bool
 | .own _ _ _ _=>true
 | _=>false
def za4:WV→Bool
 | .agg cs=>cs.any z88
 | v=>z88 v
def z89:WV→Bool
 | .tup vs=>vs.any za4
 | .lbox _ v=>za4 v
 | v=>za4 v
def zj9:WV→Bool
 | .view _ _ _ _ _ _=>false
 | .eptr _ _ _ _ _=>false
 | _=>true
def zf1:WV→Bool
 | .agg cs=>cs.all zj9
 | v=>zj9 v
def noView:WV→Bool
 | .tup vs=>vs.all zf1
 | .lbox _ v=>zf1 v
 | v=>zf1 v
def ze0 (d:Nat):Pl→Bool
 | .sl s _ _=>decide (s=d)
 | _=>false
def inSl (b off n:Nat):Pl→Bool
 | .sl s i k=>decide (s=b)&&decide (i=0)&&decide (off≤k)&&decide (k<off+n)
 | _=>false
def inHp (id off n:Nat):Pl→Bool
 | .hp j k=>decide (j=id)&&decide (off≤k)&&decide (k<off+n)
 | _=>false
def isHp:Pl→Bool
 | .hp _ _=>true
 | _=>false
def WFr.put1 (fr:WFr) (d:Nat) (v:WV):WFr:={ env:=upd fr.env d v,al:=upd fr.al d none }
def WFr.putD (fr:WFr) (d:Nat) (v:WV):WFr:=
 if z89 v=true then (hitF (ze0 d) false fr).put1 d v else fr.put1 d v
def WFr.put (fr:WFr) (dst:Option Nat) (v:WV):WFr:=match dst with
 | none=>fr
 | some d=>fr.putD d v
def WFr.link (fr:WFr) (dst:Option Nat) (b off:Nat):WFr:=match dst with
 | none=>fr
 | some d=>{ env:=upd fr.env d .undef,al:=upd fr.al d (some (b,off)) }
def q19 (dst:Option Nat) (b off:Nat) (fr:WFr) (H:z18):Option (WFr×z18):=if dst=some b then none else some (fr.link dst b off,H)
def WFr.place (fr:WFr) (x:Opd):Option (Nat×Nat):=match x with
 | .k _=>none
 | .t i=>match fr.al i with
   | some (b,off)=>match fr.env b with
     | .lbox _ _=>some (b,off)
     | _=>none
   | none=>match fr.env i with
     | .lbox _ _=>some (i,0)
     | _=>none
def take (v:WV) (fr:WFr) (H:z18):Option (WV×WFr×z18):=
 if (srcs v).Nodup then match zh3 (srcs v) false fr H with
  | (fr',H')=>some (zg7 v,fr',H')
 else none
def wint:WV→Option Int
 | .c (.int _ n)=>some n
 | _=>none
def z87:List WV→Option (List CV)
 | []=>some []
 | .c v::r=>match z87 r with
   | some l=>some (v::l)
   | none=>none
 | _::_=>none
def zu5 (cs:List WV):WV:=match z87 cs with
 | some l=>.c (.agg l)
 | none=>.agg cs
def WV.flat:WV→List WV
 | .agg cs=>cs
 | .c (.agg l)=>l.map .c
 | .undef=>[]
 | .gone=>[]
 | v=>[v]
def aggW:WV→Option (List WV)
 | .agg cs=>some cs
 | .c (.agg l)=>some (l.map .c)
 | _=>none
def cellW:WV→Bool
 | .c (.agg _)=>false
 | .c _=>true
 | .nils=>true
 | .own _ _ _ _=>true
 | .view _ _ _ _ _ _=>true
 | .imm fz _ _=>fz
 | .ptr _ _=>true
 | .fn _ _ _=>true
 | _=>false
def w82:WV→Bool
 | .imm false _ _=>true
 | v=>cellW v
def fitsW:Option Nat→WV→Bool
 | none,v=>cellW v
 | some n,.c v=>fits (some n) v
 | some n,.agg cs=>cs.length==n&&cs.all cellW
 | _,_=>false
def q81 (ek:Option Nat) (cs:List WV) (off:Nat):Option WV:=match ek with
 | none=>cs[off]?
 | some n=>if off+n≤cs.length then some (zu5 ((cs.drop off).take n)) else none
def za0 (cs:List WV) (off:Nat) (new:List WV):List WV:=cs.take off++new++cs.drop (off+new.length)
def qs5 (ek:Option Nat) (cs:List WV):Option WV:=match ek with
 | none=>cs[0]?
 | some _=>some (zu5 cs)
def q89 (ek:Option Nat):WV→Option (List CV)
 | .nils=>some []
 | .c (.frz _ [])=>some []
 | .c (.frz ek' xs)=>if ek'=ek then some xs else none
 | .view _ _ _ _ ek' xs=>if ek'=ek then some xs else none
 | .imm _ ek' xs=>if ek'=ek then some xs else none
 | _=>none
def lenW (st:Bool):WV→Option Nat
 | .c (.str s)=>if st then some s.length else none
 | .c (.frz _ xs)=>if st then none else some xs.length
 | .nils=>if st then none else some 0
 | .view _ _ _ _ _ xs=>if st then none else some xs.length
 | .imm _ _ xs=>if st then none else some xs.length
 | _=>none
def ixW (ek:Option Nat) (x:WV) (i:Int):Option WV:=match x with
 | .c (.frz ek' xs)=>if ek'=ek∧0≤i then match xs[i.toNat]? with
    | some v=>some (.c (.fptr ek v 0))
    | none=>none
   else none
 | .view pl _ off _ ek' xs=>if ek'=ek∧0≤i then match xs[i.toNat]? with
    | some v=>some (.eptr pl (off+i.toNat) 0 ek v)
    | none=>none
   else none
 | .imm fz ek' xs=>if ek'=ek∧0≤i then match xs[i.toNat]? with
    | some v=>some (.iptr fz ek v 0)
    | none=>none
   else none
 | _=>none
def slcW (st:Bool) (ek:Option Nat) (x:WV) (lo hi:Option Int):Option WV:=match x with
 | .c (.str s)=>
   let l:=lo.getD 0
   let h:=hi.getD s.length
   if st=true∧0≤l∧l≤h∧h≤s.length then some (.c (.str ((s.drop l.toNat).take (h.toNat - l.toNat)))) else none
 | .c (.frz ek' xs)=>
   let l:=lo.getD 0
   let h:=hi.getD xs.length
   if st=false∧(ek'=ek∨xs=[])∧0≤l∧l≤h∧h≤xs.length then some (.c (.frz ek' ((xs.drop l.toNat).take (h.toNat - l.toNat)))) else none
 | .nils=>
   let l:=lo.getD 0
   let h:=hi.getD 0
   if st=false∧0≤l∧l≤h∧h≤0 then some .nils else none
 | .view pl b off e ek' xs=>
   let l:=lo.getD 0
   let h:=hi.getD xs.length
   if ek'=ek∧st=false∧0≤l∧l≤h∧h≤xs.length then some (.view pl (b&&decide (l=0)) (off+l.toNat) e ek' ((xs.drop l.toNat).take (h.toNat - l.toNat))) else none
 | .imm fz ek' xs=>
   let l:=lo.getD 0
   let h:=hi.getD xs.length
   if ek'=ek∧st=false∧0≤l∧l≤h∧h≤xs.length then some (.imm fz ek' ((xs.drop l.toNat).take (h.toNat - l.toNat))) else none
 | _=>none
def qz3:WV→Option (CV×List Pl)
 | .c u=>some (u,[])
 | .nils=>some (.frz none [],[])
 | .view p _ _ _ ek xs=>some (.frz ek xs,[p])
 | .imm true ek xs=>some (.frz ek xs,[])
 | _=>none
def qw5:List WV→Option (List CV×List Pl)
 | []=>some ([],[])
 | v::r=>match qz3 v,qw5 r with
   | some (u,p),some (l,ps)=>some (u::l,p++ps)
   | _,_=>none
def qm2:WV→Option (CV×List Pl)
 | .agg cs=>match qw5 cs with
   | some (l,ps)=>some (.agg l,ps)
   | none=>none
 | v=>qz3 v
def q02 (ek:Option Nat) (p:WV) (H:z18):Option WV:=match p with
 | .c (.fptr ek' x off)=>(zv2 ek' ek x off).map .c
 | .ptr id off=>match H[id]? with
   | some (.var _ cs)=>q81 ek (qj6 (Pl.hp id) 0 cs) off
   | none=>none
 | .eptr _ _ off ek' x=>(zv2 ek' ek x off).map .c
 | .iptr _ ek' x off=>(zv2 ek' ek x off).map .c
 | _=>none
def zp9 (i:Nat) (f:CV→Option CV):WV→Option WV
 | .own b e ek xs=>match xs[i]? with
   | some x=>match f x with
     | some x'=>some (.own b e ek (xs.set i x'))
     | none=>none
   | none=>none
 | _=>none
def zq6 (i:Nat) (f:CV→Option CV):Nat→List WV→Option (List WV)
 | 0,v::r=>match zp9 i f v with
   | some v'=>some (v'::r)
   | none=>none
 | k+1,v::r=>match zq6 i f k r with
   | some r'=>some (v::r')
   | none=>none
 | _,[]=>none
def zp1 (i k:Nat) (f:CV→Option CV):WV→Option WV
 | .agg cs=>match zq6 i f k cs with
   | some cs'=>some (.agg cs')
   | none=>none
 | v=>if k=0 then zp9 i f v else none
def jc4 (i k:Nat) (f:CV→Option CV):WV→Option WV
 | .lbox ek v=>match zp1 i k f v with
   | some v'=>some (.lbox ek v')
   | none=>none
 | v=>zp1 i k f v
def jf9 (pl:Pl) (i:Nat) (f:CV→Option CV) (fr:WFr) (H:z18):Option (WFr×z18):=match pl with
 | .sl s 0 k=>match jc4 i k f (fr.env s) with
   | some v=>some ({ fr with env:=upd fr.env s v },H)
   | none=>none
 | .hp id k=>match H[id]? with
   | some (.var ek cs)=>match zq6 i f k cs with
     | some cs'=>some (fr,H.set id (.var ek cs'))
     | none=>none
   | none=>none
 | _=>none
def wi9 (ek:Option Nat) (u:CV) (ek':Option Nat) (off:Nat) (x:CV):Option CV:=
 if fits ek u=true then
  if off=0∧ek'=ek then some u
  else if off+u.flat.length≤x.flat.length then match zc0 ek' (zy4 x.flat off u.flat) with
   | some x'=>if fits ek' x'=true then some x' else none
   | none=>none
  else none
 else none
def zw0 (p:Pl):WV→WV
 | .view p' b off e ek xs=>if p'=p then .gone else .view p' b off e ek xs
 | .eptr p' i off ek x=>if p'=p then .gone else .eptr p' i off ek x
 | v=>v
def zu6 (p:Pl):WV→WV
 | .agg cs=>.agg (cs.map (zw0 p))
 | v=>zw0 p v
def blind (p:Pl):WV→WV
 | .tup vs=>.tup (vs.map (zu6 p))
 | .lbox ek v=>.lbox ek (zu6 p v)
 | v=>zu6 p v
def je3 (p:Pl) (fr:WFr):WFr:={ fr with env:=fun s=>blind p (fr.env s) }
def q06 (ek:Option Nat) (p:WV) (v:WV) (fr:WFr) (H:z18):Option (WFr×z18):=match p with
 | .ptr id off=>if fitsW ek v=true then match take v fr H with
   | none=>none
   | some (v',fr1,H1)=>match H1[id]? with
     | some (.var ek' cs)=>
       if off+v'.flat.length≤cs.length then
        some (if v'.flat.any z88=true then hitF (inHp id off v'.flat.length) false fr1 else fr1,H1.set id (.var ek' (za0 cs off v'.flat)))
       else none
     | none=>none
   else none
 | .eptr pl i off ek' _=>match qm2 v with
   | some (u,ps)=>match zh3 ps true fr H with
     | (fr1,H1)=>match jf9 pl i (wi9 ek u ek' off) fr1 H1 with
       | some (fr2,H2)=>some (je3 pl fr2,H2)
       | none=>none
   | none=>none
 | _=>none
def nilW (k:Nat):WV→Option Bool
 | .c v=>nilC k v
 | .ptr _ _=>if k=0 then some false else none
 | .fn _ _ _=>if k=2 then some false else none
 | .nils=>if k=3 then some true else none
 | .view _ _ _ _ _ _=>if k=3 then some false else none
 | .imm _ _ _=>if k=3 then some false else none
 | _=>none
def zs3 (ek:Option Nat):WV→Option (List CV)
 | .c (.str s)=>if ek=none then some (bytesV s) else none
 | x=>q89 ek x
def appW (e:Nat) (ek:Option Nat) (bytes:Nat) (s x:WV) (dst:Option Nat) (fr:WFr) (H:z18):Option (WFr×z18):=
 match zs3 ek x with
 | none=>none
 | some new=>match s with
   | .nils=>if new=[] then some (fr.put dst .nils,H) else if new.length * bytes≤lim∧new.length≤lim then some (fr.put dst (.own true e ek new),H) else none
   | .view pl true 0 e' ek' xs=>
     if e'=e∧ek'=ek∧(xs.length+new.length) * bytes≤lim∧xs.length+new.length≤lim then
      match zh3 [pl] false fr H with
      | (fr1,H1)=>some (fr1.put dst (.own true e ek (xs++new)),H1)
     else none
   | _=>none
def jj7:Option Nat→WV→Bool
 | none,v=>w82 v
 | some n,.c v=>fits (some n) v
 | some n,.agg cs=>cs.length==n&&cs.all w82
 | _,_=>false
def jb8 (n:Nat) (v:WV):Bool:=jj7 (some n) v||(n==1&&jj7 none v)
def qy9 (cs:List WV):List (Nat×Nat×WV)→Option (List WV)
 | []=>some cs
 | (off,n,v)::r=>if jb8 n v=true∧off+n≤cs.length then qy9 (za0 cs off v.flat) r else none
def zh0 (ek:Option Nat) (xs:List CV):List (Nat×WV)→Option (List CV×List Pl)
 | []=>some (xs,[])
 | (i,v)::r=>match qm2 v with
   | some (u,ps)=>if i<xs.length∧fits ek u=true then match zh0 ek (xs.set i u) r with
      | some (l,qs)=>some (l,ps++qs)
      | none=>none
     else none
   | none=>none
def qe3 (fr:WFr):Option Opd→Option (Option Int)
 | none=>some none
 | some x=>match wint (fr.rd x) with
   | some i=>some (some i)
   | none=>none
def plainW:WV→Bool
 | .c _=>true
 | .nils=>true
 | .ptr _ _=>true
 | _=>false
def js0 (s d:Nat):Pl→Bool
 | .sl t _ _=>decide (t=s)||decide (t=d)
 | _=>false
def j50 (d s:Nat) (v:WV) (fr:WFr) (H:z18):Option (WFr×z18):=
 match srcs v with
 | []=>some (fr.put (some d) v,H)
 | ps=>if ps.all (js0 s d)=true then match take v fr H with
    | some (v',fr',H')=>some (fr'.put (some d) v',H')
    | none=>none
   else some (fr.put (some d) v,H)
def wput (dst:Option Nat) (fr:WFr) (H:z18):Option WV→Option (WFr×z18)
 | some v=>some (fr.put dst v,H)
 | none=>none
def wOp0 (o:IOp) (dst:Option Nat) (fr:WFr) (H:z18):Option (WFr×z18):=
 match o with
 | .mv x=>match fr.place x with
   | some (b,off)=>q19 dst b off fr H
   | none=>if okW (fr.rd x)=true then match dst,x with
     | some d,.t s=>if d<s then j50 d s (fr.rd x) fr H else some (fr.put dst (fr.rd x),H)
     | _,_=>some (fr.put dst (fr.rd x),H)
     else none
 | .un op x=>match fr.rd x with
   | .c a=>wput dst fr H ((unC op a).map .c)
   | _=>none
 | .bin op x y=>match fr.rd x,fr.rd y with
   | .c a,.c b=>wput dst fr H ((binC op a b).map .c)
   | _,_=>none
 | .eqs neg ks x y=>match fr.rd x,fr.rd y with
   | .c (.agg a),.c (.agg b)=>wput dst fr H ((eqL ks a b).map fun v=>.c (.bool (if neg then !v else v)))
   | _,_=>none
 | .eqb neg x y=>match fr.rd x,fr.rd y with
   | .c (.bool a),.c (.bool b)=>some (fr.put dst (.c (.bool (if neg then !(a==b) else a==b))),H)
   | _,_=>none
 | .pick c a b=>match fr.rd c with
   | .c (.bool t)=>if okW (if t then fr.rd a else fr.rd b)=true then some (fr.put dst (if t then fr.rd a else fr.rd b),H) else none
   | _=>none
 | .load ek a=>match fr.place a with
   | some (b,off)=>match fr.env b with
     | .lbox ek' x=>wput dst fr H (if off=0∧ek'=ek then some (zl3 (Pl.sl b 0) x) else q81 ek (zl3 (Pl.sl b 0) x).flat off)
     | _=>none
   | none=>wput dst fr H (q02 ek (fr.rd a) H)
 | .store ek a x=>match fr.place a with
   | some (b,off)=>
     if fitsW ek (fr.rd x)=true then match take (fr.rd x) fr H with
      | none=>none
      | some (v',fr1,H1)=>match fr1.env b with
        | .lbox ek' x0=>
          if off=0∧ek'=ek then some ({ env:=upd (hitF (ze0 b) false fr1).env b (.lbox ek' v'),al:=fr1.al },H1)
          else if off+v'.flat.length≤x0.flat.length∧zf1 x0=true∧x0.flat.isEmpty=false then
           match qs5 ek' (za0 x0.flat off v'.flat) with
           | some x'=>if fitsW ek' x'=true then some ({ env:=upd (hitF (inSl b off v'.flat.length) false fr1).env b (.lbox ek' x'),al:=fr1.al },H1) else none
           | none=>none
          else none
        | _=>none
     else none
   | none=>match fr.rd a,dst with
     | p,none=>q06 ek p (fr.rd x) fr H
     | _,_=>none
 | .faddr n a=>match fr.place a with
   | some (b,off)=>q19 dst b (off+n) fr H
   | none=>match fr.rd a with
     | .ptr id off=>some (fr.put dst (.ptr id (off+n)),H)
     | .eptr pl i off ek x=>some (fr.put dst (.eptr pl i (off+n) ek x),H)
     | .iptr fz ek x off=>some (fr.put dst (.iptr fz ek x (off+n)),H)
     | .c (.fptr ek x off)=>some (fr.put dst (.c (.fptr ek x (off+n))),H)
     | _=>none
 | .nck a=>match fr.place a with
   | some (b,off)=>q19 dst b off fr H
   | none=>match fr.rd a with
     | .ptr id off=>some (fr.put dst (.ptr id off),H)
     | .eptr pl i off ek x=>some (fr.put dst (.eptr pl i off ek x),H)
     | .iptr fz ek x off=>some (fr.put dst (.iptr fz ek x off),H)
     | .c (.fptr ek x off)=>some (fr.put dst (.c (.fptr ek x off)),H)
     | _=>none
 | .fld ek off x=>match aggW (fr.rd x) with
   | some cs=>wput dst fr H (q81 ek cs off)
   | none=>none
 | .cvs x=>match fr.rd x with
   | .c (.str s)=>some (fr.put dst (.c (.str s)),H)
   | _=>none
 | .fbox ek x=>match fr.rd x with
   | .c v=>if fits ek v=true then some (fr.put dst (.c (.fptr ek v 0)),H) else none
   | _=>none
 | .ix ek x i=>match wint (fr.rd i) with
   | some n=>wput dst fr H (ixW ek (fr.rd x) n)
   | none=>none
 | .six x i=>match fr.rd x,wint (fr.rd i) with
   | .c (.str s),some n=>if 0≤n then match s[n.toNat]? with
      | some b=>some (fr.put dst (.c (.int .u8 b.toNat)),H)
      | none=>none
     else none
   | _,_=>none
 | .slc st ek x lo hi=>match qe3 fr lo,qe3 fr hi with
   | some l,some h=>wput dst fr H (slcW st ek (fr.rd x) l h)
   | _,_=>none
 | .len st x=>match lenW st (fr.rd x) with
   | some n=>some (fr.put dst (.c (.int .i64 n)),H)
   | none=>none
 | .app e ek bytes s x=>appW e ek bytes (fr.rd s) (fr.rd x) dst fr H
 | .build zero parts=>if zero.all isC=true then match qy9 (zero.map qi0) (parts.map fun p=>(p.1,p.2.1,fr.rd p.2.2)) with
   | some cs=>some (fr.put dst (zu5 cs),H)
   | none=>none
   else none
 | .bsl fz e ek zero n parts=>match zc0 ek zero with
   | some z=>if fits ek z=true then match zh0 ek (List.replicate n z) (parts.map fun p=>(p.1,fr.rd p.2)) with
     | some (xs,ps)=>match zh3 ps true fr H with
       | (fr1,H1)=>some (fr1.put dst (if fz then .c (.frz ek xs) else .own true e ek xs),H1)
     | none=>none
     else none
   | none=>none
 | .lbox ek x=>match dst with
   | some d=>if fitsW ek (fr.rd x)=true then match take (fr.rd x) fr H with
      | some (v,fr1,H1)=>some ({ env:=upd (hitF (ze0 d) false fr1).env d (.lbox ek v),al:=unlink d fr.al },H1)
      | none=>none
     else none
   | none=>none
 | .hbox ek x=>if fitsW (ekB ek) (fr.rd x)=true then match take (fr.rd x) fr H with
    | some (v,fr1,H1)=>some (fr1.put dst (.ptr H1.length 0),H1++[.var ek v.flat])
    | none=>none
   else none
 | .b2s x=>match (q89 none (fr.rd x)).bind zf4 with
   | some l=>some (fr.put dst (.c (.str l)),H)
   | none=>none
 | .mkf f first cap=>
   let a:=first.map fr.rd
   let b:=cap.map fr.rd
   if a.all plainW=true∧b.all plainW=true then some (fr.put dst (match z87 a,z87 b with
    | some x,some y=>.c (.fn f x y)
    | _,_=>.fn f a b),H) else none
 | .ext x i=>match x with
   | .t s=>match fr.env s with
     | .tup vs=>match vs[i]? with
       | some v=>match take (zl3 (Pl.sl s i) v) fr H with
         | some (v',fr',H')=>some (fr'.put dst v',H')
         | none=>none
       | none=>none
     | _=>none
   | .k _=>none
 | .tyck T n x=>match fr.rd x with
   | .ptr id 0=>match H[id]? with
     | some (.var ek cs)=>if tyOf ek=some T∧cs.length=n then some (fr.put dst (.ptr id 0),H) else none
     | _=>none
   | _=>none
 | .rowck e x=>match fr.rd x with
   | .nils=>some (fr.put dst (.c (.bool true)),H)
   | .view _ true 0 e' none xs=>if e'=e∧0<xs.length∧zv0 xs=true then some (fr.put dst (.c (.bool false)),H) else none
   | _=>none
 | .peq x y=>match fr.rd x,fr.rd y with
   | .ptr i a,.ptr j b=>some (fr.put dst (.c (.bool (decide (i=j∧a=b)))),H)
   | _,_=>none
 | .isn neg k x=>match nilW k (fr.rd x) with
   | some b=>some (fr.put dst (.c (.bool (if neg then !b else b))),H)
   | none=>none
 | .cvt k x=>match fr.rd x with
   | .c (.int _ n)=>some (fr.put dst (.c (.int k (k.wrap n))),H)
   | _=>none
 | .mx isMax x y=>match fr.rd x,fr.rd y with
   | .c (.int k a),.c (.int _ b)=>some (fr.put dst (.c (.int k (if isMax then max a b else min a b))),H)
   | _,_=>none
 | .call _ _=>none
 | .callv _ _=>none
abbrev za5:=Nat→List WV→z18→Option (WV×z18)
structure WEnv where
 fn:Nat→Option IFn
 md:Nat→Md
 tk:Nat→List Nat
 ext:Nat→Option (List CV→Option (List CV)):=fun _=>none
 ar:Nat→Option Nat:=fun _=>none
abbrev WEnv.fnA (E:WEnv) (f n:Nat):Option IFn:=arFn (E.ar f) n (E.fn f)
def zg4:WV→Option CV
 | .c v=>some v
 | .nils=>some (.frz none [])
 | .view _ _ _ _ ek xs=>some (.frz ek xs)
 | .imm _ ek xs=>some (.frz ek xs)
 | _=>none
def zx0:List WV→Option (List CV)
 | []=>some []
 | x::r=>match zg4 x,zx0 r with
   | some a,some b=>some (a::b)
   | _,_=>none
def qz6:WV→Option CV
 | .agg cs=>match zx0 cs with
   | some l=>some (.agg l)
   | none=>none
 | v=>zg4 v
def qk4 (H:z18):WV→Option CV
 | .ptr id off=>match H[id]? with
   | some (.var ek cs)=>match zx0 (qj6 (Pl.hp id) 0 cs) with
     | some l=>if l.length=z45 ek then match zc0 ek l with
       | some x=>some (.fptr ek x off)
       | none=>none
       else none
     | none=>none
   | none=>none
 | v=>qz6 v
def q74 (H:z18):List WV→Option (List CV)
 | []=>some []
 | x::r=>match qk4 H x,q74 H r with
   | some a,some b=>some (a::b)
   | _,_=>none
def j37 (H:z18):WV→Option CV
 | .fn f first cap=>match q74 H first,q74 H cap with
   | some a,some b=>some (.fn f a b)
   | _,_=>none
 | v=>qk4 H v
def zh5 (H:z18):List WV→Option (List WV)
 | []=>some []
 | x::r=>match j37 H x,zh5 H r with
   | some a,some b=>some (.c a::b)
   | _,_=>none
def shut1:WV→Option CV
 | .own _ _ ek xs=>some (.frz ek xs)
 | v=>zg4 v
def jj0:List WV→Option (List CV)
 | []=>some []
 | x::r=>match shut1 x,jj0 r with
   | some a,some b=>some (a::b)
   | _,_=>none
def qe7:WV→Option CV
 | .agg cs=>match jj0 cs with
   | some l=>some (.agg l)
   | none=>none
 | v=>shut1 v
def qj8:List WV→Option (List WV)
 | []=>some []
 | x::r=>match qe7 x,qj8 r with
   | some a,some b=>some (.c a::b)
   | _,_=>none
def shut:WV→Option WV
 | .tup vs=>match qj8 vs with
   | some l=>some (.tup l)
   | none=>none
 | v=>match qe7 v with
   | some u=>some (.c u)
   | none=>none
def isCW:WV→Bool
 | .c _=>true
 | .nils=>true
 | _=>false
def noRefW:WV→Bool
 | .c (.agg l)=>l.all zt9
 | .c v=>zt9 v
 | .tup vs=>noRefWL vs
 | _=>false
where noRefWL:List WV→Bool
 | []=>true
 | .c (.agg l)::r=>l.all zt9&&noRefWL r
 | .c v::r=>zt9 v&&noRefWL r
 | _::_=>false
def qz0:WV→Bool
 | .fn _ _ _=>false
 | .ptr _ _=>false
 | _=>true
def w11:WV→Bool
 | .imm false _ _=>true
 | .eptr _ _ _ _ _=>true
 | .iptr _ _ _ _=>true
 | _=>false
def jy4:WV→Bool
 | .agg cs=>cs.any w11
 | v=>w11 v
def ji8:WV→WV
 | .view (.sl _ _ _) _ _ _ ek xs=>.imm false ek xs
 | .view (.hp id k) b off e ek xs=>.view (.hp id k) b off e ek xs
 | .view (.tmp _ _) _ _ _ _ _=>.gone
 | .eptr (.sl _ _ _) _ off ek x=>.iptr false ek x off
 | .eptr (.tmp _ _) _ _ _ _=>.gone
 | .own _ _ _ _=>.gone
 | v=>v
def w87:WV→WV
 | .agg cs=>.agg (cs.map ji8)
 | .tup _=>.undef
 | .lbox _ _=>.undef
 | v=>ji8 v
def jv3:WV→WV
 | .view _ b _ e ek xs=>.own b e ek xs
 | .eptr _ _ _ _ _=>.gone
 | .own _ _ _ _=>.gone
 | v=>v
def w62:WV→WV
 | .agg cs=>.agg (cs.map jv3)
 | .tup _=>.undef
 | .lbox _ _=>.undef
 | v=>jv3 v
def ze5:List WV→List Pl
 | []=>[]
 | v::r=>srcC v++ze5 r
def zi1 (tk:List Nat):Nat→List WV→List Pl
 | _,[]=>[]
 | j,v::r=>(if tk.contains j=true then srcC v else [])++zi1 tk (j+1) r
def q87:WV→List Pl
 | .view p _ _ _ _ _=>[p]
 | .eptr p _ _ _ _=>[p]
 | _=>[]
def jg4:WV→List Pl
 | .agg cs=>cs.flatMap q87
 | v=>q87 v
def j04 (tk:List Nat):Nat→List WV→List Pl
 | _,[]=>[]
 | j,v::r=>(if tk.contains j=true then [] else jg4 v)++j04 tk (j+1) r
def q30 (tk:List Nat):Nat→List WV→List WV
 | _,[]=>[]
 | j,v::r=>(if tk.contains j=true then w62 v else w87 v)::q30 tk (j+1) r
section
variable (E:WEnv) (call:za5)
def zd1 (f:Nat) (args:List WV) (dst:Option Nat) (fr:WFr) (H:z18):Option (WFr×z18):=
 match E.md f with
 | .S=>
   if args.all okA=true∧(zi1 (E.tk f) 0 args).Nodup∧(zi1 (E.tk f) 0 args).all (fun p=>!(j04 (E.tk f) 0 args).contains p)=true then
    match zh3 (zi1 (E.tk f) 0 args) false fr H with
    | (fr1,H1)=>match call f (q30 (E.tk f) 0 args) H1 with
      | none=>none
      | some (r,H2)=>some ((hitF isHp false fr1).put dst r,H2)
   else none
 | .P=>match zh5 H args with
   | none=>none
   | some a5=>match call f a5 [] with
     | none=>none
     | some (r,_)=>match shut r with
       | none=>none
       | some r'=>
         if args.all isCW||noRefW r' then some (fr.put dst r',H)
         else if args.all qz0&&!args.any jy4 then match zh3 (ze5 args) true fr H with
          | (fr1,H1)=>some (fr1.put dst r',H1)
         else none
def q17 (v:WV) (args:List WV):Option (Nat×List WV):=match v with
 | .c (.fn f first cap)=>some (f,first.map .c++args++cap.map .c)
 | .fn f first cap=>some (f,first++args++cap)
 | _=>none
def wOp (o:IOp) (dst:Option Nat) (fr:WFr) (H:z18):Option (WFr×z18):=match o with
 | .call f args=>zd1 E call f (args.map fr.rd) dst fr H
 | .callv x args=>match q17 (fr.rd x) (args.map fr.rd) with
   | some (f,a5)=>zd1 E call f a5 dst fr H
   | none=>none
 | o=>wOp0 o dst fr H
def wStp (o:IOper) (fr:WFr) (H:z18):Option (WFr×z18):=match o.guard with
 | none=>wOp E call o.op o.dst fr H
 | some (s,want)=>match fr.env s with
   | .c (.bool b)=>if b=want then wOp E call o.op o.dst fr H else some (fr.put o.dst .skipv,H)
   | .skipv=>some (fr.put o.dst .skipv,H)
   | _=>none
def wOps:List IOper→WFr→z18→Option (WFr×z18)
 | [],fr,H=>some (fr,H)
 | o::r,fr,H=>match wStp E call o fr H with
   | some (fr',H')=>wOps r fr' H'
   | none=>none
def zk7 (fr:WFr):Option Nat→Bool
 | none=>true
 | some d=>match fr.env d with
   | .lbox _ _=>false
   | _=>true
def wD (c:Cls) (o:IOp) (dst:Option Nat) (fr:WFr) (H:z18):Option (WFr×z18):=
 match c with
 | .pure=>match o with
   | .bsl fz e ek z n ps=>if fz=true∧(ps.all fun p=>isCW (fr.rd p.2))=true then wOp0 (.bsl fz e ek z n ps) dst fr H else none
   | o=>if zn1 o=true then wOp0 o dst fr H else none
 | .rdb=>match o with
   | .load ek a=>if (fr.place a).isSome=true then wOp0 (.load ek a) dst fr H else none
   | _=>none
 | .wrb=>match o with
   | .store ek a x=>if (fr.place a).isSome=true∧dst=none then wOp0 (.store ek a x) dst fr H else none
   | _=>none
 | .rd=>match o with
   | .load ek a=>if (fr.place a).isSome=true then none else wOp0 (.load ek a) dst fr H
   | .ix ek x i=>wOp0 (.ix ek x i) dst fr H
   | .slc st ek x lo hi=>wOp0 (.slc st ek x lo hi) dst fr H
   | .call f args=>match E.md f with
     | .P=>match zh5 H (args.map fr.rd) with
       | none=>none
       | some a5=>match call f a5 [] with
         | none=>none
         | some (r,_)=>match shut r with
           | none=>none
           | some r'=>if noRefW r'=true∨(args.map fr.rd).all isCW=true then some (fr.put dst r',H) else none
     | .S=>none
   | _=>none
 | .wr=>match o with
   | .store ek a x=>if (fr.place a).isSome=true∨dst≠none then none else wOp0 (.store ek a x) dst fr H
   | .app e ek n s x=>wOp0 (.app e ek n s x) dst fr H
   | .bsl fz e ek z n ps=>wOp0 (.bsl fz e ek z n ps) dst fr H
   | .call f args=>wOp E call (.call f args) dst fr H
   | .callv x args=>wOp E call (.callv x args) dst fr H
   | _=>none
 | .hb=>match o with
   | .hbox ek x=>wOp0 (.hbox ek x) dst fr H
   | _=>none
 | .lb=>match o with
   | .lbox ek x=>wOp0 (.lbox ek x) dst fr H
   | _=>none
def zw3 (c:Cls) (o:IOper) (fr:WFr) (H:z18):Option (WFr×z18):=
 match o.guard with
 | none=>wD E call c o.op o.dst fr H
 | some (s,want)=>match fr.env s with
   | .c (.bool b)=>if b=want then wD E call c o.op o.dst fr H else some (fr.put o.dst .skipv,H)
   | .skipv=>some (fr.put o.dst .skipv,H)
   | _=>none
def zq1 (c:Cls) (o:IOper) (fr:WFr) (H:z18):Option (WFr×z18):=
 if zk7 fr o.dst=true then match zw3 E call c o fr H with
  | some (fr',H')=>if c=.lb∨zk7 fr' o.dst=true then some (fr',H') else none
  | none=>none
 else none
def zr6:List (Cls×IOper)→WFr→z18→Option (WFr×z18)
 | [],fr,H=>some (fr,H)
 | (c,o)::r,fr,H=>match zq1 E call c o fr H with
   | some (fr',H')=>zr6 r fr' H'
   | none=>none
abbrev WRun:=WFr→z18→Option (Ex×WFr×z18)
def zf9 (l:Nat):Option (Ex×WFr×z18)→Option (Ex×WFr×z18)
 | some (.goto l',fr,H)=>if l'=l then some (.nrm,fr,H) else none
 | some (.nrm,fr,H)=>some (.goto l,fr,H)
 | r=>r
def zx1 (l:Nat):Option (Ex×WFr×z18)→Option (Ex×WFr×z18)
 | some (.goto l',fr,H)=>if l'=l then some (.nrm,fr,H) else some (.goto l',fr,H)
 | r=>r
def qz9 (live:List Nat):Pl→Bool
 | .sl s _ _=>!live.contains s
 | _=>false
def zo4 (live:List Nat) (fr:WFr):WFr:={ env:=zg1 (live.map fun s=>(s,hit (qz9 live) false (Pl.sl s) (fr.env s))),al:=noAl }
variable (it:WRun→WRun)
def wC:ICode→WRun
 | .skip,fr,H=>some (.nrm,fr,H)
 | .region ops,fr,H=>match wOps E call ops { fr with al:=noAl } H with
   | some (fr',H')=>some (.nrm,fr',H')
   | none=>none
 | .regionD ops,fr,H=>match zr6 E call ops { fr with al:=noAl } H with
   | some (fr',H')=>some (.nrm,fr',H')
   | none=>none
 | .seq a b,fr,H=>match wC a fr H with
   | some (.nrm,fr',H')=>wC b fr' H'
   | r=>r
 | .cond c x y,fr,H=>match fr.rd c with
   | .c (.bool b)=>if b then wC x fr H else wC y fr H
   | _=>none
 | .block id body,fr,H=>match wC body fr H with
   | some (.exit i,fr',H')=>if i=id then some (.nrm,fr',H') else some (.exit i,fr',H')
   | r=>r
 | .loop live body,fr,H=>it (fun fr H=>wC body (zo4 live fr) H) fr H
 | .exit id,fr,H=>some (.exit id,fr,H)
 | .scope l live body rest,fr,H=>match wC body fr H with
   | some (.goto l',fr',H')=>if l'=l then zx1 l (it (fun fr H=>zf9 l (wC rest (zo4 live fr) H)) fr' H') else none
   | r=>r
 | .label _,fr,H=>some (.nrm,fr,H)
 | .keep live,fr,H=>some (.nrm,zo4 live fr,H)
 | .goto l,fr,H=>some (.goto l,fr,H)
 | .ret,fr,H=>some (.ret,fr,H)
def zk5 (i:Nat):List WV→List (Nat×WV)
 | []=>[]
 | v::r=>(i,v)::zk5 (i+1) r
def zf7 (fr:WFr) (H:z18):List IRes→Option (List WV)
 | []=>some []
 | .tmp t::r=>match zf7 fr H r with
   | some l=>some (zl3 (Pl.sl t 0) (zx7 (fr.env t))::l)
   | none=>none
 | .cell a ek::r=>
   match (match fr.env a with
    | .lbox ek' x=>if ek'=ek then some (zl3 (Pl.sl a 0) x) else none
    | p=>q02 ek (peek (Pl.sl a) p) H),zf7 fr H r with
   | some v,some l=>some (v::l)
   | _,_=>none
def ze8:List WV→WV
 | [v]=>v
 | vs=>.tup vs
def zj6 (n:Nat):Pl→Bool
 | .sl _ _ _=>true
 | .hp id _=>decide (n≤id)
 | .tmp _ _=>true
def zw5:WV→Bool
 | .eptr _ _ _ _ _=>false
 | .iptr _ _ _ _=>false
 | .imm fz _ _=>fz
 | .tup _=>false
 | .lbox _ _=>false
 | _=>true
def zo9:WV→Bool
 | .agg cs=>cs.all zw5
 | v=>zw5 v
def leave1 (n:Nat):WV→WV
 | .view p b off e ek xs=>if zj6 n p=true then .own b e ek xs else .view p b off e ek xs
 | v=>v
def zm1 (n:Nat):WV→WV
 | .agg cs=>.agg (cs.map (leave1 n))
 | v=>leave1 n v
def zq2 (n:Nat) (vs:List WV) (H:z18):Option (WV×z18):=
 if ((ze5 vs).filter (zj6 n)).Nodup∧vs.all zo9=true∧((ze5 vs).filter (zj6 n)=[]∨(ze5 vs).all (zj6 n)=true) then
  some (ze8 (vs.map (zm1 n)),hitH false ((ze5 vs).filter (zj6 n)) H)
 else none
def wExt (args:List WV) (H:z18):Option (List CV→Option (List CV))→Option (WV×z18)
 | none=>none
 | some g=>match z87 args with
   | some xs=>match g xs with
     | some us=>some (ze8 (us.map .c),H)
     | none=>none
   | none=>none
def wFn (f:Nat) (args:List WV) (H:z18):Option (WV×z18):=
 match E.fnA f args.length with
 | none=>wExt args H (E.ext f)
 | some g=>match wC E call it g.body { env:=zg1 (zk5 0 args),al:=noAl } H with
   | some (.nrm,fr,H') | some (.ret,fr,H')=>match zf7 fr H' g.res with
     | some vs=>zq2 H.length vs H'
     | none=>none
   | _=>none
end
def witF:Nat→WRun→WRun
 | 0,_,_,_=>none
 | n+1,s,fr,H=>match s fr H with
   | some (.nrm,fr',H')=>witF n s fr' H'
   | r=>r
def wF (E:WEnv):Nat→za5
 | 0,_,_,_=>none
 | n+1,f,args,H=>wFn E (wF E n) (witF n) f args H
end Go.Proofs.Lz
