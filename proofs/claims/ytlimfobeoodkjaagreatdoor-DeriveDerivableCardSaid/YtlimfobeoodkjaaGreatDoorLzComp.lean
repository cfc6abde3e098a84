/- From the model's code to the small code of LzEv: a function that the kernel reckons. What it gives is held against the model by LzSound. -/
import Derived.Test.YtlimfobeoodkjaaGreatDoorLzEv
namespace Go.Proofs.Lz
def i6:Value->Option CV
 | .bool b=>some (.bool b)
 | .int k n=>some (.int k n)
 | .string s=>some (.str s.data.toList)
 | .pointer none=>some .nilp
 | .slice none 0 0=>some (.frz none [])
 | .nilFunc=>some .nilfn
 | .nilIface=>some .nili
 | .map none=>some .nilm
 | _=>none
def O2:List Value->Option (List CV)
 | []=>some []
 | v::r=>match i6 v,O2 r with
   | some a,some b=>some (a::b)
   | _,_=>none
def wI:Value->Option HV
 | .slice none 0 0=>some .nils
 | v=>(i6 v).map .c
def Q0:List Value->Option (List HV)
 | []=>some []
 | v::r=>match wI v,Q0 r with
   | some a,some b=>some (a::b)
   | _,_=>none
def Y8:Value->Option HV
 | .agg cs=>(Q0 cs.toList).map I1
 | v=>wI v
def j5:Operand->Option Opd
 | .tmp t=>some (.t t)
 | .const v=>(Y8 v).map .k
 | .func f=>some (.k (.c (.fn f [] [])))
 | .global _=>none
def G2:List Operand->Option (List Opd)
 | []=>some []
 | x::r=>match j5 x,G2 r with
   | some a,some b=>some (a::b)
   | _,_=>none
def Z5:Option Operand->Option (Option Opd)
 | none=>some none
 | some x=>(j5 x).map some
def x5 (P:Program) (t:TypeId):Option (Option Nat):=
 match P.underlying t,P.info? t with
 | some (.struct _),some i=>if 0<i.size then some (some i.size) else none
 | some (.array _ _),some i=>if 0<i.size then some (some i.size) else none
 | some _,some i=>if i.size=1 then some none else none
 | _,_=>none
def zeroOf (P:Program) (t:TypeId):Option Value:=(P.info? t).bind (·.zero)
def yE (P:Program) (t:TypeId):Option Nat:=(P.info? t).map (·.bytes)
def zW (ok:TypeId->Option (List Nat)) (P:Program) (off:Nat):List Field->Option (List Nat)
 | []=>some []
 | f::r=>if f.offset=off/\f.name≠ "_" then match ok f.type,zW ok P (off+P.cellsOf f.type) r with
    | some a,some b=>if a.length=P.cellsOf f.type then some (a++b) else none
    | _,_=>none
   else none
def O5 (P:Program):Nat->TypeId->Option (List Nat)
 | 0,_=>none
 | d+1,t=>match P.underlying t with
   | some .bool=>some [0]
   | some (.int _)=>some [1]
   | some .string=>some [2]
   | some (.struct fs)=>if P.stoodInHeld t then none else zW (O5 P d) P 0 fs.toList
   | _=>none
def qU (ops:List Oper):Nat->Nat->Bool
 | 0,_=>false
 | n+1,d=>ops.all fun o=>match o.op with
   | .load _ (.tmp _)=>true
   | .store _ (.tmp _) (.tmp x)=>x != d
   | .fieldAddr _ (.tmp x) _ | .nilCheck (.tmp x)=>x != d||(match o.dst with
     | some e=>qU ops n e
     | none=>true)
   | .move (.tmp x)=>x != d||(match o.dst with
     | some e=>qU ops n e
     | none=>true)
   | op=>op.operands.all fun
     | .tmp x=>x != d
     | _=>true
def bK (ops:List Oper):Nat->Nat->Bool
 | 0,_=>false
 | n+1,d=>ops.all fun o=>match o.op with
   | .store _ (.tmp x) _=>x != d
   | .fieldAddr _ (.tmp x) _ | .nilCheck (.tmp x) | .move (.tmp x)=>x != d||(match o.dst with
     | some e=>bK ops n e
     | none=>true)
   | _=>true
def mT (ops:List Oper) (d:Nat):Bool:=qU ops 6 d&&bK ops 6 d
def zb2 (ops:List Oper) (d:Nat):Bool:=ops.all fun o=>match o.op with
 | .call { callee:=.builtin .append,args,.. }=>match args.toList with
   | .tmp s::_=>s != d
   | _=>true
 | .call { callee:=.builtin .copy,args,.. }=>args.toList.all fun
   | .tmp x=>x != d
   | _=>true
 | .call _ | .build _ _ | .buildSlice _ _ _ | .store _ _ _=>true
 | .indexAddr _ (.tmp x) _=>x != d||(match o.dst with
   | some e=>bK ops 6 e
   | none=>true)
 | op=>op.operands.all fun
   | .tmp x=>x != d
   | _=>true
def Code.opers:Code->List Oper
 | .region _ ops _=>ops.toList
 | .seq a b=>Code.opers a++Code.opers b
 | .cond _ a b=>Code.opers a++Code.opers b
 | .block _ b | .loop b | .scope b=>Code.opers b
 | .rangeFunc _ _ a b=>Code.opers a++Code.opers b
 | _=>[]
def partsOf (f:Nat->Option (Nat×Nat)):List (Nat×Operand)->Option (List (Nat×Nat×Opd))
 | []=>some []
 | (i,x)::r=>match f i,j5 x,partsOf f r with
   | some (o,n),some a,some b=>some ((o,n,a)::b)
   | _,_,_=>none
def X4:List (Nat×Operand)->Option (List (Nat×Opd))
 | []=>some []
 | (i,x)::r=>match j5 x,X4 r with
   | some a,some b=>some ((i,a)::b)
   | _,_=>none
def isNil (k:Nat):Operand->Bool
 | .const (.pointer none)=>k==0
 | .const .nilIface=>k==1
 | .const .nilFunc=>k==2
 | .const (.slice none _ _)=>k==3
 | .const (.map none)=>k==4
 | _=>false
def q20 (P:Program) (e:TypeId):Bool:=match P.underlying e with
 | some (.struct fs)=>match fs[0]? with
   | some fd=>match P.underlying fd.type with
     | some (.pointer t)=>t==e
     | _=>false
   | none=>false
 | _=>false
def xQ (P:Program) (e:TypeId):Option Nat->Option (Option Nat)
 | none=>some none
 | some n=>if n<Z4 then some (if q20 P e then rJ n e else some n) else none
theorem cA {P:Program} {e:TypeId} {ek k:Option Nat} (h:xQ P e ek=some k):∀ T,R1 k=some T->e=T:=by
 intro T hT;unfold xQ at h;split at h
 . injection h with h;subst h;cases hT
 . rename_i n;split at h
   . rename_i hn;injection h with h;split at h
     . subst h;simp only [R1,rJ] at hT;split at hT
       . injection hT with hT;have h1:(n+Z4 * (e+1)) / Z4=e+1:=by
          rw [Nat.add_mul_div_left _ _ (by decide),Nat.div_eq_of_lt hn,Nat.zero_add]
         rw [h1] at hT;simpa using hT
       . cases hT
     . subst h;simp only [R1] at hT;rw [if_neg (by omega)] at hT;cases hT
   . cases h
def S2:TypeDesc->Option Nat
 | .bool=>some 0
 | .int _=>some 1
 | .string=>some 2
 | _=>none
def mapOf (P:Program) (t:TypeId):Option (Nat×HV):=match P.underlying t with
 | some (.map kt et)=>match (P.underlying kt).bind S2,(zeroOf P et).bind Y8 with
   | some kd,some z=>some (kd,z)
   | _,_=>none
 | _=>none
def yM (P:Program) (all:List Oper) (lvl:Nat) (o:Oper):Option IOp:=
 match o.op with
 | .move x | .assign x=>(j5 x).map .mv
 | .pick c a b=>match j5 c,j5 a,j5 b with
   | some c,some a,some b=>some (.pick c a b)
   | _,_,_=>none
 | .alloc e=>match (zeroOf P e).bind Y8,x5 P e with
   | some z,some ek=>if (o.dst.map (qU all 6)).getD false then some (.lbox ek (.k z)) else (xQ P e ek).map fun k=>.hbox k (.k z)
   | _,_=>none
 | .box e x=>match j5 x,x5 P e with
   | some x,some ek=>if lvl=0/\(o.dst.map (mT all)).getD false=true then some (.fbox ek x) else if (o.dst.map (qU all 6)).getD false then some (.lbox ek x) else (xQ P e ek).map fun k=>.hbox k x
   | _,_=>none
 | .build t parts=>match P.underlying t,(zeroOf P t).bind (fun z=>Q0 z.cells.toList) with
   | some (.struct fs),some z=>match fs.toList.mapM (fun f=>(P.info? f.type).map fun i=>(f.offset,i.size)) with
     | some pl=>(partsOf (pl.toArray[·]?) parts.toList).map (.build z)
     | none=>none
   | some (.array _ e),some z=>match x5 P e with
     | some ek=>(partsOf (fun i=>some (i * j0 ek,j0 ek)) parts.toList).map (.build z)
     | none=>none
   | _,_=>none
 | .buildSlice t len parts=>match P.underlying t with
   | some (.slice e)=>match x5 P e,(zeroOf P e).bind (fun z=>O2 z.cells.toList),X4 parts.toList with
     | some ek,some z,some ps=>if len * (j0 ek)<=16777216/\z.length=j0 ek then some (.bsl ((o.dst.map (zb2 all)).getD false) e ek z len ps) else none
     | _,_,_=>none
   | _=>none
 | .load t a=>match x5 P t,j5 a with
   | some ek,some a=>some (.load ek a)
   | _,_=>none
 | .store t a x=>match o.dst,x5 P t,j5 a,j5 x with
   | none,some ek,some a,some x=>some (.store ek a x)
   | _,_,_,_=>none
 | .nilCheck x=>(j5 x).map .nck
 | .binOp op xt x y' _=>match j5 x,j5 y' with
   | some x,some y=>match op with
     | .eql | .neq=>match P.underlying xt with
       | some .bool=>some (.eqb (op matches .neq) x y)
       | some (.int _) | some .string=>some (.bin op x y)
       | some (.struct _)=>if P.eqGuardType P.depth xt then none else (O5 P 100 xt).map fun ks=>.eqs (op matches .neq) ks x y
       | some (.pointer _)=>if isNil 0 y'=true then some (.isn (op matches .neq) 0 x) else none
       | some (.interface _)=>if isNil 1 y'=true then some (.isn (op matches .neq) 1 x) else none
       | some (.func _ _ _)=>if isNil 2 y'=true then some (.isn (op matches .neq) 2 x) else none
       | some (.slice _)=>if isNil 3 y'=true then some (.isn (op matches .neq) 3 x) else none
       | some (.map _ _)=>if isNil 4 y'=true then some (.isn (op matches .neq) 4 x) else none
       | _=>none
     | _=>some (.bin op x y)
   | _,_=>none
 | .unOp op _ x=>(j5 x).map (.un op)
 | .convert s d x=>match P.underlying s,P.underlying d with
   | some (.int _),some (.int k)=>(j5 x).map (.cvt k)
   | some .string,some .string=>(j5 x).map .cvs
   | some (.slice e),some .string=>match P.underlying e with
     | some (.int .u8)=>(j5 x).map .b2s
     | _=>none
   | _,_=>none
 | .makeFunc (.func f) first cap=>match G2 first.toList,G2 cap.toList with
   | some a,some b=>some (.mkf f a b)
   | _,_=>none
 | .slice t x lo hi none=>match P.underlying t,j5 x,Z5 lo,Z5 hi with
   | some .string,some x,some lo,some hi=>some (.slc true none x lo hi)
   | some (.slice e),some x,some lo,some hi=>(x5 P e).map fun ek=>.slc false ek x lo hi
   | _,_,_,_=>none
 | .fieldAddr s x f=>match P.underlying s with
   | some (.struct fs)=>match fs[f]? with
     | some fd=>match x5 P fd.type,j5 x with
       | some _,some x=>some (.faddr fd.offset x)
       | _,_=>none
     | none=>none
   | _=>none
 | .field s x f=>match P.underlying s with
   | some (.struct fs)=>match fs[f]? with
     | some fd=>match x5 P fd.type,j5 x with
       | some ek,some x=>some (.fld ek fd.offset x)
       | _,_=>none
     | none=>none
   | _=>none
 | .indexAddr t x i=>match P.underlying t with
   | some (.slice e)=>match x5 P e,j5 x,j5 i with
     | some ek,some x,some i=>some (.ix ek x i)
     | _,_,_=>none
   | _=>none
 | .index t x i=>match P.underlying t,j5 x,j5 i with
   | some .string,some x,some i=>some (.six x i)
   | some (.array n e),some x,some i=>(x5 P e).map fun ek=>.aix ek n x i
   | _,_,_=>none
 | .extract x i=>(j5 x).map (.ext · i)
 | .makeMap t none=>match P.underlying t with
   | some (.map _ _)=>some .mkm
   | _=>none
 | .lookup t x k ok=>match mapOf P t,j5 x,j5 k with
   | some (kd,z),some x,some k=>some (.mget kd ok z x k)
   | _,_,_=>none
 | .mapUpdate t x k v=>match mapOf P t,o.dst,j5 x,j5 k,j5 v with
   | some (kd,_),none,some x,some k,some v=>some (.mset kd x k v)
   | _,_,_,_,_=>none
 | .insert t x k v=>match mapOf P t,o.dst,j5 x,j5 k,j5 v with
   | some (kd,_),none,some x,some k,some v=>some (.mset kd x k v)
   | _,_,_,_,_=>none
 | .mapEntry t x k=>match mapOf P t,j5 x,j5 k with
   | some (kd,z),some x,some k=>some (.ment kd z x k)
   | _,_,_=>none
 | .entryStore _ x s v=>match o.dst,j5 x,j5 s,j5 v with
   | none,some x,some s,some v=>some (.msto x s v)
   | _,_,_,_=>none
 | .call { callee:=.builtin b,args,argTypes }=>match b,args.toList,argTypes.toList with
   | .len,[x],[t]=>match P.underlying t,j5 x with
     | some .string,some x=>some (.len true x)
     | some (.slice _),some x=>some (.len false x)
     | some (.map _ _),some x=>some (.mlen x)
     | _,_=>none
   | .append,[s,x],[t,u]=>match P.underlying t,P.underlying u,j5 s,j5 x with
     | some (.slice e),some (.slice _),some s,some x=>if t=u then match x5 P e,yE P e,zeroOf P e with
        | some ek,some n,some z=>if z.cells.size=j0 ek then some (.app e ek n s x) else none
        | _,_,_=>none
       else none
     | some (.slice e),some .string,some s,some x=>match x5 P e,yE P e,zeroOf P e with
        | some ek,some n,some z=>if z.cells.size=j0 ek then some (.app e ek n s x) else none
        | _,_,_=>none
     | _,_,_,_=>none
   | .max,[x,y],_=>match j5 x,j5 y with
     | some x,some y=>some (.mx true x y)
     | _,_=>none
   | .min,[x,y],_=>match j5 x,j5 y with
     | some x,some y=>some (.mx false x y)
     | _,_=>none
   | .max,x::ys,_=>match j5 x,G2 ys with
     | some x,some ys=>some (.mxs true x ys)
     | _,_=>none
   | .min,x::ys,_=>match j5 x,G2 ys with
     | some x,some ys=>some (.mxs false x ys)
     | _,_=>none
   | _,_,_=>none
 | .call { callee:=.value (.func f),args,.. }=>(G2 args.toList).map (.call f)
 | .call { callee:=.value (.tmp t),args,.. }=>(G2 args.toList).map (.callv (.t t))
 | _=>none
def jD (P:Program) (all:List Oper) (lvl:Nat) (ops:Array Oper) (o:Oper):Option IOper:=
 match yM P all lvl o with
 | none=>none
 | some op=>match o.guard with
   | none=>some { dst:=o.dst,guard:=none,op }
   | some (j,want)=>match (ops[j]?).bind (·.dst) with
     | some s=>some { dst:=o.dst,guard:=some (s,want),op }
     | none=>none
def G7 (P:Program) (all:List Oper) (lvl:Nat) (ops:Array Oper):List Oper->Option (List IOper)
 | []=>some []
 | o::r=>match jD P all lvl ops o,G7 P all lvl ops r with
   | some a,some b=>some (a::b)
   | _,_=>none
def IOp.opds:IOp->List Opd
 | .mv x | .un _ x | .load _ x | .faddr _ x | .nck x | .fld _ _ x | .len _ x | .lbox _ x | .hbox _ x | .fbox _ x | .b2s x | .cvs x | .ext x _ | .cvt _ x | .isn _ _ x | .tyck _ _ x | .rowck _ x=>[x]
 | .bin _ x y | .eqs _ _ x y | .eqb _ x y | .store _ x y | .ix _ x y | .six x y | .aix _ _ x y | .app _ _ _ x y | .mx _ x y | .peq x y=>[x,y]
 | .pick x y z=>[x,y,z]
 | .slc _ _ x lo hi=>x::(lo.toList++hi.toList)
 | .build _ ps=>ps.map (·.2.2)
 | .bsl _ _ _ _ _ ps=>ps.map (·.2)
 | .call _ a5=>a5
 | .callv x a5=>x::a5
 | .mkm=>[]
 | .mget _ _ _ x k | .ment _ _ x k=>[x,k]
 | .mset _ x k v | .msto x k v=>[x,k,v]
 | .mlen x=>[x]
 | .mxs _ x ys=>x::ys
 | .mkf _ a5 bs=>a5++bs
def l8:List Opd->List Nat
 | []=>[]
 | .t i::r=>i::l8 r
 | .k _::r=>l8 r
def IOper.reads (o:IOper):List Nat:=match o.guard with
 | none=>l8 o.op.opds
 | some (s,_)=>s::l8 o.op.opds
def jJ (a b:IOper):Bool:=
 (match a.dst with
 | some d=>!(b.reads.contains d)&&b.dst != some d
 | none=>true)&&(match b.dst with
 | some d=>!(a.reads.contains d)
 | none=>true)
def Q4:Cls->Cls->Bool
 | .pure,_=>true
 | _,.pure=>true
 | .lb,_=>true
 | _,.lb=>true
 | .rdw,_=>true
 | _,.rdw=>true
 | .rdb _,.rdb _=>true
 | .rdb b,.wrb b'=>b != b'
 | .wrb b,.rdb b'=>b != b'
 | .wrb _,.wrb _=>false
 | .rdb _,_=>true
 | .wrb _,_=>true
 | _,.rdb _=>true
 | _,.wrb _=>true
 | .rd,.rd=>true
 | .rd,.hb=>true
 | _,_=>false
def P6 (acc:List Nat):List Edge->Nat
 | []=>0
 | e::r=>if Region.binds .any e=true then (2 ^ e.on ||| acc.getD e.on 0) ||| P6 acc r else P6 acc r
def anc:List Oper->List Nat->List Nat
 | [],acc=>acc
 | o::r,acc=>anc r (acc++[P6 acc o.after.toList])
def xE:Nat->List Oper->Bool
 | _,[]=>true
 | k,o::r=>o.after.toList.all (fun e=>!Region.binds .any e||decide (e.on<k))&&xE (k+1) r
def xJ (ops:List Oper) (l:List (Cls×IOper)):Bool:=
 xE 0 ops&&(List.range l.length).all fun j=>(List.range j).all fun i=>((anc ops []).getD j 0).testBit i||(match l[i]?,l[j]? with
  | some x,some y=>Q4 x.1 y.1&&jJ x.2 y.2
  | _,_=>true)
def cutAt (A:List Nat) (n p:Nat):Bool:=(List.range n).all fun j=>decide (j<p)||(List.range p).all fun i=>(A.getD j 0).testBit i
def X7 (A:List Nat) (n:Nat):List (Cls×IOper)->Nat->List (Cls×IOper)->List (List (Cls×IOper))
 | [],_,cur=>[cur]
 | x::r,p,cur=>if cutAt A n p then cur::X7 A n r (p+1) [x] else X7 A n r (p+1) (cur++[x])
def V4:List (List (Cls×IOper))->Nat->Nat
 | [],_=>0
 | b::r,i=>if i<b.length then 0 else V4 r (i - b.length)+1
def aP (ops:List Oper) (bs:List (List (Cls×IOper))):Bool:=
 (List.range ops.length).all fun j=>(List.range j).all fun i=>((anc ops []).getD j 0).testBit i||V4 bs i==V4 bs j
def rootOf (ios:List IOper):Nat->Nat->Nat
 | 0,s=>s
 | n+1,s=>match ios.find? (fun o=>o.dst==some s) with
   | some o=>match o.op with
     | .faddr _ (.t x) | .nck (.t x) | .mv (.t x)=>rootOf ios n x
     | _=>s
   | none=>s
def N5 (md:Nat->Md) (lbs:Nat->Bool) (ios:List IOper):IOp->Cls
 | .load _ (.t a)=>if lbs (rootOf ios 6 a) then .rdb (rootOf ios 6 a) else .rd
 | .store _ (.t a) _=>if lbs (rootOf ios 6 a) then .wrb (rootOf ios 6 a) else .wr
 | .load _ _ | .ix _ _ _ | .slc _ _ _ _ _ | .b2s _ | .mget _ _ _ _ _ | .mlen _=>.rd
 | .bsl fz _ _ z _ _=>if fz then .pure else if z.all J5 then .hb else .wr
 | .call f _=>match md f with
   | .P=>.rd
   | .S=>.wr
 | .store _ _ _ | .callv _ _ | .app _ _ _ _ _ | .mkm | .mset _ _ _ _ | .ment _ _ _ _ | .msto _ _ _=>.wr
 | .hbox _ _=>.hb
 | .lbox _ _=>.lb
 | _=>.pure
def zX (c:Cls) (io:IOper):Cls:=match c,io.op,io.guard with
 | .rd,.load _ _,none=>.rdw
 | _,_,_=>c
def zO:Code->List Oper
 | .region _ ops true=>ops.toList
 | .seq a b | .cond _ a b=>zO a++zO b
 | .block _ b | .loop b | .scope b=>zO b
 | .rangeFunc _ _ a b=>zO a++zO b
 | _=>[]
def z92:Op->Bool
 | .alloc _ | .box _ _=>true
 | _=>false
def iE:Op->Bool
 | .box _ _=>true
 | _=>false
def q05 (all drw:List Oper) (s:Nat):Bool:=
 qU all 6 s&&all.any (fun o=>o.dst==some s&&z92 o.op)&&!(drw.any fun o=>o.dst==some s&&iE o.op&&mT all s)
def ins (x:Nat):List Nat->List Nat
 | []=>[x]
 | y::r=>if x<y then x::y::r else if x=y then y::r else y::ins x r
def uni (a b:List Nat):List Nat:=a.foldl (fun acc x=>ins x acc) b
def zu5 (o:Oper):List Nat:=o.op.operands.toList.filterMap fun
 | .tmp t=>some t
 | _=>none
def mO (ops:Array Oper):List Oper->List Nat->List Nat
 | [],after=>after
 | o::r,after=>
   let l:=mO ops r after
   let l:=match o.dst with
    | some d=>l.filter (· != d)
    | none=>l
   let l:=match o.guard with
    | some (j,_)=>match (ops[j]?).bind (·.dst) with
      | some s=>ins s l
      | none=>l
    | none=>l
   uni (zu5 o) l
def get (m:List (Nat×List Nat)) (i:Nat):List Nat:=match m.find? (·.1==i) with
 | some p=>p.2
 | none=>[]
def vG:Code->Option Nat
 | .seq a b=>match vG a with
   | some l=>some l
   | none=>vG b
 | .label l=>some l
 | _=>none
mutual
def live (res:List Nat):Code->List (Nat×List Nat)->List (Nat×List Nat)->List Nat->List Nat
 | .region _ ops _,_,_,after=>mO ops ops.toList after
 | .seq a b,ex,gs,after=>live res a ex gs (live res b ex gs after)
 | .cond c a b,ex,gs,after=>let l:=uni (live res a ex gs after) (live res b ex gs after)
   match c with
   | .tmp t=>ins t l
   | _=>l
 | .block id b,ex,gs,after=>live res b ((id,after)::ex) gs after
 | .loop b,ex,gs,_=>live res b ex gs (live res b ex gs (live res b ex gs []))
 | .exit id,ex,_,_=>get ex id
 | .goto l,_,gs,_=>get gs l
 | .ret,_,_,_=>res
 | .scope b,ex,gs,after=>match vG b with
   | none=>live res b ex gs after
   | some l=>live res b ex ((l,V3 res l b ex ((l,V3 res l b ex ((l,V3 res l b ex ((l,[])::gs) after)::gs) after)::gs) after)::gs) after
 | _,_,_,after=>after
def V3 (res:List Nat) (l:Nat):Code->List (Nat×List Nat)->List (Nat×List Nat)->List Nat->List Nat
 | .seq a b,ex,gs,after=>match V3 res l b ex gs after with
   | []=>V3 res l a ex gs (live res b ex gs after)
   | x=>x
 | .label l',_,_,after=>if l'=l then after else []
 | _,_,_,_=>[]
end
def N3:ICode->Nat->Option ICode
 | .seq a b,l=>match N3 a l with
   | some r=>some (.seq r b)
   | none=>N3 b l
 | .label l',l=>if l'==l then some .skip else none
 | _,_=>none
def b7 (P:Program) (md:Nat->Md) (all:List Oper) (lbs:Nat->Bool) (res:List Nat):Code->List (Nat×List Nat)->List (Nat×List Nat)->List Nat->Option ICode
 | .skip,_,_,_=>some .skip
 | .region _ ops false,_,_,_=>match G7 P all 6 ops ops.toList with
   | some ios=>some (.region ios)
   | none=>some .stuck
 | .region _ ops true,_,_,_=>match G7 P all 0 ops ops.toList with
   | some ios=>
     let l:=ios.map fun io=>(N5 md lbs ios io.op,io)
     if P.follows .mixedOrders=true/\xJ ops.toList l=true then some (.regionD l) else
     let l:=ios.map fun io=>(zX (N5 md lbs ios io.op) io,io)
     let bs:=X7 (anc ops.toList []) l.length l 0 []
     if P.follows .mixedOrders=true/\xJ ops.toList l=true/\aP ops.toList bs=true/\bs.flatten.length=l.length then some (.regionW bs) else some .stuck
   | none=>some .stuck
 | .seq a b,ex,gs,after=>match b7 P md all lbs res a ex gs (live res b ex gs after),b7 P md all lbs res b ex gs after with
   | some x,some y=>some (.seq x y)
   | _,_=>none
 | .cond c a b,ex,gs,after=>match j5 c,b7 P md all lbs res a ex gs after,b7 P md all lbs res b ex gs after with
   | some c,some x,some y=>some (.cond c (.seq (.keep (live res a ex gs after)) x) (.seq (.keep (live res b ex gs after)) y))
   | _,_,_=>none
 | .block id b,ex,gs,after=>(b7 P md all lbs res b ((id,after)::ex) gs after).map (.block id)
 | .loop b,ex,gs,_=>
   let l:=live res b ex gs (live res b ex gs (live res b ex gs []))
   (b7 P md all lbs res b ex gs l).map (.loop l)
 | .exit id,_,_,_=>some (.exit id)
 | .ret,_,_,_=>some .ret
 | .label l,_,_,_=>some (.label l)
 | .goto l,_,_,_=>some (.goto l)
 | .scope b,ex,gs,after=>match vG b with
   | none=>none
   | some l=>
     let L:=V3 res l b ex ((l,V3 res l b ex ((l,V3 res l b ex ((l,[])::gs) after)::gs) after)::gs) after
     match b7 P md all lbs res b ex ((l,L)::gs) after with
     | none=>none
     | some ib=>match N3 ib l with
       | none=>none
       | some ir=>some (.scope l L ib ir)
 | _,_,_,_=>some .stuck
def fE (f:Func):List Nat:=f.results.toList.map fun
 | .tmp t=>t
 | .cell a _=>a
def V6 (P:Program):List ResultVar->Option (List IRes)
 | []=>some []
 | .tmp t::r=>(V6 P r).map (IRes.tmp t::·)
 | .cell a t::r=>match x5 P t,V6 P r with
   | some ek,some l=>some (.cell a ek::l)
   | _,_=>none
def mdL (l:List Nat) (f:Nat):Md:=if l.contains f then .S else .P
def zt1 (md:Nat->Md) (o:Oper):Oper:=match o.op with
 | .call c=>match c.callee with
   | .value (.func f)=>match md f with
     | .S=>{ o with op:=.call { c with callee:=.builtin .copy } }
     | .P=>o
   | _=>o
 | _=>o
def qI (P:Program) (md:Nat->Md) (f:Func):Option IFn:=
 match f.body with
 | none=>none
 | some c=>if f.name== "runtime.NumGoroutine"||!(Code.opers c).all (fun o=>o.dst.all (·<f.ntmps)) then none else match b7 P md ((Code.opers c).map (zt1 md)) (q05 (Code.opers c) (zO c)) (fE f) c [] [] (fE f),V6 P f.results.toList with
   | some b,some r=>some { body:=b,res:=r }
   | _,_=>none
abbrev xo (d:Nat) (o:IOp):IOper:=⟨some d,none,o⟩
abbrev xt (d g:Nat) (o:IOp):IOper:=⟨some d,some (g,true),o⟩
abbrev xf (d g:Nat) (o:IOp):IOper:=⟨some d,some (g,false),o⟩
abbrev xn (o:IOp):IOper:=⟨none,none,o⟩
abbrev xm (d s:Nat):IOper:=⟨some d,none,.mv (.t s)⟩
abbrev ki (n:Int):Opd:=.k (.c (.int .i64 n))
abbrev kb (b:Bool):Opd:=.k (.c (.bool b))
abbrev ks (s:List UInt8):Opd:=.k (.c (.str s))
abbrev ku (n:Int):Opd:=.k (.c (.int .u8 n))
abbrev ci (n:Int):HV:=.c (.int .i64 n)
abbrev cs (s:List UInt8):HV:=.c (.str s)
abbrev rg (l:List IOper) (c:ICode):ICode:=.seq (.region l) c
abbrev kq (l:List Nat) (c:ICode):ICode:=.seq (.keep l) c
abbrev kS (l:List Nat):ICode:=.seq (.keep l) .skip
abbrev cd (n:Nat) (a b:ICode):ICode:=.cond (.t n) a b
abbrev xe (d s:Nat):IOper:=⟨some d,none,.len true (.t s)⟩
abbrev xv (d:Nat) (x:Opd):IOper:=⟨some d,none,.mv x⟩
abbrev xp (d a b:Nat):IOper:=⟨some d,none,.pick (.t a) (kb true) (.t b)⟩
abbrev xP (d a b:Nat):IOper:=⟨some d,none,.pick (.t a) (.t b) (kb false)⟩
abbrev gt (d g s:Nat):IOper:=⟨some d,some (g,true),.mv (.t s)⟩
abbrev gf (d g s:Nat):IOper:=⟨some d,some (g,false),.mv (.t s)⟩
end Go.Proofs.Lz
