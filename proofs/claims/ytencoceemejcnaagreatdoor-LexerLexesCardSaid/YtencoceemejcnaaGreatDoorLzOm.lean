/- The evaluator without a number of rounds: its equations. -/
import Derived.Test.YtencoceemejcnaaGreatDoorLzEv
namespace Go.Proofs.Lz
def N4:Value->Option CV
 | .bool b=>some (.bool b)
 | .int k n=>some (.int k n)
 | .string s=>some (.str s.data.toList)
 | .pointer none=>some .nilp
 | .slice none 0 0=>some (.frz none [])
 | .nilFunc=>some .nilfn
 | .nilIface=>some .nili
 | _=>none
def zM:List Value->Option (List CV)
 | []=>some []
 | v::r=>match N4 v,zM r with
   | some a,some b=>some (a::b)
   | _,_=>none
def kZ:Value->Option HV
 | .slice none 0 0=>some .nils
 | v=>(N4 v).map .c
def jF:List Value->Option (List HV)
 | []=>some []
 | v::r=>match kZ v,jF r with
   | some a,some b=>some (a::b)
   | _,_=>none
def uX:Value->Option HV
 | .agg cs=>(jF cs.toList).map X0
 | v=>kZ v
def c7:Operand->Option Opd
 | .tmp t=>some (.t t)
 | .const v=>(uX v).map .k
 | .func f=>some (.k (.c (.fn f [] [])))
 | .global _=>none
def X1:List Operand->Option (List Opd)
 | []=>some []
 | x::r=>match c7 x,X1 r with
   | some a,some b=>some (a::b)
   | _,_=>none
def vR:Option Operand->Option (Option Opd)
 | none=>some none
 | some x=>(c7 x).map some
def A0 (P:Program) (t:TypeId):Option (Option Nat):=
 match P.underlying t,P.info? t with
 | some (.struct _),some i=>if 0<i.size then some (some i.size) else none
 | some (.array _ _),_=>none
 | some _,some i=>if i.size=1 then some none else none
 | _,_=>none
def zeroOf (P:Program) (t:TypeId):Option Value:=(P.info? t).bind (·.zero)
def nK (P:Program) (t:TypeId):Option Nat:=(P.info? t).map (·.bytes)
def yH (ok:TypeId->Option (List Nat)) (P:Program) (off:Nat):List Field->Option (List Nat)
 | []=>some []
 | f::r=>if f.offset=off/\f.name≠ "_" then match ok f.type,yH ok P (off+P.cellsOf f.type) r with
    | some a,some b=>if a.length=P.cellsOf f.type then some (a++b) else none
    | _,_=>none
   else none
def qE (P:Program):Nat->TypeId->Option (List Nat)
 | 0,_=>none
 | d+1,t=>match P.underlying t with
   | some .bool=>some [0]
   | some (.int _)=>some [1]
   | some .string=>some [2]
   | some (.struct fs)=>if P.stoodInHeld t then none else yH (qE P d) P 0 fs.toList
   | _=>none
def yE (ops:List Oper):Nat->Nat->Bool
 | 0,_=>false
 | n+1,d=>ops.all fun o=>match o.op with
   | .load _ (.tmp _)=>true
   | .store _ (.tmp _) (.tmp x)=>x != d
   | .fieldAddr _ (.tmp x) _ | .nilCheck (.tmp x)=>x != d||(match o.dst with
     | some e=>yE ops n e
     | none=>true)
   | .move (.tmp x)=>x != d||(match o.dst with
     | some e=>yE ops n e
     | none=>true)
   | op=>op.operands.all fun
     | .tmp x=>x != d
     | _=>true
def iN (ops:List Oper):Nat->Nat->Bool
 | 0,_=>false
 | n+1,d=>ops.all fun o=>match o.op with
   | .store _ (.tmp x) _=>x != d
   | .fieldAddr _ (.tmp x) _ | .nilCheck (.tmp x) | .move (.tmp x)=>x != d||(match o.dst with
     | some e=>iN ops n e
     | none=>true)
   | _=>true
def zo6 (ops:List Oper) (d:Nat):Bool:=yE ops 6 d&&iN ops 6 d
def qp1 (ops:List Oper) (d:Nat):Bool:=ops.all fun o=>match o.op with
 | .call { callee:=.builtin .append,args,.. }=>match args.toList with
   | .tmp s::_=>s != d
   | _=>true
 | .call { callee:=.builtin .copy,args,.. }=>args.toList.all fun
   | .tmp x=>x != d
   | _=>true
 | .call _ | .build _ _ | .buildSlice _ _ _ | .store _ _ _=>true
 | op=>op.operands.all fun
   | .tmp x=>x != d
   | _=>true
def Code.opers:Code->List Oper
 | .region _ ops _=>ops.toList
 | .seq a b=>Code.opers a++Code.opers b
 | .cond _ a b=>Code.opers a++Code.opers b
 | .block _ b | .loop b | .scope b=>Code.opers b
 | .rangeFunc _ _ a b=>Code.opers a++Code.opers b
 | _=>[]
def partsOf (f:Nat->Option (Nat×Nat)):List (Nat×Operand)->Option (List (Nat×Nat×Opd))
 | []=>some []
 | (i,x)::r=>match f i,c7 x,partsOf f r with
   | some (o,n),some a,some b=>some ((o,n,a)::b)
   | _,_,_=>none
def vJ:List (Nat×Operand)->Option (List (Nat×Opd))
 | []=>some []
 | (i,x)::r=>match c7 x,vJ r with
   | some a,some b=>some ((i,a)::b)
   | _,_=>none
def isNil (k:Nat):Operand->Bool
 | .const (.pointer none)=>k==0
 | .const .nilIface=>k==1
 | .const .nilFunc=>k==2
 | .const (.slice none _ _)=>k==3
 | _=>false
def zu3 (P:Program) (e:TypeId):Bool:=match P.underlying e with
 | some (.struct fs)=>match fs[0]? with
   | some fd=>match P.underlying fd.type with
     | some (.pointer t)=>t==e
     | _=>false
   | none=>false
 | _=>false
def mQ (P:Program) (e:TypeId):Option Nat->Option (Option Nat)
 | none=>some none
 | some n=>if n<xW then some (if zu3 P e then zp0 n e else some n) else none
theorem z18 {P:Program} {e:TypeId} {ek k:Option Nat} (h:mQ P e ek=some k):∀ T,S6 k=some T->e=T:=by
 intro T hT;unfold mQ at h;split at h
 . injection h with h;subst h;cases hT
 . rename_i n;split at h
   . rename_i hn;injection h with h;split at h
     . subst h;simp only [S6,zp0] at hT;split at hT
       . injection hT with hT;have h1:(n+xW * (e+1)) / xW=e+1:=by
          rw [Nat.add_mul_div_left _ _ (by decide),Nat.div_eq_of_lt hn,Nat.zero_add]
         rw [h1] at hT;simpa using hT
       . cases hT
     . subst h;simp only [S6] at hT;rw [if_neg (by omega)] at hT;cases hT
   . cases h
def mR (P:Program) (all:List Oper) (lvl:Nat) (o:Oper):Option IOp:=
 match o.op with
 | .move x | .assign x=>(c7 x).map .mv
 | .pick c a b=>match c7 c,c7 a,c7 b with
   | some c,some a,some b=>some (.pick c a b)
   | _,_,_=>none
 | .alloc e=>match (zeroOf P e).bind uX,A0 P e with
   | some z,some ek=>if (o.dst.map (yE all 6)).getD false then some (.lbox ek (.k z)) else (mQ P e ek).map fun k=>.hbox k (.k z)
   | _,_=>none
 | .box e x=>match c7 x,A0 P e with
   | some x,some ek=>if lvl=0/\(o.dst.map (zo6 all)).getD false=true then some (.fbox ek x) else if (o.dst.map (yE all 6)).getD false then some (.lbox ek x) else (mQ P e ek).map fun k=>.hbox k x
   | _,_=>none
 | .build t parts=>match P.underlying t,(zeroOf P t).bind (fun z=>jF z.cells.toList) with
   | some (.struct fs),some z=>match fs.toList.mapM (fun f=>(P.info? f.type).map fun i=>(f.offset,i.size)) with
     | some pl=>(partsOf (pl.toArray[·]?) parts.toList).map (.build z)
     | none=>none
   | _,_=>none
 | .buildSlice t len parts=>match P.underlying t with
   | some (.slice e)=>match A0 P e,(zeroOf P e).bind (fun z=>zM z.cells.toList),vJ parts.toList with
     | some ek,some z,some ps=>if len * (g7 ek)<=16777216/\z.length=g7 ek then some (.bsl ((o.dst.map (qp1 all)).getD false) e ek z len ps) else none
     | _,_,_=>none
   | _=>none
 | .load t a=>match A0 P t,c7 a with
   | some ek,some a=>some (.load ek a)
   | _,_=>none
 | .store t a x=>match o.dst,A0 P t,c7 a,c7 x with
   | none,some ek,some a,some x=>some (.store ek a x)
   | _,_,_,_=>none
 | .nilCheck x=>(c7 x).map .nck
 | .binOp op xt x y' _=>match c7 x,c7 y' with
   | some x,some y=>match op with
     | .eql | .neq=>match P.underlying xt with
       | some .bool=>some (.eqb (op matches .neq) x y)
       | some (.int _) | some .string=>some (.bin op x y)
       | some (.struct _)=>if P.eqGuardType P.depth xt then none else (qE P 100 xt).map fun ks=>.eqs (op matches .neq) ks x y
       | some (.pointer _)=>if isNil 0 y'=true then some (.isn (op matches .neq) 0 x) else none
       | some (.interface _)=>if isNil 1 y'=true then some (.isn (op matches .neq) 1 x) else none
       | some (.func _ _ _)=>if isNil 2 y'=true then some (.isn (op matches .neq) 2 x) else none
       | some (.slice _)=>if isNil 3 y'=true then some (.isn (op matches .neq) 3 x) else none
       | _=>none
     | _=>some (.bin op x y)
   | _,_=>none
 | .unOp op _ x=>(c7 x).map (.un op)
 | .convert s d x=>match P.underlying s,P.underlying d with
   | some (.int _),some (.int k)=>(c7 x).map (.cvt k)
   | some .string,some .string=>(c7 x).map .cvs
   | some (.slice e),some .string=>match P.underlying e with
     | some (.int .u8)=>(c7 x).map .b2s
     | _=>none
   | _,_=>none
 | .makeFunc (.func f) first cap=>match X1 first.toList,X1 cap.toList with
   | some a,some b=>some (.mkf f a b)
   | _,_=>none
 | .slice t x lo hi none=>match P.underlying t,c7 x,vR lo,vR hi with
   | some .string,some x,some lo,some hi=>some (.slc true none x lo hi)
   | some (.slice e),some x,some lo,some hi=>(A0 P e).map fun ek=>.slc false ek x lo hi
   | _,_,_,_=>none
 | .fieldAddr s x f=>match P.underlying s with
   | some (.struct fs)=>match fs[f]? with
     | some fd=>match A0 P fd.type,c7 x with
       | some _,some x=>some (.faddr fd.offset x)
       | _,_=>none
     | none=>none
   | _=>none
 | .field s x f=>match P.underlying s with
   | some (.struct fs)=>match fs[f]? with
     | some fd=>match A0 P fd.type,c7 x with
       | some ek,some x=>some (.fld ek fd.offset x)
       | _,_=>none
     | none=>none
   | _=>none
 | .indexAddr t x i=>match P.underlying t with
   | some (.slice e)=>match A0 P e,c7 x,c7 i with
     | some ek,some x,some i=>some (.ix ek x i)
     | _,_,_=>none
   | _=>none
 | .index t x i=>match P.underlying t,c7 x,c7 i with
   | some .string,some x,some i=>some (.six x i)
   | _,_,_=>none
 | .extract x i=>(c7 x).map (.ext · i)
 | .call { callee:=.builtin b,args,argTypes }=>match b,args.toList,argTypes.toList with
   | .len,[x],[t]=>match P.underlying t,c7 x with
     | some .string,some x=>some (.len true x)
     | some (.slice _),some x=>some (.len false x)
     | _,_=>none
   | .append,[s,x],[t,u]=>match P.underlying t,P.underlying u,c7 s,c7 x with
     | some (.slice e),some (.slice _),some s,some x=>if t=u then match A0 P e,nK P e,zeroOf P e with
        | some ek,some n,some z=>if z.cells.size=g7 ek then some (.app e ek n s x) else none
        | _,_,_=>none
       else none
     | some (.slice e),some .string,some s,some x=>match A0 P e,nK P e,zeroOf P e with
        | some ek,some n,some z=>if z.cells.size=g7 ek then some (.app e ek n s x) else none
        | _,_,_=>none
     | _,_,_,_=>none
   | .max,[x,y],_=>match c7 x,c7 y with
     | some x,some y=>some (.mx true x y)
     | _,_=>none
   | .min,[x,y],_=>match c7 x,c7 y with
     | some x,some y=>some (.mx false x y)
     | _,_=>none
   | _,_,_=>none
 | .call { callee:=.value (.func f),args,.. }=>(X1 args.toList).map (.call f)
 | .call { callee:=.value (.tmp t),args,.. }=>(X1 args.toList).map (.callv (.t t))
 | _=>none
def kL (P:Program) (all:List Oper) (lvl:Nat) (ops:Array Oper) (o:Oper):Option IOper:=
 match mR P all lvl o with
 | none=>none
 | some op=>match o.guard with
   | none=>some { dst:=o.dst,guard:=none,op }
   | some (j,want)=>match (ops[j]?).bind (·.dst) with
     | some s=>some { dst:=o.dst,guard:=some (s,want),op }
     | none=>none
def U6 (P:Program) (all:List Oper) (lvl:Nat) (ops:Array Oper):List Oper->Option (List IOper)
 | []=>some []
 | o::r=>match kL P all lvl ops o,U6 P all lvl ops r with
   | some a,some b=>some (a::b)
   | _,_=>none
def IOp.opds:IOp->List Opd
 | .mv x | .un _ x | .load _ x | .faddr _ x | .nck x | .fld _ _ x | .len _ x | .lbox _ x | .hbox _ x | .fbox _ x | .b2s x | .cvs x | .ext x _ | .cvt _ x | .isn _ _ x | .tyck _ _ x | .rowck _ x=>[x]
 | .bin _ x y | .eqs _ _ x y | .eqb _ x y | .store _ x y | .ix _ x y | .six x y | .app _ _ _ x y | .mx _ x y | .peq x y=>[x,y]
 | .pick x y z=>[x,y,z]
 | .slc _ _ x lo hi=>x::(lo.toList++hi.toList)
 | .build _ ps=>ps.map (·.2.2)
 | .bsl _ _ _ _ _ ps=>ps.map (·.2)
 | .call _ a5=>a5
 | .callv x a5=>x::a5
 | .mkf _ a5 bs=>a5++bs
def H8:List Opd->List Nat
 | []=>[]
 | .t i::r=>i::H8 r
 | .k _::r=>H8 r
def IOper.reads (o:IOper):List Nat:=match o.guard with
 | none=>H8 o.op.opds
 | some (s,_)=>s::H8 o.op.opds
def pN (a b:IOper):Bool:=
 (match a.dst with
 | some d=>!(b.reads.contains d)&&b.dst != some d
 | none=>true)&&(match b.dst with
 | some d=>!(a.reads.contains d)
 | none=>true)
def vQ:Cls->Cls->Bool
 | .pure,_=>true
 | _,.pure=>true
 | .lb,_=>true
 | _,.lb=>true
 | .rdb,.rdb=>true
 | .rdb,.wrb=>false
 | .wrb,.rdb=>false
 | .wrb,.wrb=>false
 | .rdb,_=>true
 | .wrb,_=>true
 | _,.rdb=>true
 | _,.wrb=>true
 | .rd,.rd=>true
 | .rd,.hb=>true
 | _,_=>false
def qQ (acc:List Nat):List Edge->Nat
 | []=>0
 | e::r=>if Region.binds .any e=true then (2 ^ e.on ||| acc.getD e.on 0) ||| qQ acc r else qQ acc r
def anc:List Oper->List Nat->List Nat
 | [],acc=>acc
 | o::r,acc=>anc r (acc++[qQ acc o.after.toList])
def nM:Nat->List Oper->Bool
 | _,[]=>true
 | k,o::r=>o.after.toList.all (fun e=>!Region.binds .any e||decide (e.on<k))&&nM (k+1) r
def rC (ops:List Oper) (l:List (Cls×IOper)):Bool:=
 nM 0 ops&&(List.range l.length).all fun j=>(List.range j).all fun i=>((anc ops []).getD j 0).testBit i||(match l[i]?,l[j]? with
  | some x,some y=>vQ x.1 y.1&&pN x.2 y.2
  | _,_=>true)
def rootOf (ios:List IOper):Nat->Nat->Nat
 | 0,s=>s
 | n+1,s=>match ios.find? (fun o=>o.dst==some s) with
   | some o=>match o.op with
     | .faddr _ (.t x) | .nck (.t x) | .mv (.t x)=>rootOf ios n x
     | _=>s
   | none=>s
def lA (md:Nat->Md) (lbs:Nat->Bool) (ios:List IOper):IOp->Cls
 | .load _ (.t a)=>if lbs (rootOf ios 6 a) then .rdb else .rd
 | .store _ (.t a) _=>if lbs (rootOf ios 6 a) then .wrb else .wr
 | .load _ _ | .ix _ _ _ | .slc _ _ _ _ _ | .b2s _=>.rd
 | .bsl fz _ _ _ _ _=>if fz then .pure else .wr
 | .call f _=>match md f with
   | .P=>.rd
   | .S=>.wr
 | .store _ _ _ | .callv _ _ | .app _ _ _ _ _=>.wr
 | .hbox _ _=>.hb
 | .lbox _ _=>.lb
 | _=>.pure
def yA:Code->List Oper
 | .region _ ops true=>ops.toList
 | .seq a b | .cond _ a b=>yA a++yA b
 | .block _ b | .loop b | .scope b=>yA b
 | .rangeFunc _ _ a b=>yA a++yA b
 | _=>[]
def j94:Op->Bool
 | .alloc _ | .box _ _=>true
 | _=>false
def j97:Op->Bool
 | .box _ _=>true
 | _=>false
def qi0 (all drw:List Oper) (s:Nat):Bool:=
 yE all 6 s&&all.any (fun o=>o.dst==some s&&j94 o.op)&&!(drw.any fun o=>o.dst==some s&&j97 o.op&&zo6 all s)
def ins (x:Nat):List Nat->List Nat
 | []=>[x]
 | y::r=>if x<y then x::y::r else if x=y then y::r else y::ins x r
def uni (a b:List Nat):List Nat:=a.foldl (fun acc x=>ins x acc) b
def j60 (o:Oper):List Nat:=o.op.operands.toList.filterMap fun
 | .tmp t=>some t
 | _=>none
def zd4 (ops:Array Oper):List Oper->List Nat->List Nat
 | [],after=>after
 | o::r,after=>
   let l:=zd4 ops r after
   let l:=match o.dst with
    | some d=>l.filter (· != d)
    | none=>l
   let l:=match o.guard with
    | some (j,_)=>match (ops[j]?).bind (·.dst) with
      | some s=>ins s l
      | none=>l
    | none=>l
   uni (j60 o) l
def get (m:List (Nat×List Nat)) (i:Nat):List Nat:=match m.find? (·.1==i) with
 | some p=>p.2
 | none=>[]
def nA:Code->Option Nat
 | .seq a b=>match nA a with
   | some l=>some l
   | none=>nA b
 | .label l=>some l
 | _=>none
mutual
def live (res:List Nat):Code->List (Nat×List Nat)->List (Nat×List Nat)->List Nat->List Nat
 | .region _ ops _,_,_,after=>zd4 ops ops.toList after
 | .seq a b,ex,gs,after=>live res a ex gs (live res b ex gs after)
 | .cond c a b,ex,gs,after=>let l:=uni (live res a ex gs after) (live res b ex gs after)
   match c with
   | .tmp t=>ins t l
   | _=>l
 | .block id b,ex,gs,after=>live res b ((id,after)::ex) gs after
 | .loop b,ex,gs,_=>live res b ex gs (live res b ex gs (live res b ex gs []))
 | .exit id,ex,_,_=>get ex id
 | .goto l,_,gs,_=>get gs l
 | .ret,_,_,_=>res
 | .scope b,ex,gs,after=>match nA b with
   | none=>live res b ex gs after
   | some l=>live res b ex ((l,wM res l b ex ((l,wM res l b ex ((l,wM res l b ex ((l,[])::gs) after)::gs) after)::gs) after)::gs) after
 | _,_,_,after=>after
def wM (res:List Nat) (l:Nat):Code->List (Nat×List Nat)->List (Nat×List Nat)->List Nat->List Nat
 | .seq a b,ex,gs,after=>match wM res l b ex gs after with
   | []=>wM res l a ex gs (live res b ex gs after)
   | x=>x
 | .label l',_,_,after=>if l'=l then after else []
 | _,_,_,_=>[]
end
def zY:ICode->Nat->Option ICode
 | .seq a b,l=>match zY a l with
   | some r=>some (.seq r b)
   | none=>zY b l
 | .label l',l=>if l'==l then some .skip else none
 | _,_=>none
def D5 (P:Program) (md:Nat->Md) (all:List Oper) (lbs:Nat->Bool) (res:List Nat):Code->List (Nat×List Nat)->List (Nat×List Nat)->List Nat->Option ICode
 | .skip,_,_,_=>some .skip
 | .region _ ops false,_,_,_=>(U6 P all 6 ops ops.toList).map .region
 | .region _ ops true,_,_,_=>match U6 P all 0 ops ops.toList with
   | some ios=>
     let l:=ios.map fun io=>(lA md lbs ios io.op,io)
     if P.follows .mixedOrders=true/\rC ops.toList l=true then some (.regionD l) else none
   | none=>none
 | .seq a b,ex,gs,after=>match D5 P md all lbs res a ex gs (live res b ex gs after),D5 P md all lbs res b ex gs after with
   | some x,some y=>some (.seq x y)
   | _,_=>none
 | .cond c a b,ex,gs,after=>match c7 c,D5 P md all lbs res a ex gs after,D5 P md all lbs res b ex gs after with
   | some c,some x,some y=>some (.cond c (.seq (.keep (live res a ex gs after)) x) (.seq (.keep (live res b ex gs after)) y))
   | _,_,_=>none
 | .block id b,ex,gs,after=>(D5 P md all lbs res b ((id,after)::ex) gs after).map (.block id)
 | .loop b,ex,gs,_=>
   let l:=live res b ex gs (live res b ex gs (live res b ex gs []))
   (D5 P md all lbs res b ex gs l).map (.loop l)
 | .exit id,_,_,_=>some (.exit id)
 | .ret,_,_,_=>some .ret
 | .label l,_,_,_=>some (.label l)
 | .goto l,_,_,_=>some (.goto l)
 | .scope b,ex,gs,after=>match nA b with
   | none=>none
   | some l=>
     let L:=wM res l b ex ((l,wM res l b ex ((l,wM res l b ex ((l,[])::gs) after)::gs) after)::gs) after
     match D5 P md all lbs res b ex ((l,L)::gs) after with
     | none=>none
     | some ib=>match zY ib l with
       | none=>none
       | some ir=>some (.scope l L ib ir)
 | _,_,_,_=>none
def z41 (f:Func):List Nat:=f.results.toList.map fun
 | .tmp t=>t
 | .cell a _=>a
def wV (P:Program):List ResultVar->Option (List IRes)
 | []=>some []
 | .tmp t::r=>(wV P r).map (IRes.tmp t::·)
 | .cell a t::r=>match A0 P t,wV P r with
   | some ek,some l=>some (.cell a ek::l)
   | _,_=>none
def mdL (l:List Nat) (f:Nat):Md:=if l.contains f then .S else .P
def q87 (md:Nat->Md) (o:Oper):Oper:=match o.op with
 | .call c=>match c.callee with
   | .value (.func f)=>match md f with
     | .S=>{ o with op:=.call { c with callee:=.builtin .copy } }
     | .P=>o
   | _=>o
 | _=>o
def nN (P:Program) (md:Nat->Md) (f:Func):Option IFn:=
 match f.body with
 | none=>none
 | some c=>if f.name== "runtime.NumGoroutine"||!(Code.opers c).all (fun o=>o.dst.all (·<f.ntmps)) then none else match D5 P md ((Code.opers c).map (q87 md)) (qi0 (Code.opers c) (yA c)) (z41 f) c [] [] (z41 f),wV P f.results.toList with
   | some b,some r=>some { body:=b,res:=r }
   | _,_=>none
abbrev xo (d:Nat) (o:IOp):IOper:=⟨some d,none,o⟩
abbrev xt (d g:Nat) (o:IOp):IOper:=⟨some d,some (g,true),o⟩
abbrev xf (d g:Nat) (o:IOp):IOper:=⟨some d,some (g,false),o⟩
abbrev xn (o:IOp):IOper:=⟨none,none,o⟩
abbrev xm (d s:Nat):IOper:=⟨some d,none,.mv (.t s)⟩
abbrev ki (n:Int):Opd:=.k (.c (.int .i64 n))
abbrev kb (b:Bool):Opd:=.k (.c (.bool b))
abbrev ks (s:List UInt8):Opd:=.k (.c (.str s))
abbrev ku (n:Int):Opd:=.k (.c (.int .u8 n))
abbrev ci (n:Int):HV:=.c (.int .i64 n)
abbrev cs (s:List UInt8):HV:=.c (.str s)
abbrev cB (b:Bool):HV:=.c (.bool b)
abbrev rg (l:List IOper) (c:ICode):ICode:=.seq (.region l) c
abbrev kq (l:List Nat) (c:ICode):ICode:=.seq (.keep l) c
abbrev kS (l:List Nat):ICode:=.seq (.keep l) .skip
abbrev cd (n:Nat) (a b:ICode):ICode:=.cond (.t n) a b
abbrev xa (d k s:Nat):IOper:=⟨some d,none,.faddr k (.t s)⟩
abbrev xk (d s:Nat):IOper:=⟨some d,none,.nck (.t s)⟩
abbrev xl (d s:Nat):IOper:=⟨some d,none,.load none (.t s)⟩
abbrev xe (d s:Nat):IOper:=⟨some d,none,.len true (.t s)⟩
abbrev xv (d:Nat) (x:Opd):IOper:=⟨some d,none,.mv x⟩
abbrev xp (d a b:Nat):IOper:=⟨some d,none,.pick (.t a) (kb true) (.t b)⟩
abbrev xP (d a b:Nat):IOper:=⟨some d,none,.pick (.t a) (.t b) (kb false)⟩
abbrev gt (d g s:Nat):IOper:=⟨some d,some (g,true),.mv (.t s)⟩
abbrev gf (d g s:Nat):IOper:=⟨some d,some (g,false),.mv (.t s)⟩
abbrev zT:List HV:=[ci 0,cs [],cs [],ci 0,cB false,ci 0,ci 0]
abbrev zU:List HV:=[ci 0,cs [],cs [],ci 0,cB false,ci 0,ci 0,ci 0,ci 0,ci 0,cs []]
abbrev zV:List HV:=[ci 0,cs [],ci 0,ci 0]
abbrev aT:Opd:=.k (.c (.agg [.int .i64 0,.str [],.str [],.int .i64 0,.bool false,.int .i64 0,.int .i64 0]))
abbrev aU:Opd:=.k (.c (.agg [.int .i64 0,.str [],.str [],.int .i64 0,.bool false,.int .i64 0,.int .i64 0,.int .i64 0,.int .i64 0,.int .i64 0,.str []]))
abbrev aV:Opd:=.k (.c (.agg [.int .i64 0,.str [],.int .i64 0,.int .i64 0]))
end Go.Proofs.Lz
namespace Go.Proofs.Lz
def Le {α:Type} (a b:Option α):Prop:=∀ r,a=some r->b=some r
theorem Le.refl {α:Type} (a:Option α):Le a a:=fun _ h=>h
theorem Le.trans {α:Type} {a b c:Option α} (h:Le a b) (k:Le b c):Le a c:=fun r hr=>k r (h r hr)
open Classical in
noncomputable def lub {α:Type} (g:Nat->Option α):Option α:=
 if h:∃ n r,g n=some r then g (Classical.choose h) else none
theorem cX {α:Type} {g:Nat->Option α} {r:α} (h:lub g=some r):∃ n,g n=some r:=by
 unfold lub at h;split at h
 . exact ⟨_,h⟩
 . cases h
theorem cE {α:Type} {g:Nat->Option α} (hm:∀ n,Le (g n) (g (n+1))) {n:Nat} {r:α} (h:g n=some r):lub g=some r:=by
 have hle:∀ k m,Le (g m) (g (m+k)):=by
  intro k;induction k with
  | zero=>intro m;exact Le.refl _
  | succ k ih=>intro m;exact (ih m).trans (hm (m+k))
 have hex:∃ n r,g n=some r:=⟨n,r,h⟩;unfold lub;rw [dif_pos hex];obtain ⟨r',hr'⟩:=Classical.choose_spec hex;generalize Classical.choose hex=m at hr' ⊢;have h1:g (m+n)=some r':=hle n m _ hr';have h2:g (n+m)=some r:=hle m n _ h;rw [Nat.add_comm] at h2;rw [hr',<-h1,h2]
def X7 (c c':f7):Prop:=∀ f a H,Le (c f a H) (c' f a H)
def yL (s s':Run):Prop:=∀ fr H,Le (s fr H) (s' fr H)
theorem sH {E:Env} {c c':f7} (h:X7 c c'):X7 (G6 E c) (G6 E c'):=by
 intro f a H r hr;unfold G6 at hr ⊢;cases hm:E.md f with
 | S=>rw [hm] at hr;exact h _ _ _ _ hr
 | P=>
   rw [hm] at hr;dsimp only at hr ⊢;cases ha:J0 H a with
   | none=>rw [ha] at hr;cases hr
   | some a5=>
     rw [ha] at hr;dsimp only at hr ⊢;cases hc:c f a5 [] with
     | none=>rw [hc] at hr;cases hr
     | some p=>rw [hc] at hr;rw [h _ _ _ _ hc];exact hr
theorem bV {E:Env} {c c':f7} (h:X7 c c') (o:IOp) (dst:Option Nat) (fr:Fr) (H:j6):Le (i8 E c o dst fr H) (i8 E c' o dst fr H):=by
 intro r hr;unfold i8 at hr ⊢;split at hr
 . rename_i f args;unfold S2 at hr ⊢;cases hc:G6 E c f (args.map fr.opd) H with
   | none=>rw [hc] at hr;cases hr
   | some p=>rw [hc] at hr;rw [sH h _ _ _ _ hc];exact hr
 . rename_i x args;cases ht:xQ (fr.opd x) (args.map fr.opd) with
   | none=>rw [ht] at hr;cases hr
   | some p=>
     rw [ht] at hr;unfold S2 at hr ⊢;dsimp only at hr ⊢;cases hc:G6 E c p.1 p.2 H with
     | none=>rw [hc] at hr;cases hr
     | some q=>rw [hc] at hr;rw [sH h _ _ _ _ hc];exact hr
 . exact hr
theorem jf1 {E:Env} {c c':f7} (h:X7 c c') (o:IOper) (fr:Fr) (H:j6):Le (stp E c o fr H) (stp E c' o fr H):=by
 intro r hr;unfold stp at hr ⊢;cases hg:o.guard with
 | none=>rw [hg] at hr;exact bV h _ _ _ _ _ hr
 | some g=>
   rw [hg] at hr;obtain ⟨s,want⟩:=g;dsimp only at hr ⊢;split at hr
   . split at hr
     . rename_i hb;rw [if_pos hb];exact bV h _ _ _ _ _ hr
     . rename_i hb;rw [if_neg hb];exact hr
   . exact hr
   . cases hr
theorem jb1 {E:Env} {c c':f7} (h:X7 c c') (ops:List IOper):∀ (fr:Fr) (H:j6),Le (C6 E c ops fr H) (C6 E c' ops fr H):=by
 induction ops with
 | nil=>intro fr H;exact Le.refl _
 | cons o ops ih=>
   intro fr H r hr;unfold C6 at hr ⊢;cases hs:stp E c o fr H with
   | none=>rw [hs] at hr;cases hr
   | some p=>rw [hs] at hr;rw [jf1 h _ _ _ _ hs];exact ih _ _ _ hr
theorem zc5 {E:Env} {c c':f7} (h:X7 c c') (cl:Cls) (o:IOp) (dst:Option Nat) (fr:Fr) (H:j6):Le (doD E c cl o dst fr H) (doD E c' cl o dst fr H):=by
 intro r hr;unfold doD at hr ⊢;split at hr
 . exact hr
 . exact hr
 . exact hr
 . split at hr
   . exact hr
   . exact hr
   . exact hr
   . rename_i f args;split at hr
     . rename_i hm;rw [if_pos hm];cases hc:G6 E c f (args.map fr.opd) H with
       | none=>rw [hc] at hr;cases hr
       | some p=>rw [hc] at hr;rw [sH h _ _ _ _ hc];exact hr
     . cases hr
   . exact hr
 . split at hr
   . exact hr
   . exact hr
   . exact hr
   . exact bV h _ _ _ _ _ hr
   . exact bV h _ _ _ _ _ hr
   . exact hr
 . exact hr
 . exact hr
theorem je9 {E:Env} {c c':f7} (h:X7 c c') (cl:Cls) (o:IOper) (fr:Fr) (H:j6):Le (M8 E c cl o fr H) (M8 E c' cl o fr H):=by
 intro r hr;unfold M8 at hr ⊢;cases hg:o.guard with
 | none=>rw [hg] at hr;exact zc5 h _ _ _ _ _ _ hr
 | some g=>
   rw [hg] at hr;obtain ⟨s,want⟩:=g;dsimp only at hr ⊢;split at hr
   . split at hr
     . rename_i hb;rw [if_pos hb];exact zc5 h _ _ _ _ _ _ hr
     . rename_i hb;rw [if_neg hb];exact hr
   . exact hr
   . cases hr
theorem zz9 {E:Env} {c c':f7} (h:X7 c c') (cl:Cls) (o:IOper) (fr:Fr) (H:j6):Le (I3 E c cl o fr H) (I3 E c' cl o fr H):=by
 intro r hr;unfold I3 at hr ⊢;split at hr
 . rename_i hd;rw [if_pos hd];cases hs:M8 E c cl o fr H with
   | none=>rw [hs] at hr;cases hr
   | some p=>rw [hs] at hr;rw [je9 h _ _ _ _ _ hs];exact hr
 . cases hr
theorem qx5 {E:Env} {c c':f7} (h:X7 c c') (ops:List (Cls×IOper)):∀ (fr:Fr) (H:j6),Le (X5 E c ops fr H) (X5 E c' ops fr H):=by
 induction ops with
 | nil=>intro fr H;exact Le.refl _
 | cons o ops ih=>
   intro fr H r hr;obtain ⟨cl,o⟩:=o;unfold X5 at hr ⊢;cases hs:I3 E c cl o fr H with
   | none=>rw [hs] at hr;cases hr
   | some p=>rw [hs] at hr;rw [zz9 h _ _ _ _ _ hs];exact ih _ _ _ hr
theorem j32 (l:Nat) {a b:Option (Ex×Fr×j6)} (h:Le a b):Le (V0 l a) (V0 l b):=by
 intro r hr;cases a with
 | none=>cases hr
 | some q=>rw [h _ rfl];exact hr
theorem qo8 (l:Nat) {a b:Option (Ex×Fr×j6)} (h:Le a b):Le (Y3 l a) (Y3 l b):=by
 intro r hr;cases a with
 | none=>cases hr
 | some q=>rw [h _ rfl];exact hr
def cQ (i i':Run->Run):Prop:=∀ s s',yL s s'->yL (i s) (i' s')
theorem zu9 {E:Env} {c c':f7} {i i':Run->Run} (h:X7 c c') (hi:cQ i i') (code:ICode):yL (evC E c i code) (evC E c' i' code):=by
 induction code with
 | skip=>intro fr H;exact Le.refl _
 | region ops=>
   intro fr H r hr;unfold evC at hr ⊢;cases hs:C6 E c ops { fr with al:=f0 } H with
   | none=>rw [hs] at hr;cases hr
   | some p=>rw [hs] at hr;rw [jb1 h _ _ _ _ hs];exact hr
 | regionD ops=>
   intro fr H r hr;unfold evC at hr ⊢;cases hs:X5 E c ops { fr with al:=f0 } H with
   | none=>rw [hs] at hr;cases hr
   | some p=>rw [hs] at hr;rw [qx5 h _ _ _ _ hs];exact hr
 | seq a b iha ihb=>
   intro fr H r hr;unfold evC at hr ⊢;cases hs:evC E c i a fr H with
   | none=>rw [hs] at hr;cases hr
   | some p=>
     rw [hs] at hr;rw [iha _ _ _ hs];obtain ⟨e,fr',H'⟩:=p;cases e with
     | nrm=>exact ihb _ _ _ hr
     | _=>exact hr
 | cond x a b iha ihb=>
   intro fr H r hr;unfold evC at hr ⊢;split at hr
   . split at hr
     . rename_i hb;rw [if_pos hb];exact iha _ _ _ hr
     . rename_i hb;rw [if_neg hb];exact ihb _ _ _ hr
   . cases hr
 | block id b ih=>
   intro fr H r hr;unfold evC at hr ⊢;cases hs:evC E c i b fr H with
   | none=>rw [hs] at hr;cases hr
   | some p=>rw [hs] at hr;rw [ih _ _ _ hs];exact hr
 | loop live b ih=>
   intro fr H r hr;unfold evC at hr ⊢;exact hi _ _ (fun fr H=>ih _ _) _ _ _ hr
 | exit id=>intro fr H;exact Le.refl _
 | scope l live b rest ihb ihr=>
   intro fr H r hr;unfold evC at hr ⊢;cases hs:evC E c i b fr H with
   | none=>rw [hs] at hr;cases hr
   | some p=>
     rw [hs] at hr;rw [ihb _ _ _ hs];obtain ⟨e,fr',H'⟩:=p;cases e with
     | goto l'=>
       dsimp only at hr ⊢;split at hr
       . rename_i hl;rw [if_pos hl];have key:yL (i fun fr H=>V0 l (evC E c i rest (keep live fr) H)) (i' fun fr H=>V0 l (evC E c' i' rest (keep live fr) H)):=
          hi _ _ fun fr H=>j32 l (ihr _ _)
         exact qo8 l (key _ _) _ hr
       . rename_i hl;rw [if_neg hl];exact hr
     | _=>exact hr
 | label l=>intro fr H;exact Le.refl _
 | keep l=>intro fr H;exact Le.refl _
 | goto l=>intro fr H;exact Le.refl _
 | ret=>intro fr H;exact Le.refl _
theorem zx1 (n:Nat):∀ s s':Run,yL s s'->yL (itF n s) (itF (n+1) s'):=by
 induction n with
 | zero=>intro s s' _ fr H r hr;cases hr
 | succ n ih=>
   intro s s' h fr H r hr;rw [itF] at hr ⊢;cases hs:s fr H with
   | none=>rw [hs] at hr;cases hr
   | some p=>
     rw [hs] at hr;rw [h _ _ _ hs];obtain ⟨e,fr',H'⟩:=p;cases e with
     | nrm=>exact ih _ _ h _ _ _ hr
     | _=>exact hr
theorem q26 (n k:Nat):cQ (itF n) (itF (n+k)):=by
 induction k with
 | zero=>
   intro s s' h;induction n with
   | zero=>intro fr H r hr;cases hr
   | succ n ih=>
     intro fr H r hr;simp only [Nat.add_zero] at ih ⊢;rw [itF] at hr ⊢;cases hs:s fr H with
     | none=>rw [hs] at hr;cases hr
     | some p=>
       rw [hs] at hr;rw [h _ _ _ hs];obtain ⟨e,fr',H'⟩:=p;cases e with
       | nrm=>exact ih _ _ _ hr
       | _=>exact hr
 | succ k ih=>
   intro s s' h fr H;exact (ih s s' h fr H).trans (zx1 (n+k) s' s' (fun _ _=>Le.refl _) fr H)
theorem qa7 {E:Env} {c c':f7} {i i':Run->Run} (h:X7 c c') (hi:cQ i i'):X7 (U4 E c i) (U4 E c' i'):=by
 intro f a H r hr;unfold U4 at hr ⊢;cases hf:E.fnA f a.length with
 | none=>rw [hf] at hr;exact hr
 | some g=>
   rw [hf] at hr;dsimp only at hr ⊢;cases hs:evC E c i g.body { env:=o9 (binds 0 a),al:=f0 } H with
   | none=>rw [hs] at hr;cases hr
   | some p=>rw [hs] at hr;rw [zu9 h hi _ _ _ _ hs];exact hr
theorem qp2 (E:Env) (n:Nat):X7 (evF E n) (evF E (n+1)):=by
 induction n with
 | zero=>intro f a H r hr;cases hr
 | succ n ih=>exact qa7 ih (q26 n 1)
noncomputable def ev (E:Env):f7:=fun f a H=>lub fun n=>evF E n f a H
noncomputable def itW:Run->Run:=fun s fr H=>lub fun n=>itF n s fr H
theorem ql9 {E:Env} {f:Nat} {a:List HV} {H:j6} {r:HV×j6} (h:ev E f a H=some r):∃ n,evF E n f a H=some r:=cX h
theorem q63 {E:Env} {f:Nat} {a:List HV} {H:j6} {r:HV×j6} {n:Nat} (h:evF E n f a H=some r):ev E f a H=some r:=
 cE (g:=fun n=>evF E n f a H) (fun n=>qp2 E n f a H) h
end Go.Proofs.Lz
