/- The evaluator without a number of rounds: its equations. -/
import Derived.Test.YtencoceemejcnaaGreatDoorLzEv
namespace Go.Proofs.Lz
def cvOf:Value→Option CV
 | .bool b=>some (.bool b)
 | .int k n=>some (.int k n)
 | .string s=>some (.str s.data.toList)
 | .pointer none=>some .nilp
 | .slice none 0 0=>some (.frz none [])
 | .nilFunc=>some .nilfn
 | .nilIface=>some .nili
 | _=>none
def qd7:List Value→Option (List CV)
 | []=>some []
 | v::r=>match cvOf v,qd7 r with
   | some a,some b=>some (a::b)
   | _,_=>none
def jr8:Value→Option HV
 | .slice none 0 0=>some .nils
 | v=>(cvOf v).map .c
def qn7:List Value→Option (List HV)
 | []=>some []
 | v::r=>match jr8 v,qn7 r with
   | some a,some b=>some (a::b)
   | _,_=>none
def hvOf:Value→Option HV
 | .agg cs=>(qn7 cs.toList).map q49
 | v=>jr8 v
def z79:Operand→Option Opd
 | .tmp t=>some (.t t)
 | .const v=>(hvOf v).map .k
 | .func f=>some (.k (.c (.fn f [] [])))
 | .global _=>none
def zr3:List Operand→Option (List Opd)
 | []=>some []
 | x::r=>match z79 x,zr3 r with
   | some a,some b=>some (a::b)
   | _,_=>none
def qe7:Option Operand→Option (Option Opd)
 | none=>some none
 | some x=>(z79 x).map some
def ekOf (P:Program) (t:TypeId):Option (Option Nat):=
 match P.underlying t,P.info? t with
 | some (.struct _),some i=>if 0<i.size then some (some i.size) else none
 | some (.array _ _),_=>none
 | some _,some i=>if i.size=1 then some none else none
 | _,_=>none
def zeroOf (P:Program) (t:TypeId):Option Value:=(P.info? t).bind (·.zero)
def qa6 (P:Program) (t:TypeId):Option Nat:=(P.info? t).map (·.bytes)
def ql9 (ok:TypeId→Option (List Nat)) (P:Program) (off:Nat):List Field→Option (List Nat)
 | []=>some []
 | f::r=>if f.offset=off∧f.name≠ "_" then match ok f.type,ql9 ok P (off+P.cellsOf f.type) r with
    | some a,some b=>if a.length=P.cellsOf f.type then some (a++b) else none
    | _,_=>none
   else none
def zn5 (P:Program):Nat→TypeId→Option (List Nat)
 | 0,_=>none
 | d+1,t=>match P.underlying t with
   | some .bool=>some [0]
   | some (.int _)=>some [1]
   | some .string=>some [2]
   | some (.struct fs)=>if P.stoodInHeld t then none else ql9 (zn5 P d) P 0 fs.toList
   | _=>none
def qj6 (ops:List Oper):Nat→Nat→Bool
 | 0,_=>false
 | n+1,d=>ops.all fun o=>match o.op with
   | .load _ (.tmp _)=>true
   | .store _ (.tmp _) (.tmp x)=>x != d
   | .fieldAddr _ (.tmp x) _ | .nilCheck (.tmp x)=>x != d||(match o.dst with
     | some e=>qj6 ops n e
     | none=>true)
   | .move (.tmp x)=>x != d||(match o.dst with
     | some e=>qj6 ops n e
     | none=>true)
   | op=>op.operands.all fun
     | .tmp x=>x != d
     | _=>true
def jx0 (ops:List Oper):Nat→Nat→Bool
 | 0,_=>false
 | n+1,d=>ops.all fun o=>match o.op with
   | .store _ (.tmp x) _=>x != d
   | .fieldAddr _ (.tmp x) _ | .nilCheck (.tmp x) | .move (.tmp x)=>x != d||(match o.dst with
     | some e=>jx0 ops n e
     | none=>true)
   | _=>true
def wz6 (ops:List Oper) (d:Nat):Bool:=qj6 ops 6 d&&jx0 ops 6 d
def v68 (ops:List Oper) (d:Nat):Bool:=ops.all fun o=>match o.op with
 | .call { callee:=.builtin .append,args,.. }=>match args.toList with
   | .tmp s::_=>s != d
   | _=>true
 | .call { callee:=.builtin .copy,args,.. }=>args.toList.all fun
   | .tmp x=>x != d
   | _=>true
 | .call _ | .build _ _ | .buildSlice _ _ _ | .store _ _ _=>true
 | op=>op.operands.all fun
   | .tmp x=>x != d
   | _=>true
def Code.opers:Code→List Oper
 | .region _ ops _=>ops.toList
 | .seq a b=>Code.opers a++Code.opers b
 | .cond _ a b=>Code.opers a++Code.opers b
 | .block _ b | .loop b | .scope b=>Code.opers b
 | .rangeFunc _ _ a b=>Code.opers a++Code.opers b
 | _=>[]
def partsOf (f:Nat→Option (Nat×Nat)):List (Nat×Operand)→Option (List (Nat×Nat×Opd))
 | []=>some []
 | (i,x)::r=>match f i,z79 x,partsOf f r with
   | some (o,n),some a,some b=>some ((o,n,a)::b)
   | _,_,_=>none
def zr8:List (Nat×Operand)→Option (List (Nat×Opd))
 | []=>some []
 | (i,x)::r=>match z79 x,zr8 r with
   | some a,some b=>some ((i,a)::b)
   | _,_=>none
def isNil (k:Nat):Operand→Bool
 | .const (.pointer none)=>k==0
 | .const .nilIface=>k==1
 | .const .nilFunc=>k==2
 | .const (.slice none _ _)=>k==3
 | _=>false
def wf1 (P:Program) (e:TypeId):Bool:=match P.underlying e with
 | some (.struct fs)=>match fs[0]? with
   | some fd=>match P.underlying fd.type with
     | some (.pointer t)=>t==e
     | _=>false
   | none=>false
 | _=>false
def w53 (P:Program) (e:TypeId):Option Nat→Option (Option Nat)
 | none=>some none
 | some n=>if n<j21 then some (if wf1 P e then tyEk n e else some n) else none
theorem jd6 {P:Program} {e:TypeId} {ek k:Option Nat} (h:w53 P e ek=some k):∀ T,tyOf k=some T→e=T:=by
 intro T hT
 unfold w53 at h
 split at h
 · injection h with h;subst h;cases hT
 · rename_i n
   split at h
   · rename_i hn
     injection h with h
     split at h
     · subst h
       simp only [tyOf,tyEk] at hT
       split at hT
       · injection hT with hT
         have h1:(n+j21 * (e+1)) / j21=e+1:=by
          rw [Nat.add_mul_div_left _ _ (by decide),Nat.div_eq_of_lt hn,Nat.zero_add]
         rw [h1] at hT
         simpa using hT
       · cases hT
     · subst h
       simp only [tyOf] at hT
       rw [if_neg (by omega)] at hT
       cases hT
   · cases h
def ja1 (P:Program) (all:List Oper) (lvl:Nat) (o:Oper):Option IOp:=
 match o.op with
 | .move x | .assign x=>(z79 x).map .mv
 | .pick c a b=>match z79 c,z79 a,z79 b with
   | some c,some a,some b=>some (.pick c a b)
   | _,_,_=>none
 | .alloc e=>match (zeroOf P e).bind hvOf,ekOf P e with
   | some z,some ek=>if (o.dst.map (qj6 all 6)).getD false then some (.lbox ek (.k z)) else (w53 P e ek).map fun k=>.hbox k (.k z)
   | _,_=>none
 | .box e x=>match z79 x,ekOf P e with
   | some x,some ek=>if lvl=0∧(o.dst.map (wz6 all)).getD false=true then some (.fbox ek x) else if (o.dst.map (qj6 all 6)).getD false then some (.lbox ek x) else (w53 P e ek).map fun k=>.hbox k x
   | _,_=>none
 | .build t parts=>match P.underlying t,(zeroOf P t).bind (fun z=>qn7 z.cells.toList) with
   | some (.struct fs),some z=>match fs.toList.mapM (fun f=>(P.info? f.type).map fun i=>(f.offset,i.size)) with
     | some pl=>(partsOf (pl.toArray[·]?) parts.toList).map (.build z)
     | none=>none
   | _,_=>none
 | .buildSlice t len parts=>match P.underlying t with
   | some (.slice e)=>match ekOf P e,(zeroOf P e).bind (fun z=>qd7 z.cells.toList),zr8 parts.toList with
     | some ek,some z,some ps=>if len * (z42 ek)≤16777216∧z.length=z42 ek then some (.bsl ((o.dst.map (v68 all)).getD false) e ek z len ps) else none
     | _,_,_=>none
   | _=>none
 | .load t a=>match ekOf P t,z79 a with
   | some ek,some a=>some (.load ek a)
   | _,_=>none
 | .store t a x=>match o.dst,ekOf P t,z79 a,z79 x with
   | none,some ek,some a,some x=>some (.store ek a x)
   | _,_,_,_=>none
 | .nilCheck x=>(z79 x).map .nck
 | .binOp op xt x y' _=>match z79 x,z79 y' with
   | some x,some y=>match op with
     | .eql | .neq=>match P.underlying xt with
       | some .bool=>some (.eqb (op matches .neq) x y)
       | some (.int _) | some .string=>some (.bin op x y)
       | some (.struct _)=>if P.eqGuardType P.depth xt then none else (zn5 P 100 xt).map fun ks=>.eqs (op matches .neq) ks x y
       | some (.pointer _)=>if isNil 0 y'=true then some (.isn (op matches .neq) 0 x) else none
       | some (.interface _)=>if isNil 1 y'=true then some (.isn (op matches .neq) 1 x) else none
       | some (.func _ _ _)=>if isNil 2 y'=true then some (.isn (op matches .neq) 2 x) else none
       | some (.slice _)=>if isNil 3 y'=true then some (.isn (op matches .neq) 3 x) else none
       | _=>none
     | _=>some (.bin op x y)
   | _,_=>none
 | .unOp op _ x=>(z79 x).map (.un op)
 | .convert s d x=>match P.underlying s,P.underlying d with
   | some (.int _),some (.int k)=>(z79 x).map (.cvt k)
   | some .string,some .string=>(z79 x).map .cvs
   | some (.slice e),some .string=>match P.underlying e with
     | some (.int .u8)=>(z79 x).map .b2s
     | _=>none
   | _,_=>none
 | .makeFunc (.func f) first cap=>match zr3 first.toList,zr3 cap.toList with
   | some a,some b=>some (.mkf f a b)
   | _,_=>none
 | .slice t x lo hi none=>match P.underlying t,z79 x,qe7 lo,qe7 hi with
   | some .string,some x,some lo,some hi=>some (.slc true none x lo hi)
   | some (.slice e),some x,some lo,some hi=>(ekOf P e).map fun ek=>.slc false ek x lo hi
   | _,_,_,_=>none
 | .fieldAddr s x f=>match P.underlying s with
   | some (.struct fs)=>match fs[f]? with
     | some fd=>match ekOf P fd.type,z79 x with
       | some _,some x=>some (.faddr fd.offset x)
       | _,_=>none
     | none=>none
   | _=>none
 | .field s x f=>match P.underlying s with
   | some (.struct fs)=>match fs[f]? with
     | some fd=>match ekOf P fd.type,z79 x with
       | some ek,some x=>some (.fld ek fd.offset x)
       | _,_=>none
     | none=>none
   | _=>none
 | .indexAddr t x i=>match P.underlying t with
   | some (.slice e)=>match ekOf P e,z79 x,z79 i with
     | some ek,some x,some i=>some (.ix ek x i)
     | _,_,_=>none
   | _=>none
 | .index t x i=>match P.underlying t,z79 x,z79 i with
   | some .string,some x,some i=>some (.six x i)
   | _,_,_=>none
 | .extract x i=>(z79 x).map (.ext · i)
 | .call { callee:=.builtin b,args,argTypes }=>match b,args.toList,argTypes.toList with
   | .len,[x],[t]=>match P.underlying t,z79 x with
     | some .string,some x=>some (.len true x)
     | some (.slice _),some x=>some (.len false x)
     | _,_=>none
   | .append,[s,x],[t,u]=>match P.underlying t,P.underlying u,z79 s,z79 x with
     | some (.slice e),some (.slice _),some s,some x=>if t=u then match ekOf P e,qa6 P e,zeroOf P e with
        | some ek,some n,some z=>if z.cells.size=z42 ek then some (.app e ek n s x) else none
        | _,_,_=>none
       else none
     | some (.slice e),some .string,some s,some x=>match ekOf P e,qa6 P e,zeroOf P e with
        | some ek,some n,some z=>if z.cells.size=z42 ek then some (.app e ek n s x) else none
        | _,_,_=>none
     | _,_,_,_=>none
   | .max,[x,y],_=>match z79 x,z79 y with
     | some x,some y=>some (.mx true x y)
     | _,_=>none
   | .min,[x,y],_=>match z79 x,z79 y with
     | some x,some y=>some (.mx false x y)
     | _,_=>none
   | _,_,_=>none
 | .call { callee:=.value (.func f),args,.. }=>(zr3 args.toList).map (.call f)
 | .call { callee:=.value (.tmp t),args,.. }=>(zr3 args.toList).map (.callv (.t t))
 | _=>none
def q26 (P:Program) (all:List Oper) (lvl:Nat) (ops:Array Oper) (o:Oper):Option IOper:=
 match ja1 P all lvl o with
 | none=>none
 | some op=>match o.guard with
   | none=>some { dst:=o.dst,guard:=none,op }
   | some (j,want)=>match (ops[j]?).bind (·.dst) with
     | some s=>some { dst:=o.dst,guard:=some (s,want),op }
     | none=>none
def zj3 (P:Program) (all:List Oper) (lvl:Nat) (ops:Array Oper):List Oper→Option (List IOper)
 | []=>some []
 | o::r=>match q26 P all lvl ops o,zj3 P all lvl ops r with
   | some a,some b=>some (a::b)
   | _,_=>none
def IOp.opds:IOp→List Opd
 | .mv x | .un _ x | .load _ x | .faddr _ x | .nck x | .fld _ _ x | .len _ x | .lbox _ x | .hbox _ x | .fbox _ x | .b2s x | .cvs x | .ext x _ | .cvt _ x | .isn _ _ x | .tyck _ _ x | .rowck _ x=>[x]
 | .bin _ x y | .eqs _ _ x y | .eqb _ x y | .store _ x y | .ix _ x y | .six x y | .app _ _ _ x y | .mx _ x y | .peq x y=>[x,y]
 | .pick x y z=>[x,y,z]
 | .slc _ _ x lo hi=>x::(lo.toList++hi.toList)
 | .build _ ps=>ps.map (·.2.2)
 | .bsl _ _ _ _ _ ps=>ps.map (·.2)
 | .call _ a5=>a5
 | .callv x a5=>x::a5
 | .mkf _ a5 bs=>a5++bs
def zm5:List Opd→List Nat
 | []=>[]
 | .t i::r=>i::zm5 r
 | .k _::r=>zm5 r
def IOper.reads (o:IOper):List Nat:=match o.guard with
 | none=>zm5 o.op.opds
 | some (s,_)=>s::zm5 o.op.opds
def qv0 (a b:IOper):Bool:=
 (match a.dst with
 | some d=>!(b.reads.contains d)&&b.dst != some d
 | none=>true)&&(match b.dst with
 | some d=>!(a.reads.contains d)
 | none=>true)
def j74:Cls→Cls→Bool
 | .pure,_=>true
 | _,.pure=>true
 | .lb,_=>true
 | _,.lb=>true
 | .rdb,.rdb=>true
 | .rdb,.wrb=>false
 | .wrb,.rdb=>false
 | .wrb,.wrb=>false
 | .rdb,_=>true
 | .wrb,_=>true
 | _,.rdb=>true
 | _,.wrb=>true
 | .rd,.rd=>true
 | .rd,.hb=>true
 | _,_=>false
def ancM (acc:List Nat):List Edge→Nat
 | []=>0
 | e::r=>if Region.binds .any e=true then (2 ^ e.on ||| acc.getD e.on 0) ||| ancM acc r else ancM acc r
def anc:List Oper→List Nat→List Nat
 | [],acc=>acc
 | o::r,acc=>anc r (acc++[ancM acc o.after.toList])
def qp6:Nat→List Oper→Bool
 | _,[]=>true
 | k,o::r=>o.after.toList.all (fun e=>!Region.binds .any e||decide (e.on<k))&&qp6 (k+1) r
def jw2 (ops:List Oper) (l:List (Cls×IOper)):Bool:=
 qp6 0 ops&&(List.range l.length).all fun j=>(List.range j).all fun i=>((anc ops []).getD j 0).testBit i||(match l[i]?,l[j]? with
  | some x,some y=>j74 x.1 y.1&&qv0 x.2 y.2
  | _,_=>true)
def rootOf (ios:List IOper):Nat→Nat→Nat
 | 0,s=>s
 | n+1,s=>match ios.find? (fun o=>o.dst==some s) with
   | some o=>match o.op with
     | .faddr _ (.t x) | .nck (.t x) | .mv (.t x)=>rootOf ios n x
     | _=>s
   | none=>s
def wn6 (md:Nat→Md) (lbs:Nat→Bool) (ios:List IOper):IOp→Cls
 | .load _ (.t a)=>if lbs (rootOf ios 6 a) then .rdb else .rd
 | .store _ (.t a) _=>if lbs (rootOf ios 6 a) then .wrb else .wr
 | .load _ _ | .ix _ _ _ | .slc _ _ _ _ _ | .b2s _=>.rd
 | .bsl fz _ _ _ _ _=>if fz then .pure else .wr
 | .call f _=>match md f with
   | .P=>.rd
   | .S=>.wr
 | .store _ _ _ | .callv _ _ | .app _ _ _ _ _=>.wr
 | .hbox _ _=>.hb
 | .lbox _ _=>.lb
 | _=>.pure
def zn0:Code→List Oper
 | .region _ ops true=>ops.toList
 | .seq a b | .cond _ a b=>zn0 a++zn0 b
 | .block _ b | .loop b | .scope b=>zn0 b
 | .rangeFunc _ _ a b=>zn0 a++zn0 b
 | _=>[]
def wk0:Op→Bool
 | .alloc _ | .box _ _=>true
 | _=>false
def wz2:Op→Bool
 | .box _ _=>true
 | _=>false
def v29 (all drw:List Oper) (s:Nat):Bool:=
 qj6 all 6 s&&all.any (fun o=>o.dst==some s&&wk0 o.op)&&!(drw.any fun o=>o.dst==some s&&wz2 o.op&&wz6 all s)
def ins (x:Nat):List Nat→List Nat
 | []=>[x]
 | y::r=>if x<y then x::y::r else if x=y then y::r else y::ins x r
def uni (a b:List Nat):List Nat:=a.foldl (fun acc x=>ins x acc) b
def wy8 (o:Oper):List Nat:=o.op.operands.toList.filterMap fun
 | .tmp t=>some t
 | _=>none
def js0 (ops:Array Oper):List Oper→List Nat→List Nat
 | [],after=>after
 | o::r,after=>
   let l:=js0 ops r after
   let l:=match o.dst with
    | some d=>l.filter (· != d)
    | none=>l
   let l:=match o.guard with
    | some (j,_)=>match (ops[j]?).bind (·.dst) with
      | some s=>ins s l
      | none=>l
    | none=>l
   uni (wy8 o) l
def get (m:List (Nat×List Nat)) (i:Nat):List Nat:=match m.find? (·.1==i) with
 | some p=>p.2
 | none=>[]
def qa1:Code→Option Nat
 | .seq a b=>match qa1 a with
   | some l=>some l
   | none=>qa1 b
 | .label l=>some l
 | _=>none
mutual
def live (res:List Nat):Code→List (Nat×List Nat)→List (Nat×List Nat)→List Nat→List Nat
 | .region _ ops _,_,_,after=>js0 ops ops.toList after
 | .seq a b,ex,gs,after=>live res a ex gs (live res b ex gs after)
 | .cond c a b,ex,gs,after=>let l:=uni (live res a ex gs after) (live res b ex gs after)
   match c with
   | .tmp t=>ins t l
   | _=>l
 | .block id b,ex,gs,after=>live res b ((id,after)::ex) gs after
 | .loop b,ex,gs,_=>live res b ex gs (live res b ex gs (live res b ex gs []))
 | .exit id,ex,_,_=>get ex id
 | .goto l,_,gs,_=>get gs l
 | .ret,_,_,_=>res
 | .scope b,ex,gs,after=>match qa1 b with
   | none=>live res b ex gs after
   | some l=>live res b ex ((l,zu8 res l b ex ((l,zu8 res l b ex ((l,zu8 res l b ex ((l,[])::gs) after)::gs) after)::gs) after)::gs) after
 | _,_,_,after=>after
def zu8 (res:List Nat) (l:Nat):Code→List (Nat×List Nat)→List (Nat×List Nat)→List Nat→List Nat
 | .seq a b,ex,gs,after=>match zu8 res l b ex gs after with
   | []=>zu8 res l a ex gs (live res b ex gs after)
   | x=>x
 | .label l',_,_,after=>if l'=l then after else []
 | _,_,_,_=>[]
end
def qe4:ICode→Nat→Option ICode
 | .seq a b,l=>match qe4 a l with
   | some r=>some (.seq r b)
   | none=>qe4 b l
 | .label l',l=>if l'==l then some .skip else none
 | _,_=>none
def zg8 (P:Program) (md:Nat→Md) (all:List Oper) (lbs:Nat→Bool) (res:List Nat):Code→List (Nat×List Nat)→List (Nat×List Nat)→List Nat→Option ICode
 | .skip,_,_,_=>some .skip
 | .region _ ops false,_,_,_=>(zj3 P all 6 ops ops.toList).map .region
 | .region _ ops true,_,_,_=>match zj3 P all 0 ops ops.toList with
   | some ios=>
     let l:=ios.map fun io=>(wn6 md lbs ios io.op,io)
     if P.follows .mixedOrders=true∧jw2 ops.toList l=true then some (.regionD l) else none
   | none=>none
 | .seq a b,ex,gs,after=>match zg8 P md all lbs res a ex gs (live res b ex gs after),zg8 P md all lbs res b ex gs after with
   | some x,some y=>some (.seq x y)
   | _,_=>none
 | .cond c a b,ex,gs,after=>match z79 c,zg8 P md all lbs res a ex gs after,zg8 P md all lbs res b ex gs after with
   | some c,some x,some y=>some (.cond c (.seq (.keep (live res a ex gs after)) x) (.seq (.keep (live res b ex gs after)) y))
   | _,_,_=>none
 | .block id b,ex,gs,after=>(zg8 P md all lbs res b ((id,after)::ex) gs after).map (.block id)
 | .loop b,ex,gs,_=>
   let l:=live res b ex gs (live res b ex gs (live res b ex gs []))
   (zg8 P md all lbs res b ex gs l).map (.loop l)
 | .exit id,_,_,_=>some (.exit id)
 | .ret,_,_,_=>some .ret
 | .label l,_,_,_=>some (.label l)
 | .goto l,_,_,_=>some (.goto l)
 | .scope b,ex,gs,after=>match qa1 b with
   | none=>none
   | some l=>
     let L:=zu8 res l b ex ((l,zu8 res l b ex ((l,zu8 res l b ex ((l,[])::gs) after)::gs) after)::gs) after
     match zg8 P md all lbs res b ex ((l,L)::gs) after with
     | none=>none
     | some ib=>match qe4 ib l with
       | none=>none
       | some ir=>some (.scope l L ib ir)
 | _,_,_,_=>none
def ja3 (f:Func):List Nat:=f.results.toList.map fun
 | .tmp t=>t
 | .cell a _=>a
def zv6 (P:Program):List ResultVar→Option (List IRes)
 | []=>some []
 | .tmp t::r=>(zv6 P r).map (IRes.tmp t::·)
 | .cell a t::r=>match ekOf P t,zv6 P r with
   | some ek,some l=>some (.cell a ek::l)
   | _,_=>none
def mdL (l:List Nat) (f:Nat):Md:=if l.contains f then .S else .P
def v71 (md:Nat→Md) (o:Oper):Oper:=match o.op with
 | .call c=>match c.callee with
   | .value (.func f)=>match md f with
     | .S=>{ o with op:=.call { c with callee:=.builtin .copy } }
     | .P=>o
   | _=>o
 | _=>o
def je5 (P:Program) (md:Nat→Md) (f:Func):Option IFn:=
 match f.body with
 | none=>none
 | some c=>if f.name== "runtime.NumGoroutine"||!(Code.opers c).all (fun o=>o.dst.all (·<f.ntmps)) then none else match zg8 P md ((Code.opers c).map (v71 md)) (v29 (Code.opers c) (zn0 c)) (ja3 f) c [] [] (ja3 f),zv6 P f.results.toList with
   | some b,some r=>some { body:=b,res:=r }
   | _,_=>none
abbrev xo (d:Nat) (o:IOp):IOper:=⟨some d,none,o⟩
abbrev xt (d g:Nat) (o:IOp):IOper:=⟨some d,some (g,true),o⟩
abbrev xf (d g:Nat) (o:IOp):IOper:=⟨some d,some (g,false),o⟩
abbrev xn (o:IOp):IOper:=⟨none,none,o⟩
abbrev xm (d s:Nat):IOper:=⟨some d,none,.mv (.t s)⟩
abbrev ki (n:Int):Opd:=.k (.c (.int .i64 n))
abbrev kb (b:Bool):Opd:=.k (.c (.bool b))
abbrev ks (s:List UInt8):Opd:=.k (.c (.str s))
end Go.Proofs.Lz
namespace Go.Proofs.Lz
def Le {α:Type} (a b:Option α):Prop:=∀ r,a=some r→b=some r
theorem Le.refl {α:Type} (a:Option α):Le a a:=fun _ h=>h
theorem Le.trans {α:Type} {a b c:Option α} (h:Le a b) (k:Le b c):Le a c:=fun r hr=>k r (h r hr)
open Classical in
noncomputable def lub {α:Type} (g:Nat→Option α):Option α:=
 if h:∃ n r,g n=some r then g (Classical.choose h) else none
theorem qq1 {α:Type} {g:Nat→Option α} {r:α} (h:lub g=some r):∃ n,g n=some r:=by
 unfold lub at h
 split at h
 · exact ⟨_,h⟩
 · cases h
theorem jp5 {α:Type} {g:Nat→Option α} (hm:∀ n,Le (g n) (g (n+1))) {n:Nat} {r:α} (h:g n=some r):lub g=some r:=by
 have hle:∀ k m,Le (g m) (g (m+k)):=by
  intro k
  induction k with
  | zero=>intro m;exact Le.refl _
  | succ k ih=>intro m;exact (ih m).trans (hm (m+k))
 have hex:∃ n r,g n=some r:=⟨n,r,h⟩
 unfold lub
 rw [dif_pos hex]
 obtain ⟨r',hr'⟩:=Classical.choose_spec hex
 generalize Classical.choose hex=m at hr' ⊢
 have h1:g (m+n)=some r':=hle n m _ hr'
 have h2:g (n+m)=some r:=hle m n _ h
 rw [Nat.add_comm] at h2
 rw [hr',← h1,h2]
def zq8 (c c':za0):Prop:=∀ f a H,Le (c f a H) (c' f a H)
def jj8 (s s':Run):Prop:=∀ fr H,Le (s fr H) (s' fr H)
theorem zs9 {E:Env} {c c':za0} (h:zq8 c c'):zq8 (z92 E c) (z92 E c'):=by
 intro f a H r hr
 unfold z92 at hr ⊢
 cases hm:E.md f with
 | S=>rw [hm] at hr;exact h _ _ _ _ hr
 | P=>
   rw [hm] at hr
   dsimp only at hr ⊢
   cases ha:z97 H a with
   | none=>rw [ha] at hr;cases hr
   | some a5=>
     rw [ha] at hr
     dsimp only at hr ⊢
     cases hc:c f a5 [] with
     | none=>rw [hc] at hr;cases hr
     | some p=>rw [hc] at hr;rw [h _ _ _ _ hc];exact hr
theorem q46 {E:Env} {c c':za0} (h:zq8 c c') (o:IOp) (dst:Option Nat) (fr:Fr) (H:Heap):Le (doOp E c o dst fr H) (doOp E c' o dst fr H):=by
 intro r hr
 unfold doOp at hr ⊢
 split at hr
 · rename_i f args
   unfold zh7 at hr ⊢
   cases hc:z92 E c f (args.map fr.opd) H with
   | none=>rw [hc] at hr;cases hr
   | some p=>rw [hc] at hr;rw [zs9 h _ _ _ _ hc];exact hr
 · rename_i x args
   cases ht:zs5 (fr.opd x) (args.map fr.opd) with
   | none=>rw [ht] at hr;cases hr
   | some p=>
     rw [ht] at hr
     unfold zh7 at hr ⊢
     dsimp only at hr ⊢
     cases hc:z92 E c p.1 p.2 H with
     | none=>rw [hc] at hr;cases hr
     | some q=>rw [hc] at hr;rw [zs9 h _ _ _ _ hc];exact hr
 · exact hr
theorem w97 {E:Env} {c c':za0} (h:zq8 c c') (o:IOper) (fr:Fr) (H:Heap):Le (stp E c o fr H) (stp E c' o fr H):=by
 intro r hr
 unfold stp at hr ⊢
 cases hg:o.guard with
 | none=>rw [hg] at hr;exact q46 h _ _ _ _ _ hr
 | some g=>
   rw [hg] at hr
   obtain ⟨s,want⟩:=g
   dsimp only at hr ⊢
   split at hr
   · split at hr
     · rename_i hb;rw [if_pos hb];exact q46 h _ _ _ _ _ hr
     · rename_i hb;rw [if_neg hb];exact hr
   · exact hr
   · cases hr
theorem jk3 {E:Env} {c c':za0} (h:zq8 c c') (ops:List IOper):∀ (fr:Fr) (H:Heap),Le (zd9 E c ops fr H) (zd9 E c' ops fr H):=by
 induction ops with
 | nil=>intro fr H;exact Le.refl _
 | cons o ops ih=>
   intro fr H r hr
   unfold zd9 at hr ⊢
   cases hs:stp E c o fr H with
   | none=>rw [hs] at hr;cases hr
   | some p=>rw [hs] at hr;rw [w97 h _ _ _ _ hs];exact ih _ _ _ hr
theorem jc0 {E:Env} {c c':za0} (h:zq8 c c') (cl:Cls) (o:IOp) (dst:Option Nat) (fr:Fr) (H:Heap):Le (doD E c cl o dst fr H) (doD E c' cl o dst fr H):=by
 intro r hr
 unfold doD at hr ⊢
 split at hr
 · exact hr
 · exact hr
 · exact hr
 · split at hr
   · exact hr
   · exact hr
   · exact hr
   · rename_i f args
     split at hr
     · rename_i hm
       rw [if_pos hm]
       cases hc:z92 E c f (args.map fr.opd) H with
       | none=>rw [hc] at hr;cases hr
       | some p=>rw [hc] at hr;rw [zs9 h _ _ _ _ hc];exact hr
     · cases hr
   · exact hr
 · split at hr
   · exact hr
   · exact hr
   · exact hr
   · exact q46 h _ _ _ _ _ hr
   · exact q46 h _ _ _ _ _ hr
   · exact hr
 · exact hr
 · exact hr
theorem jp3 {E:Env} {c c':za0} (h:zq8 c c') (cl:Cls) (o:IOper) (fr:Fr) (H:Heap):Le (stpG E c cl o fr H) (stpG E c' cl o fr H):=by
 intro r hr
 unfold stpG at hr ⊢
 cases hg:o.guard with
 | none=>rw [hg] at hr;exact jc0 h _ _ _ _ _ _ hr
 | some g=>
   rw [hg] at hr
   obtain ⟨s,want⟩:=g
   dsimp only at hr ⊢
   split at hr
   · split at hr
     · rename_i hb;rw [if_pos hb];exact jc0 h _ _ _ _ _ _ hr
     · rename_i hb;rw [if_neg hb];exact hr
   · exact hr
   · cases hr
theorem jq4 {E:Env} {c c':za0} (h:zq8 c c') (cl:Cls) (o:IOper) (fr:Fr) (H:Heap):Le (stpD E c cl o fr H) (stpD E c' cl o fr H):=by
 intro r hr
 unfold stpD at hr ⊢
 split at hr
 · rename_i hd
   rw [if_pos hd]
   cases hs:stpG E c cl o fr H with
   | none=>rw [hs] at hr;cases hr
   | some p=>rw [hs] at hr;rw [jp3 h _ _ _ _ _ hs];exact hr
 · cases hr
theorem j67 {E:Env} {c c':za0} (h:zq8 c c') (ops:List (Cls×IOper)):∀ (fr:Fr) (H:Heap),Le (zr2 E c ops fr H) (zr2 E c' ops fr H):=by
 induction ops with
 | nil=>intro fr H;exact Le.refl _
 | cons o ops ih=>
   intro fr H r hr
   obtain ⟨cl,o⟩:=o
   unfold zr2 at hr ⊢
   cases hs:stpD E c cl o fr H with
   | none=>rw [hs] at hr;cases hr
   | some p=>rw [hs] at hr;rw [jq4 h _ _ _ _ _ hs];exact ih _ _ _ hr
theorem j58 (l:Nat) {a b:Option (Ex×Fr×Heap)} (h:Le a b):Le (zp8 l a) (zp8 l b):=by
 intro r hr
 cases a with
 | none=>cases hr
 | some q=>rw [h _ rfl];exact hr
theorem j62 (l:Nat) {a b:Option (Ex×Fr×Heap)} (h:Le a b):Le (zt9 l a) (zt9 l b):=by
 intro r hr
 cases a with
 | none=>cases hr
 | some q=>rw [h _ rfl];exact hr
def LeIt (i i':Run→Run):Prop:=∀ s s',jj8 s s'→jj8 (i s) (i' s')
theorem wa3 {E:Env} {c c':za0} {i i':Run→Run} (h:zq8 c c') (hi:LeIt i i') (code:ICode):jj8 (evC E c i code) (evC E c' i' code):=by
 induction code with
 | skip=>intro fr H;exact Le.refl _
 | region ops=>
   intro fr H r hr
   unfold evC at hr ⊢
   cases hs:zd9 E c ops { fr with al:=noAl } H with
   | none=>rw [hs] at hr;cases hr
   | some p=>rw [hs] at hr;rw [jk3 h _ _ _ _ hs];exact hr
 | regionD ops=>
   intro fr H r hr
   unfold evC at hr ⊢
   cases hs:zr2 E c ops { fr with al:=noAl } H with
   | none=>rw [hs] at hr;cases hr
   | some p=>rw [hs] at hr;rw [j67 h _ _ _ _ hs];exact hr
 | seq a b iha ihb=>
   intro fr H r hr
   unfold evC at hr ⊢
   cases hs:evC E c i a fr H with
   | none=>rw [hs] at hr;cases hr
   | some p=>
     rw [hs] at hr;rw [iha _ _ _ hs]
     obtain ⟨e,fr',H'⟩:=p
     cases e with
     | nrm=>exact ihb _ _ _ hr
     | _=>exact hr
 | cond x a b iha ihb=>
   intro fr H r hr
   unfold evC at hr ⊢
   split at hr
   · split at hr
     · rename_i hb;rw [if_pos hb];exact iha _ _ _ hr
     · rename_i hb;rw [if_neg hb];exact ihb _ _ _ hr
   · cases hr
 | block id b ih=>
   intro fr H r hr
   unfold evC at hr ⊢
   cases hs:evC E c i b fr H with
   | none=>rw [hs] at hr;cases hr
   | some p=>rw [hs] at hr;rw [ih _ _ _ hs];exact hr
 | loop live b ih=>
   intro fr H r hr
   unfold evC at hr ⊢
   exact hi _ _ (fun fr H=>ih _ _) _ _ _ hr
 | exit id=>intro fr H;exact Le.refl _
 | scope l live b rest ihb ihr=>
   intro fr H r hr
   unfold evC at hr ⊢
   cases hs:evC E c i b fr H with
   | none=>rw [hs] at hr;cases hr
   | some p=>
     rw [hs] at hr;rw [ihb _ _ _ hs]
     obtain ⟨e,fr',H'⟩:=p
     cases e with
     | goto l'=>
       dsimp only at hr ⊢
       split at hr
       · rename_i hl
         rw [if_pos hl]
         have key:jj8 (i fun fr H=>zp8 l (evC E c i rest (keep live fr) H)) (i' fun fr H=>zp8 l (evC E c' i' rest (keep live fr) H)):=
          hi _ _ fun fr H=>j58 l (ihr _ _)
         exact j62 l (key _ _) _ hr
       · rename_i hl;rw [if_neg hl];exact hr
     | _=>exact hr
 | label l=>intro fr H;exact Le.refl _
 | keep l=>intro fr H;exact Le.refl _
 | goto l=>intro fr H;exact Le.refl _
 | ret=>intro fr H;exact Le.refl _
theorem w58 (n:Nat):∀ s s':Run,jj8 s s'→jj8 (itF n s) (itF (n+1) s'):=by
 induction n with
 | zero=>intro s s' _ fr H r hr;cases hr
 | succ n ih=>
   intro s s' h fr H r hr
   rw [itF] at hr ⊢
   cases hs:s fr H with
   | none=>rw [hs] at hr;cases hr
   | some p=>
     rw [hs] at hr;rw [h _ _ _ hs]
     obtain ⟨e,fr',H'⟩:=p
     cases e with
     | nrm=>exact ih _ _ h _ _ _ hr
     | _=>exact hr
theorem wt7 (n k:Nat):LeIt (itF n) (itF (n+k)):=by
 induction k with
 | zero=>
   intro s s' h
   induction n with
   | zero=>intro fr H r hr;cases hr
   | succ n ih=>
     intro fr H r hr
     simp only [Nat.add_zero] at ih ⊢
     rw [itF] at hr ⊢
     cases hs:s fr H with
     | none=>rw [hs] at hr;cases hr
     | some p=>
       rw [hs] at hr;rw [h _ _ _ hs]
       obtain ⟨e,fr',H'⟩:=p
       cases e with
       | nrm=>exact ih _ _ _ hr
       | _=>exact hr
 | succ k ih=>
   intro s s' h fr H
   exact (ih s s' h fr H).trans (w58 (n+k) s' s' (fun _ _=>Le.refl _) fr H)
theorem jg3 {E:Env} {c c':za0} {i i':Run→Run} (h:zq8 c c') (hi:LeIt i i'):zq8 (q44 E c i) (q44 E c' i'):=by
 intro f a H r hr
 unfold q44 at hr ⊢
 cases hf:E.fnA f a.length with
 | none=>rw [hf] at hr;exact hr
 | some g=>
   rw [hf] at hr
   dsimp only at hr ⊢
   cases hs:evC E c i g.body { env:=za7 (binds 0 a),al:=noAl } H with
   | none=>rw [hs] at hr;cases hr
   | some p=>rw [hs] at hr;rw [wa3 h hi _ _ _ _ hs];exact hr
theorem w27 (E:Env) (n:Nat):zq8 (evF E n) (evF E (n+1)):=by
 induction n with
 | zero=>intro f a H r hr;cases hr
 | succ n ih=>exact jg3 ih (wt7 n 1)
noncomputable def ev (E:Env):za0:=fun f a H=>lub fun n=>evF E n f a H
noncomputable def itW:Run→Run:=fun s fr H=>lub fun n=>itF n s fr H
theorem wq5 {E:Env} {f:Nat} {a:List HV} {H:Heap} {r:HV×Heap} (h:ev E f a H=some r):∃ n,evF E n f a H=some r:=qq1 h
theorem v74 {E:Env} {f:Nat} {a:List HV} {H:Heap} {r:HV×Heap} {n:Nat} (h:evF E n f a H=some r):ev E f a H=some r:=
 jp5 (g:=fun n=>evF E n f a H) (fun n=>w27 E n f a H) h
end Go.Proofs.Lz
