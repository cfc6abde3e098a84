/- From the model's code to the small code of LzEv: a function that the kernel reckons. What it gives is held against the model by LzSound. -/
import Derived.Test.YtmjofajbfondhaaLzEv
namespace Go.Proofs.Lz

/-- A constant as a closed value (a nil slice is an empty one). -/
def cvOf : Value → Option CV
  | .bool b => some (.bool b)
  | .int k n => some (.int k n)
  | .string s => some (.str s.data.toList)
  | .pointer none => some .nilp
  | .slice none 0 0 => some (.frz none [])
  | .nilFunc => some .nilfn
  | .nilIface => some .nili
  | _ => none
def cvsOf : List Value → Option (List CV)
  | [] => some []
  | v :: r => match cvOf v, cvsOf r with
    | some a, some b => some (a :: b)
    | _, _ => none
def hvOf1 : Value → Option HV
  | .slice none 0 0 => some .nils
  | v => (cvOf v).map .c
def hvsOf : List Value → Option (List HV)
  | [] => some []
  | v :: r => match hvOf1 v, hvsOf r with
    | some a, some b => some (a :: b)
    | _, _ => none
def hvOf : Value → Option HV
  | .agg cs => (hvsOf cs.toList).map mkAgg
  | v => hvOf1 v

def opdOf : Operand → Option Opd
  | .tmp t => some (.t t)
  | .const v => (hvOf v).map .k
  | .func f => some (.k (.c (.fn f [] [])))
  | .global _ => none
def opdsOf : List Operand → Option (List Opd)
  | [] => some []
  | x :: r => match opdOf x, opdsOf r with
    | some a, some b => some (a :: b)
    | _, _ => none
def optOpd : Option Operand → Option (Option Opd)
  | none => some none
  | some x => (opdOf x).map some

def ekOf (P : Program) (t : TypeId) : Option (Option Nat) :=
  match P.underlying t, P.info? t with
  | some (.struct _), some i => if 0 < i.size then some (some i.size) else none
  | some (.array _ _), _ => none
  | some _, some i => if i.size = 1 then some none else none
  | _, _ => none
def zeroOf (P : Program) (t : TypeId) : Option Value := (P.info? t).bind (·.zero)
def bytesOf' (P : Program) (t : TypeId) : Option Nat := (P.info? t).map (·.bytes)

/-- The kinds of a type's cells, where '==' compares them one by one with no look at anything else. -/
def kindFs (ok : TypeId → Option (List Nat)) (P : Program) (off : Nat) : List Field → Option (List Nat)
  | [] => some []
  | f :: r => if f.offset = off ∧ f.name ≠ "_" then match ok f.type, kindFs ok P (off + P.cellsOf f.type) r with
      | some a, some b => if a.length = P.cellsOf f.type then some (a ++ b) else none
      | _, _ => none
    else none
def kindsOf (P : Program) : Nat → TypeId → Option (List Nat)
  | 0, _ => none
  | d + 1, t => match P.underlying t with
    | some .bool => some [0]
    | some (.int _) => some [1]
    | some .string => some [2]
    | some (.struct fs) => if P.stoodInHeld t then none else kindFs (kindsOf P d) P 0 fs.toList
    | _ => none

/-- A box's place is a local one, if every use of it lies in a load, a store, a field's address. -/
def usesOk (ops : List Oper) : Nat → Nat → Bool
  | 0, _ => false
  | n + 1, d => ops.all fun o => match o.op with
    | .load _ (.tmp _) => true
    | .store _ (.tmp _) (.tmp x) => x != d
    | .fieldAddr _ (.tmp x) _ | .nilCheck (.tmp x) => x != d || (match o.dst with
      | some e => usesOk ops n e
      | none => true)
    | .move (.tmp x) => x != d || (match o.dst with
      | some e => usesOk ops n e
      | none => true)
    | op => op.operands.all fun
      | .tmp x => x != d
      | _ => true

/-- A literal row that is only handed on: nothing appends to it or writes it. -/
def litOk (ops : List Oper) (d : Nat) : Bool := ops.all fun o => match o.op with
  | .call { callee := .builtin .append, args, .. } => match args.toList with
    | .tmp s :: _ => s != d
    | _ => true
  | .call _ | .build _ _ | .buildSlice _ _ _ | .store _ _ _ => true
  | op => op.operands.all fun
    | .tmp x => x != d
    | _ => true

def Code.opers : Code → List Oper
  | .region _ ops _ => ops.toList
  | .seq a b => Code.opers a ++ Code.opers b
  | .cond _ a b => Code.opers a ++ Code.opers b
  | .block _ b | .loop b | .scope b => Code.opers b
  | .rangeFunc _ _ a b => Code.opers a ++ Code.opers b
  | _ => []

def partsOf (f : Nat → Option (Nat × Nat)) : List (Nat × Operand) → Option (List (Nat × Nat × Opd))
  | [] => some []
  | (i, x) :: r => match f i, opdOf x, partsOf f r with
    | some (o, n), some a, some b => some ((o, n, a) :: b)
    | _, _, _ => none
def rowParts : List (Nat × Operand) → Option (List (Nat × Opd))
  | [] => some []
  | (i, x) :: r => match opdOf x, rowParts r with
    | some a, some b => some ((i, a) :: b)
    | _, _ => none

def compOp (P : Program) (all : List Oper) (lvl : Nat) (o : Oper) : Option IOp :=
  match o.op with
  | .move x | .assign x => (opdOf x).map .mv
  | .pick c a b => match opdOf c, opdOf a, opdOf b with
    | some c, some a, some b => some (.pick c a b)
    | _, _, _ => none
  | .alloc e => match (zeroOf P e).bind hvOf, ekOf P e with
    | some z, some ek => some (if (o.dst.map (usesOk all lvl)).getD false then .lbox ek (.k z) else .hbox ek (.k z))
    | _, _ => none
  | .box e x => match opdOf x, ekOf P e with
    | some x, some ek => some (if (o.dst.map (usesOk all lvl)).getD false then .lbox ek x else .hbox ek x)
    | _, _ => none
  | .build t parts => match P.underlying t, (zeroOf P t).bind (fun z => hvsOf z.cells.toList) with
    | some (.struct fs), some z => match fs.toList.mapM (fun f => (P.info? f.type).map fun i => (f.offset, i.size)) with
      | some pl => (partsOf (pl.toArray[·]?) parts.toList).map (.build z)
      | none => none
    | _, _ => none
  | .buildSlice t len parts => match P.underlying t with
    | some (.slice e) => match ekOf P e, (zeroOf P e).bind (fun z => cvsOf z.cells.toList), rowParts parts.toList with
      | some ek, some z, some ps => if len * (ekSize ek) ≤ 16777216 ∧ z.length = ekSize ek then some (.bsl ((o.dst.map (litOk all)).getD false) e ek z len ps) else none
      | _, _, _ => none
    | _ => none
  | .load t a => match ekOf P t, opdOf a with
    | some ek, some a => some (.load ek a)
    | _, _ => none
  | .store t a x => match o.dst, ekOf P t, opdOf a, opdOf x with
    | none, some ek, some a, some x => some (.store ek a x)
    | _, _, _, _ => none
  | .nilCheck x => (opdOf x).map .nck
  | .binOp op xt x y _ => match opdOf x, opdOf y with
    | some x, some y => match op with
      | .eql | .neq => match P.underlying xt with
        | some .bool => some (.eqb (op matches .neq) x y)
        | some (.int _) | some .string => some (.bin op x y)
        | some (.struct _) => if P.eqGuardType P.depth xt then none else (kindsOf P 100 xt).map fun ks => .eqs (op matches .neq) ks x y
        | _ => none
      | .shl | .shr => none
      | _ => some (.bin op x y)
    | _, _ => none
  | .unOp op _ x => (opdOf x).map (.un op)
  | .convert s d x => match P.underlying s, P.underlying d with
    | some (.int _), some (.int k) => (opdOf x).map (.cvt k)
    | some .string, some .string => (opdOf x).map .cvs
    | _, _ => none
  | .makeFunc (.func f) first cap => match opdsOf first.toList, opdsOf cap.toList with
    | some a, some b => some (.mkf f a b)
    | _, _ => none
  | .slice t x lo hi none => match P.underlying t, opdOf x, optOpd lo, optOpd hi with
    | some .string, some x, some lo, some hi => some (.slc true none x lo hi)
    | some (.slice e), some x, some lo, some hi => (ekOf P e).map fun ek => .slc false ek x lo hi
    | _, _, _, _ => none
  | .fieldAddr s x f => match P.underlying s with
    | some (.struct fs) => match fs[f]? with
      | some fd => match ekOf P fd.type, opdOf x with
        | some _, some x => some (.faddr fd.offset x)
        | _, _ => none
      | none => none
    | _ => none
  | .field s x f => match P.underlying s with
    | some (.struct fs) => match fs[f]? with
      | some fd => match ekOf P fd.type, opdOf x with
        | some ek, some x => some (.fld ek fd.offset x)
        | _, _ => none
      | none => none
    | _ => none
  | .indexAddr t x i => match P.underlying t with
    | some (.slice e) => match ekOf P e, opdOf x, opdOf i with
      | some ek, some x, some i => some (.ix ek x i)
      | _, _, _ => none
    | _ => none
  | .index t x i => match P.underlying t, opdOf x, opdOf i with
    | some .string, some x, some i => some (.six x i)
    | _, _, _ => none
  | .extract x i => (opdOf x).map (.ext · i)
  | .call { callee := .builtin b, args, argTypes } => match b, args.toList, argTypes.toList with
    | .len, [x], [t] => match P.underlying t, opdOf x with
      | some .string, some x => some (.len true x)
      | some (.slice _), some x => some (.len false x)
      | _, _ => none
    | .append, [s, x], [t, u] => match P.underlying t, P.underlying u, opdOf s, opdOf x with
      | some (.slice e), some (.slice _), some s, some x => if t = u then match ekOf P e, bytesOf' P e, zeroOf P e with
          | some ek, some n, some z => if z.cells.size = ekSize ek then some (.app e ek n s x) else none
          | _, _, _ => none
        else none
      | _, _, _, _ => none
    | .max, [x, y], _ => match opdOf x, opdOf y with
      | some x, some y => some (.mx true x y)
      | _, _ => none
    | .min, [x, y], _ => match opdOf x, opdOf y with
      | some x, some y => some (.mx false x y)
      | _, _ => none
    | _, _, _ => none
  | .call { callee := .value (.func f), args, .. } => (opdsOf args.toList).map (.call f)
  | .call { callee := .value (.tmp t), args, .. } => (opdsOf args.toList).map (.callv (.t t))
  | _ => none

def compOper (P : Program) (all : List Oper) (lvl : Nat) (ops : Array Oper) (o : Oper) : Option IOper :=
  match compOp P all lvl o with
  | none => none
  | some op => match o.guard with
    | none => some { dst := o.dst, guard := none, op }
    | some (j, want) => match (ops[j]?).bind (·.dst) with
      | some s => some { dst := o.dst, guard := some (s, want), op }
      | none => none
def compOps (P : Program) (all : List Oper) (lvl : Nat) (ops : Array Oper) : List Oper → Option (List IOper)
  | [] => some []
  | o :: r => match compOper P all lvl ops o, compOps P all lvl ops r with
    | some a, some b => some (a :: b)
    | _, _ => none

/-! ### regions in whatever order -/
def IOp.opds : IOp → List Opd
  | .mv x | .un _ x | .load _ x | .faddr _ x | .nck x | .fld _ _ x | .len _ x | .lbox _ x | .hbox _ x | .b2s x | .cvs x | .ext x _ | .cvt _ x => [x]
  | .bin _ x y | .eqs _ _ x y | .eqb _ x y | .store _ x y | .ix _ x y | .six x y | .app _ _ _ x y | .mx _ x y => [x, y]
  | .pick x y z => [x, y, z]
  | .slc _ _ x lo hi => x :: (lo.toList ++ hi.toList)
  | .build _ ps => ps.map (·.2.2)
  | .bsl _ _ _ _ _ ps => ps.map (·.2)
  | .call _ as => as
  | .callv x as => x :: as
  | .mkf _ as bs => as ++ bs
def oslot : List Opd → List Nat
  | [] => []
  | .t i :: r => i :: oslot r
  | .k _ :: r => oslot r
def IOper.reads (o : IOper) : List Nat := match o.guard with
  | none => oslot o.op.opds
  | some (s, _) => s :: oslot o.op.opds
def apartS (a b : IOper) : Bool :=
  (match a.dst with
  | some d => !(b.reads.contains d) && b.dst != some d
  | none => true) && (match b.dst with
  | some d => !(a.reads.contains d)
  | none => true)
/-- An earlier operation and a later one that may go ahead of it. -/
def memOk : Cls → Cls → Bool
  | .pure, _ => true
  | _, .pure => true
  | .rdb, .rdb => true
  | .rdb, .wrb => false
  | .wrb, .rdb => false
  | .wrb, .wrb => false
  | .rdb, _ => true
  | .wrb, _ => true
  | _, .rdb => true
  | _, .wrb => true
  | .rd, .rd => true
  | .rd, .hb => true
  | _, _ => false
def ancM (acc : List Nat) : List Edge → Nat
  | [] => 0
  | e :: r => if Region.binds .any e = true then (2 ^ e.on ||| acc.getD e.on 0) ||| ancM acc r else ancM acc r
def anc : List Oper → List Nat → List Nat
  | [], acc => acc
  | o :: r, acc => anc r (acc ++ [ancM acc o.after.toList])
def edgesOk : Nat → List Oper → Bool
  | _, [] => true
  | k, o :: r => o.after.toList.all (fun e => !Region.binds .any e || decide (e.on < k)) && edgesOk (k + 1) r
def drawOk (ops : List Oper) (l : List (Cls × IOper)) : Bool :=
  edgesOk 0 ops && (List.range l.length).all fun j => (List.range j).all fun i => ((anc ops []).getD j 0).testBit i || (match l[i]?, l[j]? with
    | some x, some y => memOk x.1 y.1 && apartS x.2 y.2
    | _, _ => true)
def rootOf (ios : List IOper) : Nat → Nat → Nat
  | 0, s => s
  | n + 1, s => match ios.find? (fun o => o.dst == some s) with
    | some o => match o.op with
      | .faddr _ (.t x) | .nck (.t x) | .mv (.t x) => rootOf ios n x
      | _ => s
    | none => s
def clsOf (md : Nat → Md) (lbs : Nat → Bool) (ios : List IOper) : IOp → Cls
  | .load _ (.t a) => if lbs (rootOf ios 6 a) then .rdb else .rd
  | .store _ (.t a) _ => if lbs (rootOf ios 6 a) then .wrb else .wr
  | .load _ _ | .ix _ _ _ | .slc _ _ _ _ _ | .b2s _ => .rd
  | .bsl fz _ _ _ _ _ => if fz then .pure else .wr
  | .call f _ => match md f with
    | .P => .rd
    | .S => .wr
  | .store _ _ _ | .callv _ _ | .app _ _ _ _ _ => .wr
  | .hbox _ _ | .lbox _ _ => .hb
  | _ => .pure
/-- A local box is made in no drawn region. -/
def drawnOpers : Code → List Oper
  | .region _ ops true => ops.toList
  | .seq a b | .cond _ a b => drawnOpers a ++ drawnOpers b
  | .block _ b | .loop b | .scope b => drawnOpers b
  | .rangeFunc _ _ a b => drawnOpers a ++ drawnOpers b
  | _ => []
def isBoxOp : Op → Bool
  | .alloc _ | .box _ _ => true
  | _ => false
def lbsOf (all drw : List Oper) (s : Nat) : Bool :=
  usesOk all 6 s && all.any (fun o => o.dst == some s && isBoxOp o.op) && !(drw.any fun o => o.dst == some s && isBoxOp o.op)

/-! ### which slots are read again -/
def ins (x : Nat) : List Nat → List Nat
  | [] => [x]
  | y :: r => if x < y then x :: y :: r else if x = y then y :: r else y :: ins x r
def uni (a b : List Nat) : List Nat := a.foldl (fun acc x => ins x acc) b
def opTmps (o : Oper) : List Nat := o.op.operands.toList.filterMap fun
  | .tmp t => some t
  | _ => none
def liveOps (ops : Array Oper) : List Oper → List Nat → List Nat
  | [], after => after
  | o :: r, after =>
    let l := liveOps ops r after
    let l := match o.dst with
      | some d => l.filter (· != d)
      | none => l
    let l := match o.guard with
      | some (j, _) => match (ops[j]?).bind (·.dst) with
        | some s => ins s l
        | none => l
      | none => l
    uni (opTmps o) l
def get (m : List (Nat × List Nat)) (i : Nat) : List Nat := match m.find? (·.1 == i) with
  | some p => p.2
  | none => []
def live (res : List Nat) : Code → List (Nat × List Nat) → List (Nat × List Nat) → List Nat → List Nat
  | .region _ ops _, _, _, after => liveOps ops ops.toList after
  | .seq a b, ex, gs, after => live res a ex gs (live res b ex gs after)
  | .cond c a b, ex, gs, after => let l := uni (live res a ex gs after) (live res b ex gs after)
    match c with
    | .tmp t => ins t l
    | _ => l
  | .block id b, ex, gs, after => live res b ((id, after) :: ex) gs after
  | .loop b, ex, gs, _ => live res b ex gs (live res b ex gs (live res b ex gs []))
  | .exit id, ex, _, _ => get ex id
  | .goto l, _, gs, _ => get gs l
  | .ret, _, _, _ => res
  | .scope b, ex, gs, after => live res b ex gs after
  | _, _, _, after => after

def compC (P : Program) (md : Nat → Md) (all : List Oper) (lbs : Nat → Bool) (res : List Nat) : Code → List (Nat × List Nat) → List Nat → Option ICode
  | .skip, _, _ => some .skip
  | .region _ ops false, _, _ => (compOps P all 6 ops ops.toList).map .region
  | .region _ ops true, _, _ => match compOps P all 0 ops ops.toList with
    | some ios =>
      let l := ios.map fun io => (clsOf md lbs ios io.op, io)
      if P.follows .mixedOrders = true ∧ drawOk ops.toList l = true then some (.regionD l) else none
    | none => none
  | .seq a b, ex, after => match compC P md all lbs res a ex (live res b ex [] after), compC P md all lbs res b ex after with
    | some x, some y => some (.seq x y)
    | _, _ => none
  | .cond c a b, ex, after => match opdOf c, compC P md all lbs res a ex after, compC P md all lbs res b ex after with
    | some c, some x, some y => some (.cond c x y)
    | _, _, _ => none
  | .block id b, ex, after => (compC P md all lbs res b ((id, after) :: ex) after).map (.block id)
  | .loop b, ex, _ =>
    let l := live res b ex [] (live res b ex [] (live res b ex [] []))
    (compC P md all lbs res b ex l).map (.loop l)
  | .exit id, _, _ => some (.exit id)
  | .ret, _, _ => some .ret
  | .label l, _, _ => some (.label l)
  | _, _, _ => none

def resSlots (f : Func) : List Nat := f.results.toList.map fun
  | .tmp t => t
  | .cell a _ => a
def compRes (P : Program) : List ResultVar → Option (List IRes)
  | [] => some []
  | .tmp t :: r => (compRes P r).map (IRes.tmp t :: ·)
  | .cell a t :: r => match ekOf P t, compRes P r with
    | some ek, some l => some (.cell a ek :: l)
    | _, _ => none
/-- Modes by a list of the functions that share the caller's memory. -/
def mdL (l : List Nat) (f : Nat) : Md := if l.contains f then .S else .P
def compFn (P : Program) (md : Nat → Md) (f : Func) : Option IFn :=
  match f.body with
  | none => none
  | some c => if f.name == "runtime.NumGoroutine" || !(Code.opers c).all (fun o => o.dst.all (· < f.ntmps)) then none else match compC P md (Code.opers c) (lbsOf (Code.opers c) (drawnOpers c)) (resSlots f) c [] (resSlots f), compRes P f.results.toList with
    | some b, some r => some { body := b, res := r }
    | _, _ => none
end Go.Proofs.Lz
