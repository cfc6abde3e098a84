/- The evaluator: values, the small code, and what it computes. Nothing of the model is changed; this text only defines. -/
import GoSem.Step
namespace Go.Proofs.Lz

/-- Closed values: what is never written any more. -/
inductive CV where
  | bool (b : Bool)
  | int (k : IntKind) (n : Int)
  | str (s : List UInt8)
  | agg (cs : List CV)
  | frz (ek : Option Nat) (xs : List CV)
  | fptr (ek : Option Nat) (x : CV) (off : Nat)
  | fn (f : Nat) (first cap : List CV)
  | iface (t : Nat) (v : CV)
  | nili
  | nilp
  | nilfn
  deriving Inhabited

def CV.flat : CV → List CV
  | .agg cs => cs
  | v => [v]

/-- Values while the code runs. -/
inductive HV where
  | c (v : CV)
  | agg (cs : List HV)
  | tup (vs : List HV)
  | nils
  | sl (id ver off len : Nat)
  | ptr (id off : Nat)
  | eptr (id ver i off : Nat)
  | lbox (ek : Option Nat) (v : HV)
  | fn (f : Nat) (first cap : List HV)
  | iface (t : Nat) (v : HV)
  | skipv
  | undef
  deriving Inhabited

def HV.flat : HV → List HV
  | .agg cs => cs
  | .c (.agg l) => l.map .c
  | v => [v]

/-- A struct's cells. -/
def aggH : HV → Option (List HV)
  | .agg cs => some cs
  | .c (.agg l) => some (l.map .c)
  | _ => none

def closeAll : List HV → Option (List CV)
  | [] => some []
  | .c v :: r => match closeAll r with
    | some l => some (v :: l)
    | none => none
  | _ :: _ => none

def mkAgg (cs : List HV) : HV :=
  match closeAll cs with
  | some l => .c (.agg l)
  | none => .agg cs

/-- What lies in memory of its own: a variable's cells; a row (frozen for good, or not; its elements' kind; how often it was appended to). -/
inductive HO where
  | var (ek : Option Nat) (cs : List HV)
  | row (fz : Bool) (e : Nat) (ek : Option Nat) (ver : Nat) (xs : List CV)
  deriving Inhabited

abbrev Heap := List HO

def ekSize : Option Nat → Nat
  | none => 1
  | some n => n

structure Fr where
  env : Nat → HV
  al : Nat → Option (Nat × Nat)

def upd {α : Type} (f : Nat → α) (t : Nat) (v : α) : Nat → α := fun s => if s = t then v else f s
def noAl : Nat → Option (Nat × Nat) := fun _ => none
def assoc : List (Nat × HV) → Nat → HV
  | [], _ => .undef
  | (t, v) :: r, s => if s = t then v else assoc r s
def keep (live : List Nat) (fr : Fr) : Fr := { env := assoc (live.map fun s => (s, fr.env s)), al := noAl }

inductive Opd where
  | t (i : Nat)
  | k (v : HV)

/-- A local box is no value: it can only be read and written in its place. -/
def unbox : HV → HV
  | .lbox _ _ => .undef
  | v => v
def Fr.opd (fr : Fr) : Opd → HV
  | .t i => unbox (fr.env i)
  | .k v => v

inductive IOp where
  | mv (x : Opd)
  | un (op : UnOp) (x : Opd)
  | bin (op : BinOp) (x y : Opd)
  | eqs (neg : Bool) (ks : List Nat) (x y : Opd)
  | eqb (neg : Bool) (x y : Opd)
  | pick (c a b : Opd)
  | load (ek : Option Nat) (a : Opd)
  | store (ek : Option Nat) (a x : Opd)
  | faddr (off : Nat) (a : Opd)
  | nck (a : Opd)
  | fld (ek : Option Nat) (off : Nat) (x : Opd)
  | ix (ek : Option Nat) (x i : Opd)
  | six (x i : Opd)
  | slc (st : Bool) (ek : Option Nat) (x : Opd) (lo hi : Option Opd)
  | len (st : Bool) (x : Opd)
  | app (e : Nat) (ek : Option Nat) (bytes : Nat) (s x : Opd)
  | build (zero : List HV) (parts : List (Nat × Nat × Opd))
  | bsl (fz : Bool) (e : Nat) (ek : Option Nat) (zero : List CV) (len : Nat) (parts : List (Nat × Opd))
  | lbox (ek : Option Nat) (x : Opd)
  | hbox (ek : Option Nat) (x : Opd)
  | b2s (x : Opd)
  | cvs (x : Opd)
  | call (f : Nat) (args : List Opd)
  | callv (x : Opd) (args : List Opd)
  | mkf (f : Nat) (first cap : List Opd)
  | ext (x : Opd) (i : Nat)
  | cvt (k : IntKind) (x : Opd)
  | mx (isMax : Bool) (x y : Opd)

structure IOper where
  dst : Option Nat
  guard : Option (Nat × Bool)
  op : IOp

/-- What an operation of a drawn region may look at and change: nothing but slots; a local box; the memory; a new variable. -/
inductive Cls where
  | pure
  | rdb
  | wrb
  | rd
  | wr
  | hb
  deriving DecidableEq

inductive ICode where
  | skip
  | region (ops : List IOper)
  | regionD (ops : List (Cls × IOper))
  | seq (a b : ICode)
  | cond (c : Opd) (thn els : ICode)
  | block (id : Nat) (body : ICode)
  | loop (live : List Nat) (body : ICode)
  | exit (id : Nat)
  | scope (l : Nat) (live : List Nat) (body rest : ICode)
  | label (l : Nat)
  | goto (l : Nat)
  | ret

inductive IRes where
  | tmp (t : Nat)
  | cell (a : Nat) (ek : Option Nat)

structure IFn where
  body : ICode
  res : List IRes

inductive Md where
  | P
  | S
  deriving DecidableEq

structure Env where
  fn : Nat → Option IFn
  md : Nat → Md

/-! ### operations on values -/
/-- Cells of given kinds (0: bool, 1: int, 2: string) compared. -/
def eqL : List Nat → List CV → List CV → Option Bool
  | [], [], [] => some true
  | 0 :: ks, .bool a :: r, .bool b :: s => match eqL ks r s with
    | some x => some (a == b && x)
    | none => none
  | 1 :: ks, .int k a :: r, .int k' b :: s => if k = k' then match eqL ks r s with
      | some x => some (a == b && x)
      | none => none
    else none
  | 2 :: ks, .str a :: r, .str b :: s => match eqL ks r s with
    | some x => some (a == b && x)
    | none => none
  | _, _, _ => none

def binC (op : BinOp) (x y : CV) : Option CV :=
  match x, y with
  | .int k a, .int k' b =>
    match op with
    | .add => if k = k' then some (.int k (k.wrap (a + b))) else none
    | .sub => if k = k' then some (.int k (k.wrap (a - b))) else none
    | .mul => if k = k' then some (.int k (k.wrap (a * b))) else none
    | .quo => if k = k' ∧ b ≠ 0 then some (.int k (k.wrap (a.tdiv b))) else none
    | .rem => if k = k' ∧ b ≠ 0 then some (.int k (a.tmod b)) else none
    | .eql => if k = k' then some (.bool (a == b)) else none
    | .neq => if k = k' then some (.bool (a != b)) else none
    | .lss => if k = k' then some (.bool (decide (a < b))) else none
    | .leq => if k = k' then some (.bool (decide (a ≤ b))) else none
    | .gtr => if k = k' then some (.bool (decide (b < a))) else none
    | .geq => if k = k' then some (.bool (decide (b ≤ a))) else none
    | _ => none
  | .str a, .str b =>
    match op with
    | .add => if a.length + b.length ≤ 9223372036854775807 then some (.str (a ++ b)) else none
    | .eql => some (.bool (a == b))
    | .neq => some (.bool (!(a == b)))
    | .lss => some (.bool (Op.bytesLess a b))
    | .leq => some (.bool (Op.bytesLess a b || a == b))
    | .gtr => some (.bool (!(Op.bytesLess a b || a == b)))
    | .geq => some (.bool (!(Op.bytesLess a b)))
    | _ => none
  | _, _ => none

def unC (op : UnOp) (x : CV) : Option CV :=
  match op, x with
  | .not, .bool b => some (.bool (!b))
  | .neg, .int k n => some (.int k (k.wrap (0 - n)))
  | _, _ => none

/-- A part of a row of cells: a struct's (some n) or one cell. -/
def partH (ek : Option Nat) (cs : List HV) (off : Nat) : Option HV :=
  match ek with
  | none => cs[off]?
  | some n => if off + n ≤ cs.length then some (mkAgg ((cs.drop off).take n)) else none
def partC (ek : Option Nat) (cs : List CV) (off : Nat) : Option CV :=
  match ek with
  | none => cs[off]?
  | some n => if off + n ≤ cs.length then some (.agg ((cs.drop off).take n)) else none
/-- What is read of a closed element, from an offset on: the whole of it is not looked into. -/
def readC (ek' ek : Option Nat) (x : CV) (off : Nat) : Option CV :=
  if off = 0 ∧ ek' = ek then some x else partC ek x.flat off
def setPart (cs : List HV) (off : Nat) (new : List HV) : List HV := cs.take off ++ new ++ cs.drop (off + new.length)
def setPartC (cs : List CV) (off : Nat) (new : List CV) : List CV := cs.take off ++ new ++ cs.drop (off + new.length)
/-- A closed value of a kind: one cell, or a struct of n cells. -/
def fits : Option Nat → CV → Bool
  | none, .agg _ => false
  | none, _ => true
  | some n, .agg cs => cs.length == n
  | some _, _ => false
def fitsH : Option Nat → HV → Bool
  | ek, .c v => fits ek v
  | some n, .agg cs => cs.length == n
  | none, .nils => true
  | none, .sl _ _ _ _ => true
  | none, .ptr _ _ => true
  | none, .eptr _ _ _ _ => true
  | none, .fn _ _ _ => true
  | none, .iface _ _ => true
  | _, _ => false
def unflat (ek : Option Nat) (cs : List CV) : Option CV := match ek with
  | none => cs[0]?
  | some _ => some (.agg cs)

def unflatH (ek : Option Nat) (cs : List HV) : Option HV := match ek with
  | none => cs[0]?
  | some _ => some (mkAgg cs)

/-- A runtime value as a closed one; live rows by what they hold. -/
def thaw0 (H : Heap) : HV → Option CV
  | .c v => some v
  | .nils => some (.frz none [])
  | .sl id ver off len => match H[id]? with
    | some (.row _ _ ek ver' xs) => if ver = ver' ∧ off + len ≤ xs.length then some (.frz ek ((xs.drop off).take len)) else none
    | _ => none
  | _ => none
def thaw0L (H : Heap) : List HV → Option (List CV)
  | [] => some []
  | x :: r => match thaw0 H x, thaw0L H r with
    | some a, some b => some (a :: b)
    | _, _ => none
def thaw1 (H : Heap) : HV → Option CV
  | .agg cs => match thaw0L H cs with
    | some l => some (.agg l)
    | none => none
  | .iface t (.agg cs) => match thaw0L H cs with
    | some l => some (.iface t (.agg l))
    | none => none
  | .iface t v => match thaw0 H v with
    | some x => some (.iface t x)
    | none => none
  | v => thaw0 H v
/-- What a closure has captured, lent: a variable by what it holds. -/
def thawP (H : Heap) : HV → Option CV
  | .ptr id off => match H[id]? with
    | some (.var ek cs) => match thaw0L H cs with
      | some l => if l.length = ekSize ek then match unflat ek l with
        | some x => some (.fptr ek x off)
        | none => none
        else none
      | none => none
    | _ => none
  | v => thaw1 H v
def thawPL (H : Heap) : List HV → Option (List CV)
  | [] => some []
  | x :: r => match thawP H x, thawPL H r with
    | some a, some b => some (a :: b)
    | _, _ => none
def thaw (H : Heap) : HV → Option CV
  | .fn f first cap => match thawPL H first, thawPL H cap with
    | some a, some b => some (.fn f a b)
    | _, _ => none
  | v => thawP H v

/-- The rows that a value leads to are frozen for good. -/
def frzId (id : Nat) (H : Heap) : Heap := match H[id]? with
  | some (.row _ e ek ver xs) => H.set id (.row true e ek ver xs)
  | _ => H
def frzIn : List HV → Heap → Heap
  | [], H => H
  | .sl id _ _ _ :: r, H => frzIn r (frzId id H)
  | _ :: r, H => frzIn r H
def frzV (v : HV) (H : Heap) : Heap := match v with
  | .agg cs => frzIn cs H
  | .iface _ (.agg cs) => frzIn cs H
  | .iface _ v => frzIn [v] H
  | v => frzIn [v] H
def frzVs : List HV → Heap → Heap
  | [], H => H
  | v :: r, H => frzVs r (frzV v H)
/-- A value closed for good. -/
def closeV (v : HV) (H : Heap) : Option (CV × Heap) := match v with
  | .c u => some (u, H)
  | v => match thaw1 H v with
    | some u => some (u, frzV v H)
    | none => none

def plainC : CV → Bool
  | .bool _ | .int _ _ | .str _ => true
  | _ => false
/-- No reference into memory: what may come back from a call that was lent live rows. -/
def noRef : HV → Bool
  | .c (.agg l) => l.all plainC
  | .c v => plainC v
  | .tup vs => noRefL vs
  | _ => false
where noRefL : List HV → Bool
  | [] => true
  | .c (.agg l) :: r => l.all plainC && noRefL r
  | .c v :: r => plainC v && noRefL r
  | _ :: _ => false
def isC : HV → Bool
  | .c _ => true
  | .nils => true
  | _ => false

def thawArgs (H : Heap) : List HV → Option (List HV)
  | [] => some []
  | x :: r => match thaw H x, thawArgs H r with
    | some a, some b => some (.c a :: b)
    | _, _ => none
def thawRs (H : Heap) : List HV → Option (List HV)
  | [] => some []
  | x :: r => match thaw1 H x, thawRs H r with
    | some a, some b => some (.c a :: b)
    | _, _ => none
def thawRes (H : Heap) : HV → Option HV
  | .tup vs => (thawRs H vs).map .tup
  | v => (thaw1 H v).map .c
def noFn : HV → Bool
  | .fn _ _ _ => false
  | .ptr _ _ => false
  | _ => true

abbrev CallF := Nat → List HV → Heap → Option (HV × Heap)

def callWith (E : Env) (e : CallF) (f : Nat) (args : List HV) (H : Heap) : Option (HV × Heap) :=
  match E.md f with
  | .S => e f args H
  | .P => match thawArgs H args with
    | none => none
    | some as => match e f as [] with
      | none => none
      | some (r, H') => match thawRes H' r with
        | none => none
        | some r' => if args.all isC || noRef r' then some (r', H) else if args.all noFn then some (r', frzVs args H) else none

/-! ### steps -/
def Fr.put (fr : Fr) (dst : Option Nat) (v : HV) : Fr :=
  match dst with
  | none => fr
  | some d => { env := upd fr.env d v, al := upd fr.al d none }
def Fr.link (fr : Fr) (dst : Option Nat) (b off : Nat) : Fr :=
  match dst with
  | none => fr
  | some d => { env := upd fr.env d .undef, al := upd fr.al d (some (b, off)) }
def linkTo (dst : Option Nat) (b off : Nat) (fr : Fr) (H : Heap) : Option (Fr × Heap) := if dst = some b then none else some (fr.link dst b off, H)
/-- A local box's place, if the operand is one. -/
def Fr.place (fr : Fr) (x : Opd) : Option (Nat × Nat) :=
  match x with
  | .k _ => none
  | .t i => match fr.al i with
    | some (b, off) => match fr.env b with
      | .lbox _ _ => some (b, off)
      | _ => none
    | none => match fr.env i with
      | .lbox _ _ => some (i, 0)
      | _ => none

def getInt : HV → Option Int
  | .c (.int _ n) => some n
  | _ => none
def getBool : HV → Option Bool
  | .c (.bool b) => some b
  | _ => none

def lenH (st : Bool) : HV → Option Nat
  | .c (.str s) => if st then some s.length else none
  | .c (.frz _ xs) => if st then none else some xs.length
  | .nils => if st then none else some 0
  | .sl _ _ _ n => if st then none else some n
  | _ => none

def ixH (ek : Option Nat) (x : HV) (i : Int) (H : Heap) : Option HV :=
  match x with
  | .c (.frz ek' xs) => if ek' = ek ∧ 0 ≤ i then match xs[i.toNat]? with
      | some v => some (.c (.fptr ek v 0))
      | none => none
    else none
  | .sl id ver off len => match H[id]? with
    | some (.row _ _ ek' ver' _) => if ek' = ek ∧ ver' = ver ∧ 0 ≤ i ∧ i < len then some (.eptr id ver (off + i.toNat) 0) else none
    | _ => none
  | _ => none

def loadH (ek : Option Nat) (p : HV) (H : Heap) : Option HV :=
  match p with
  | .c (.fptr ek' x off) => (readC ek' ek x off).map .c
  | .ptr id off => match H[id]? with
    | some (.var _ cs) => partH ek cs off
    | _ => none
  | .eptr id ver i off => match H[id]? with
    | some (.row _ _ ek' ver' xs) => if ver' = ver then match xs[i]? with
        | some x => (readC ek' ek x off).map .c
        | none => none
      else none
    | _ => none
  | _ => none

def storeH (ek : Option Nat) (p : HV) (v : HV) (H : Heap) : Option Heap :=
  match p with
  | .ptr id off => match H[id]? with
    | some (.var ek' cs) => if fitsH ek v = true ∧ off + v.flat.length ≤ cs.length then some (H.set id (.var ek' (setPart cs off v.flat))) else none
    | _ => none
  | .eptr id ver i off => match closeV v H with
    | some (u, H') => match H'[id]? with
      | some (.row false e ek' ver' xs) => if ver' = ver ∧ fits ek u = true then match xs[i]? with
          | some x =>
            if off = 0 ∧ ek' = ek then some (H'.set id (.row false e ek' ver (xs.set i u)))
            else if off + u.flat.length ≤ x.flat.length then
              match unflat ek' (setPartC x.flat off u.flat) with
              | some x' => if fits ek' x' = true then some (H'.set id (.row false e ek' ver (xs.set i x'))) else none
              | none => none
            else none
          | none => none
        else none
      | _ => none
    | none => none
  | _ => none

def slcH (st : Bool) (ek : Option Nat) (x : HV) (lo hi : Option Int) (H : Heap) : Option HV :=
  match x with
  | .c (.str s) =>
    let l := lo.getD 0
    let h := hi.getD s.length
    if st = true ∧ 0 ≤ l ∧ l ≤ h ∧ h ≤ s.length then some (.c (.str ((s.drop l.toNat).take (h.toNat - l.toNat)))) else none
  | .c (.frz ek' xs) =>
    let l := lo.getD 0
    let h := hi.getD xs.length
    if st = false ∧ (ek' = ek ∨ xs = []) ∧ 0 ≤ l ∧ l ≤ h ∧ h ≤ xs.length then some (.c (.frz ek' ((xs.drop l.toNat).take (h.toNat - l.toNat)))) else none
  | .nils =>
    let l := lo.getD 0
    let h := hi.getD 0
    if st = false ∧ 0 ≤ l ∧ l ≤ h ∧ h ≤ 0 then some .nils else none
  | .sl id ver off n => match H[id]? with
    | some (.row _ _ ek' ver' _) => if ver' = ver ∧ ek' = ek then
      let l := lo.getD 0
      let h := hi.getD n
      if st = false ∧ 0 ≤ l ∧ l ≤ h ∧ h ≤ n then some (.sl id ver (off + l.toNat) (h.toNat - l.toNat)) else none
      else none
    | _ => none
  | _ => none

/-- What is appended: closed elements. -/
def elemsH (ek : Option Nat) (x : HV) (H : Heap) : Option (List CV) :=
  match x with
  | .nils => some []
  | .c (.frz _ []) => some []
  | .c (.frz ek' xs) => if ek' = ek then some xs else none
  | .sl id ver off len => match H[id]? with
    | some (.row _ _ ek' ver' xs) => if ek' = ek ∧ ver = ver' ∧ off + len ≤ xs.length then some ((xs.drop off).take len) else none
    | _ => none
  | _ => none

def lim : Nat := 140737488355328

def appH (e : Nat) (ek : Option Nat) (bytes : Nat) (s x : HV) (H : Heap) : Option (HV × Heap) :=
  match elemsH ek x H with
  | none => none
  | some new => match s with
    | .nils => if new = [] then some (.nils, H) else if new.length * bytes ≤ lim ∧ new.length ≤ lim then some (.sl H.length 0 0 new.length, H ++ [.row false e ek 0 new]) else none
    | .sl id ver 0 n => match H[id]? with
      | some (.row false e' ek' ver' xs) =>
        if e' = e ∧ ek' = ek ∧ ver' = ver ∧ n ≤ xs.length ∧ (n + new.length) * bytes ≤ lim ∧ n + new.length ≤ lim then
          some (.sl id (ver + 1) 0 (n + new.length), H.set id (.row false e ek (ver + 1) (xs.take n ++ new)))
        else none
      | _ => none
    | _ => none

/-- A part of n cells: a struct's, or one. -/
def fitsN (n : Nat) (v : HV) : Bool := fitsH (some n) v || (n == 1 && fitsH none v)
def fillH (cs : List HV) : List (Nat × Nat × HV) → Option (List HV)
  | [] => some cs
  | (off, n, v) :: r => if fitsN n v = true ∧ off + n ≤ cs.length then fillH (setPart cs off v.flat) r else none

def fillRow (ek : Option Nat) (xs : List CV) (H : Heap) : List (Nat × HV) → Option (List CV × Heap)
  | [] => some (xs, H)
  | (i, v) :: r => match closeV v H with
    | some (u, H') => if i < xs.length ∧ fits ek u = true then fillRow ek (xs.set i u) H' r else none
    | none => none

/-- The bytes of a row. -/
def bytesC : List CV → Option (List UInt8)
  | [] => some []
  | .int .u8 n :: r => match bytesC r with
    | some l => some (UInt8.ofNat n.toNat :: l)
    | none => none
  | _ => none

def optI (fr : Fr) : Option Opd → Option (Option Int)
  | none => some none
  | some x => match getInt (fr.opd x) with
    | some i => some (some i)
    | none => none

/-- One operation: a value for its place (or a link to a local box), and the memory behind it. -/
def doOp0 (o : IOp) (dst : Option Nat) (fr : Fr) (H : Heap) : Option (Fr × Heap) :=
  match o with
  | .mv x => match fr.place x with
    | some (b, off) => linkTo dst b off fr H
    | none => some (fr.put dst (fr.opd x), H)
  | .un op x => match fr.opd x with
    | .c a => match unC op a with
      | some v => some (fr.put dst (.c v), H)
      | none => none
    | _ => none
  | .bin op x y => match fr.opd x, fr.opd y with
    | .c a, .c b => match binC op a b with
      | some v => some (fr.put dst (.c v), H)
      | none => none
    | _, _ => none
  | .eqs neg ks x y => match fr.opd x, fr.opd y with
    | .c (.agg a), .c (.agg b) => match eqL ks a b with
      | some v => some (fr.put dst (.c (.bool (if neg then !v else v))), H)
      | none => none
    | _, _ => none
  | .eqb neg x y => match fr.opd x, fr.opd y with
    | .c (.bool a), .c (.bool b) => some (fr.put dst (.c (.bool (if neg then !(a == b) else a == b))), H)
    | _, _ => none
  | .pick c a b => match fr.opd c with
    | .c (.bool t) => some (fr.put dst (if t then fr.opd a else fr.opd b), H)
    | _ => none
  | .load ek a => match fr.place a with
    | some (b, off) => match fr.env b with
      | .lbox ek' x => match (if off = 0 ∧ ek' = ek then some x else partH ek x.flat off) with
        | some v => some (fr.put dst v, H)
        | none => none
      | _ => none
    | none => match loadH ek (fr.opd a) H with
      | some v => some (fr.put dst v, H)
      | none => none
  | .store ek a x => match fr.place a with
    | some (b, off) => match fr.env b with
      | .lbox ek' x0 =>
        let v := fr.opd x
        if fitsH ek v = true then
          if off = 0 ∧ ek' = ek then some ({ fr with env := upd fr.env b (.lbox ek' v) }, H)
          else if off + v.flat.length ≤ x0.flat.length then
            match unflatH ek' (setPart x0.flat off v.flat) with
            | some x' => if fitsH ek' x' = true then some ({ fr with env := upd fr.env b (.lbox ek' x') }, H) else none
            | none => none
          else none
        else none
      | _ => none
    | none => match storeH ek (fr.opd a) (fr.opd x) H with
      | some H' => some (fr, H')
      | none => none
  | .faddr n a => match fr.place a with
    | some (b, off) => linkTo dst b (off + n) fr H
    | none => match fr.opd a with
      | .ptr id off => some (fr.put dst (.ptr id (off + n)), H)
      | .eptr id ver i off => some (fr.put dst (.eptr id ver i (off + n)), H)
      | .c (.fptr ek x off) => some (fr.put dst (.c (.fptr ek x (off + n))), H)
      | _ => none
  | .nck a => match fr.place a with
    | some (b, off) => linkTo dst b off fr H
    | none => match fr.opd a with
      | .ptr id off => some (fr.put dst (.ptr id off), H)
      | .eptr id ver i off => some (fr.put dst (.eptr id ver i off), H)
      | .c (.fptr ek x off) => some (fr.put dst (.c (.fptr ek x off)), H)
      | _ => none
  | .fld ek off x => match aggH (fr.opd x) with
    | some cs => match partH ek cs off with
      | some v => some (fr.put dst v, H)
      | none => none
    | none => none
  | .cvs x => match fr.opd x with
    | .c (.str s) => some (fr.put dst (.c (.str s)), H)
    | _ => none
  | .ix ek x i => match getInt (fr.opd i) with
    | some n => match ixH ek (fr.opd x) n H with
      | some v => some (fr.put dst v, H)
      | none => none
    | none => none
  | .six x i => match fr.opd x, getInt (fr.opd i) with
    | .c (.str s), some n => if 0 ≤ n then match s[n.toNat]? with
        | some b => some (fr.put dst (.c (.int .u8 b.toNat)), H)
        | none => none
      else none
    | _, _ => none
  | .slc st ek x lo hi => match optI fr lo, optI fr hi with
    | some l, some h => match slcH st ek (fr.opd x) l h H with
      | some v => some (fr.put dst v, H)
      | none => none
    | _, _ => none
  | .len st x => match lenH st (fr.opd x) with
    | some n => some (fr.put dst (.c (.int .i64 n)), H)
    | none => none
  | .app e ek bytes s x => match appH e ek bytes (fr.opd s) (fr.opd x) H with
    | some (v, H') => some (fr.put dst v, H')
    | none => none
  | .build zero parts => match fillH zero (parts.map fun p => (p.1, p.2.1, fr.opd p.2.2)) with
    | some cs => some (fr.put dst (mkAgg cs), H)
    | none => none
  | .bsl fz e ek zero n parts => match unflat ek zero with
    | some z => if fits ek z = true then match fillRow ek (List.replicate n z) H (parts.map fun p => (p.1, fr.opd p.2)) with
      | some (xs, H') => if fz then some (fr.put dst (.c (.frz ek xs)), H') else some (fr.put dst (.sl H'.length 0 0 n), H' ++ [.row false e ek 0 xs])
      | none => none
      else none
    | none => none
  | .lbox ek x => match dst with
    | some d => if fitsH ek (fr.opd x) = true then some ({ env := upd fr.env d (.lbox ek (fr.opd x)), al := noAl }, H) else none
    | none => none
  | .hbox ek x => if fitsH ek (fr.opd x) = true then some (fr.put dst (.ptr H.length 0), H ++ [.var ek (fr.opd x).flat]) else none
  | .b2s x => match (elemsH none (fr.opd x) H).bind bytesC with
    | some l => some (fr.put dst (.c (.str l)), H)
    | none => none
  | .mkf f first cap => some (fr.put dst (match closeAll (first.map fr.opd), closeAll (cap.map fr.opd) with
      | some a, some b => .c (.fn f a b)
      | _, _ => .fn f (first.map fr.opd) (cap.map fr.opd)), H)
  | .ext x i => match fr.opd x with
    | .tup vs => match vs[i]? with
      | some v => some (fr.put dst v, H)
      | none => none
    | _ => none
  | .cvt k x => match fr.opd x with
    | .c (.int _ n) => some (fr.put dst (.c (.int k (k.wrap n))), H)
    | _ => none
  | .mx isMax x y => match fr.opd x, fr.opd y with
    | .c (.int k a), .c (.int _ b) => some (fr.put dst (.c (.int k (if isMax then max a b else min a b))), H)
    | _, _ => none
  | .call _ _ => none
  | .callv _ _ => none

section
variable (E : Env) (call : CallF)

/-- What a function value is called with. -/
def targetOf (v : HV) (args : List HV) : Option (Nat × List HV) :=
  match v with
  | .c (.fn f first cap) => some (f, first.map .c ++ args ++ cap.map .c)
  | .fn f first cap => some (f, first ++ args ++ cap)
  | _ => none
def putCall (dst : Option Nat) (fr : Fr) : Option (HV × Heap) → Option (Fr × Heap)
  | some (v, H') => some (fr.put dst v, H')
  | none => none
def doOp (o : IOp) (dst : Option Nat) (fr : Fr) (H : Heap) : Option (Fr × Heap) :=
  match o with
  | .call f args => putCall dst fr (callWith E call f (args.map fr.opd) H)
  | .callv x args => match targetOf (fr.opd x) (args.map fr.opd) with
    | some (f, as) => putCall dst fr (callWith E call f as H)
    | none => none
  | o => doOp0 o dst fr H

def stp (o : IOper) (fr : Fr) (H : Heap) : Option (Fr × Heap) :=
  match o.guard with
  | none => doOp E call o.op o.dst fr H
  | some (s, want) => match fr.env s with
    | .c (.bool b) => if b = want then doOp E call o.op o.dst fr H else some (fr.put o.dst .skipv, H)
    | .skipv => some (fr.put o.dst .skipv, H)
    | _ => none

def evOps : List IOper → Fr → Heap → Option (Fr × Heap)
  | [], fr, H => some (fr, H)
  | o :: r, fr, H => match stp E call o fr H with
    | some (fr', H') => evOps r fr' H'
    | none => none

/-! Drawn regions: each operation keeps to its class, or there is no result. -/
def pureOp : IOp → Bool
  | .mv _ | .un _ _ | .bin _ _ _ | .eqs _ _ _ _ | .eqb _ _ _ | .pick _ _ _ | .faddr _ _ | .nck _ | .fld _ _ _ | .cvs _ | .six _ _ | .len _ _ | .build _ _ | .mkf _ _ _ | .ext _ _ | .cvt _ _ | .mx _ _ _ => true
  | _ => false
def dstOk (fr : Fr) : Option Nat → Bool
  | none => true
  | some d => match fr.env d with
    | .lbox _ _ => false
    | _ => true
def doD (c : Cls) (o : IOp) (dst : Option Nat) (fr : Fr) (H : Heap) : Option (Fr × Heap) :=
  match c with
  | .pure => match o with
    | .bsl fz e ek z n ps => if fz = true ∧ (ps.all fun p => (thaw1 [] (fr.opd p.2)).isSome) = true then doOp0 (.bsl fz e ek z n ps) dst fr H else none
    | o => if pureOp o = true then doOp0 o dst fr H else none
  | .rdb => match o with
    | .load ek a => if (fr.place a).isSome = true then doOp0 (.load ek a) dst fr H else none
    | _ => none
  | .wrb => match o with
    | .store ek a x => if (fr.place a).isSome = true ∧ dst = none then doOp0 (.store ek a x) dst fr H else none
    | _ => none
  | .rd => match o with
    | .load ek a => if (fr.place a).isSome = true then none else doOp0 (.load ek a) dst fr H
    | .ix ek x i => doOp0 (.ix ek x i) dst fr H
    | .slc st ek x lo hi => doOp0 (.slc st ek x lo hi) dst fr H
    | .call f args => if E.md f = .P then match callWith E call f (args.map fr.opd) H with
        | some (v, _) => if noRef v = true ∨ (args.map fr.opd).all isC = true then some (fr.put dst v, H) else none
        | none => none
      else none
    | _ => none
  | .wr => match o with
    | .store ek a x => if (fr.place a).isSome = true ∨ dst ≠ none then none else doOp0 (.store ek a x) dst fr H
    | .app e ek n s x => doOp0 (.app e ek n s x) dst fr H
    | .bsl fz e ek z n ps => doOp0 (.bsl fz e ek z n ps) dst fr H
    | .call f args => doOp E call (.call f args) dst fr H
    | .callv x args => doOp E call (.callv x args) dst fr H
    | _ => none
  | .hb => match o with
    | .hbox ek x => doOp0 (.hbox ek x) dst fr H
    | _ => none
def stpG (c : Cls) (o : IOper) (fr : Fr) (H : Heap) : Option (Fr × Heap) :=
  match o.guard with
  | none => doD E call c o.op o.dst fr H
  | some (s, want) => match fr.env s with
    | .c (.bool b) => if b = want then doD E call c o.op o.dst fr H else some (fr.put o.dst .skipv, H)
    | .skipv => some (fr.put o.dst .skipv, H)
    | _ => none
def stpD (c : Cls) (o : IOper) (fr : Fr) (H : Heap) : Option (Fr × Heap) :=
  if dstOk fr o.dst = true then match stpG E call c o fr H with
    | some (fr', H') => if dstOk fr' o.dst = true then some (fr', H') else none
    | none => none
  else none
def evOpsD : List (Cls × IOper) → Fr → Heap → Option (Fr × Heap)
  | [], fr, H => some (fr, H)
  | (c, o) :: r, fr, H => match stpD E call c o fr H with
    | some (fr', H') => evOpsD r fr' H'
    | none => none

inductive Ex where
  | nrm
  | exit (id : Nat)
  | goto (l : Nat)
  | ret

abbrev Run := Fr → Heap → Option (Ex × Fr × Heap)

/-- Inside a scope: going to its label is one more round, coming to its end leaves it. -/
def turnEx (l : Nat) : Option (Ex × Fr × Heap) → Option (Ex × Fr × Heap)
  | some (.goto l', fr, H) => if l' = l then some (.nrm, fr, H) else some (.goto l', fr, H)
  | some (.nrm, fr, H) => some (.goto l, fr, H)
  | r => r
def backEx (l : Nat) : Option (Ex × Fr × Heap) → Option (Ex × Fr × Heap)
  | some (.goto l', fr, H) => if l' = l then some (.nrm, fr, H) else some (.goto l', fr, H)
  | r => r

variable (it : Run → Run)

def evC : ICode → Run
  | .skip, fr, H => some (.nrm, fr, H)
  | .region ops, fr, H => match evOps E call ops { fr with al := noAl } H with
    | some (fr', H') => some (.nrm, fr', H')
    | none => none
  | .regionD ops, fr, H => match evOpsD E call ops { fr with al := noAl } H with
    | some (fr', H') => some (.nrm, fr', H')
    | none => none
  | .seq a b, fr, H => match evC a fr H with
    | some (.nrm, fr', H') => evC b fr' H'
    | r => r
  | .cond c x y, fr, H => match fr.opd c with
    | .c (.bool b) => if b then evC x fr H else evC y fr H
    | _ => none
  | .block id body, fr, H => match evC body fr H with
    | some (.exit i, fr', H') => if i = id then some (.nrm, fr', H') else some (.exit i, fr', H')
    | r => r
  | .loop live body, fr, H => it (fun fr H => evC body (keep live fr) H) fr H
  | .exit id, fr, H => some (.exit id, fr, H)
  | .scope l live body rest, fr, H => match evC body fr H with
    | some (.goto l', fr', H') => if l' = l then backEx l (it (fun fr H => turnEx l (evC rest (keep live fr) H)) fr' H') else some (.goto l', fr', H')
    | r => r
  | .label _, fr, H => some (.nrm, fr, H)
  | .goto l, fr, H => some (.goto l, fr, H)
  | .ret, fr, H => some (.ret, fr, H)

def resOf (fr : Fr) (H : Heap) : List IRes → Option (List HV)
  | [] => some []
  | .tmp t :: r => match resOf fr H r with
    | some l => some (unbox (fr.env t) :: l)
    | none => none
  | .cell a ek :: r =>
    match (match fr.env a with
      | .lbox ek' x => if ek' = ek then some x else none
      | p => loadH ek p H), resOf fr H r with
    | some v, some l => some (v :: l)
    | _, _ => none
def oneOf : List HV → HV
  | [v] => v
  | vs => .tup vs

def binds (i : Nat) : List HV → List (Nat × HV)
  | [] => []
  | v :: r => (i, v) :: binds (i + 1) r

def runFn (f : Nat) (args : List HV) (H : Heap) : Option (HV × Heap) :=
  match E.fn f with
  | none => none
  | some g => match evC E call it g.body { env := assoc (binds 0 args), al := noAl } H with
    | some (.nrm, fr, H') | some (.ret, fr, H') => match resOf fr H' g.res with
      | some vs => some (oneOf vs, H')
      | none => none
    | _ => none
end

/-! ### with rounds -/
def itF : Nat → Run → Run
  | 0, _, _, _ => none
  | n + 1, s, fr, H => match s fr H with
    | some (.nrm, fr', H') => itF n s fr' H'
    | r => r
def evF (E : Env) : Nat → CallF
  | 0, _, _, _ => none
  | n + 1, f, args, H => runFn E (evF E n) (itF n) f args H

end Go.Proofs.Lz
