/- The evaluator once more, with slices of one's own held as values in their places: definitions. -/
import Derived.Test.YtmjofajbfondhaaLzEv
namespace Go.Proofs.Lz

/-- A place that may hold a slice of one's own: a slot's (component, cell), a variable's cell, a result's. -/
inductive Pl where
  | sl (s i k : Nat)
  | hp (id k : Nat)
  | tmp (i k : Nat)
  deriving DecidableEq

inductive WV where
  | c (v : CV)
  | agg (cs : List WV)
  | tup (vs : List WV)
  | nils
  | own (b : Bool) (e : Nat) (ek : Option Nat) (xs : List CV)
  | view (pl : Pl) (b : Bool) (off : Nat) (e : Nat) (ek : Option Nat) (xs : List CV)
  | imm (fz : Bool) (ek : Option Nat) (xs : List CV)
  | ptr (id off : Nat)
  | eptr (pl : Pl) (i off : Nat) (ek : Option Nat) (x : CV)
  | iptr (fz : Bool) (ek : Option Nat) (x : CV) (off : Nat)
  | lbox (ek : Option Nat) (v : WV)
  | fn (f : Nat) (first cap : List WV)
  | skipv
  | undef
  | gone
  deriving Inhabited

inductive WO where
  | var (ek : Option Nat) (cs : List WV)
abbrev WHeap := List WO
structure WFr where
  env : Nat → WV
  al : Nat → Option (Nat × Nat)
def wassoc : List (Nat × WV) → Nat → WV
  | [], _ => .undef
  | (t, v) :: r, s => if s = t then v else wassoc r s

/-! ### reading -/
def peek1 (pl : Pl) : WV → WV
  | .own b e ek xs => .view pl b 0 e ek xs
  | v => v
def peekL (q : Nat → Pl) : Nat → List WV → List WV
  | _, [] => []
  | k, v :: r => peek1 (q k) v :: peekL q (k + 1) r
def peekC (q : Nat → Pl) : WV → WV
  | .agg cs => .agg (peekL q 0 cs)
  | v => peek1 (q 0) v
def peekT (q : Nat → Nat → Pl) : Nat → List WV → List WV
  | _, [] => []
  | i, v :: r => peekC (q i) v :: peekT q (i + 1) r
def peek (q : Nat → Nat → Pl) : WV → WV
  | .tup vs => .tup (peekT q 0 vs)
  | v => peekC (q 0) v
def wunbox : WV → WV
  | .lbox _ _ => .undef
  | v => v
def ofHV1 : HV → WV
  | .c v => .c v
  | .nils => .nils
  | .lbox _ _ => .gone
  | _ => .undef
def okW : WV → Bool
  | .gone => false
  | _ => true
def okA : WV → Bool
  | .gone => false
  | .tup _ => false
  | _ => true
def ofHV : HV → WV
  | .agg cs => if cs.all isC = true then .agg (cs.map ofHV1) else .gone
  | v => ofHV1 v
def WFr.rd (fr : WFr) : Opd → WV
  | .t i => peek (Pl.sl i) (wunbox (fr.env i))
  | .k v => ofHV v

/-! ### places taken, frozen -/
/-- What becomes of a value when the places K are emptied (or, fz, frozen). -/
def hit1 (K : Pl → Bool) (fz : Bool) (pl : Pl) : WV → WV
  | .own b e ek xs => if K pl = true then (if fz = true then .imm true ek xs else .gone) else .own b e ek xs
  | .view p b off e ek xs => if K p = true then .gone else .view p b off e ek xs
  | .eptr p i off ek x => if K p = true then .gone else .eptr p i off ek x
  | v => v
def hitL (K : Pl → Bool) (fz : Bool) (q : Nat → Pl) : Nat → List WV → List WV
  | _, [] => []
  | k, v :: r => hit1 K fz (q k) v :: hitL K fz q (k + 1) r
def hitC (K : Pl → Bool) (fz : Bool) (q : Nat → Pl) : WV → WV
  | .agg cs => .agg (hitL K fz q 0 cs)
  | v => hit1 K fz (q 0) v
def hitT (K : Pl → Bool) (fz : Bool) (q : Nat → Nat → Pl) : Nat → List WV → List WV
  | _, [] => []
  | i, v :: r => hitC K fz (q i) v :: hitT K fz q (i + 1) r
def hit (K : Pl → Bool) (fz : Bool) (q : Nat → Nat → Pl) : WV → WV
  | .tup vs => .tup (hitT K fz q 0 vs)
  | .lbox ek v => .lbox ek (hitC K fz (q 0) v)
  | v => hitC K fz (q 0) v
def inK (K : List Pl) (p : Pl) : Bool := K.any fun x => decide (x = p)
def hitF (K : Pl → Bool) (fz : Bool) (fr : WFr) : WFr := { fr with env := fun s => hit K fz (Pl.sl s) (fr.env s) }
/-- The heap's places among K. -/
def hitH (fz : Bool) : List Pl → WHeap → WHeap
  | [], H => H
  | .hp id k :: r, H => hitH fz r (match H[id]? with
    | some (.var ek cs) => H.set id (.var ek (match cs[k]? with
      | some v => cs.set k (hit1 (fun _ => true) fz (.hp id k) v)
      | none => cs))
    | none => H)
  | _ :: r, H => hitH fz r H
def hitAll (K : List Pl) (fz : Bool) (fr : WFr) (H : WHeap) : WFr × WHeap := match K with
  | [] => (fr, H)
  | K => (hitF (inK K) fz fr, hitH fz K H)

/-- The places that a value's views are of. -/
def src1 : WV → List Pl
  | .view p _ _ _ _ _ => [p]
  | _ => []
def srcL : List WV → List Pl
  | [] => []
  | v :: r => src1 v ++ srcL r
def srcC : WV → List Pl
  | .agg cs => srcL cs
  | v => src1 v
def srcT : List WV → List Pl
  | [] => []
  | v :: r => srcC v ++ srcT r
def srcs : WV → List Pl
  | .tup vs => srcT vs
  | v => srcC v
/-- Views as slices of one's own. -/
def ownIt1 : WV → WV
  | .view _ b _ e ek xs => .own b e ek xs
  | .eptr _ _ _ _ _ => .gone
  | v => v
def ownItC : WV → WV
  | .agg cs => .agg (cs.map ownIt1)
  | v => ownIt1 v
def ownIt : WV → WV
  | .tup vs => .tup (vs.map ownItC)
  | v => ownItC v

def hasOwn1 : WV → Bool
  | .own _ _ _ _ => true
  | _ => false
def hasOwnC : WV → Bool
  | .agg cs => cs.any hasOwn1
  | v => hasOwn1 v
def hasOwn : WV → Bool
  | .tup vs => vs.any hasOwnC
  | .lbox _ v => hasOwnC v
  | v => hasOwnC v
/-- No views in it. -/
def noView1 : WV → Bool
  | .view _ _ _ _ _ _ => false
  | .eptr _ _ _ _ _ => false
  | _ => true
def noViewC : WV → Bool
  | .agg cs => cs.all noView1
  | v => noView1 v
def noView : WV → Bool
  | .tup vs => vs.all noViewC
  | .lbox _ v => noViewC v
  | v => noViewC v

def isSlot (d : Nat) : Pl → Bool
  | .sl s _ _ => decide (s = d)
  | _ => false
/-- Some cells of a slot's, of a variable's. -/
def inSl (b off n : Nat) : Pl → Bool
  | .sl s i k => decide (s = b) && decide (i = 0) && decide (off ≤ k) && decide (k < off + n)
  | _ => false
def inHp (id off n : Nat) : Pl → Bool
  | .hp j k => decide (j = id) && decide (off ≤ k) && decide (k < off + n)
  | _ => false
def isHp : Pl → Bool
  | .hp _ _ => true
  | _ => false
/-- A value put into a slot. -/
def WFr.put1 (fr : WFr) (d : Nat) (v : WV) : WFr := { env := upd fr.env d v, al := upd fr.al d none }
def WFr.putD (fr : WFr) (d : Nat) (v : WV) : WFr :=
  if hasOwn v = true then (hitF (isSlot d) false fr).put1 d v else fr.put1 d v
def WFr.put (fr : WFr) (dst : Option Nat) (v : WV) : WFr := match dst with
  | none => fr
  | some d => fr.putD d v
def WFr.link (fr : WFr) (dst : Option Nat) (b off : Nat) : WFr := match dst with
  | none => fr
  | some d => { env := upd fr.env d .undef, al := upd fr.al d (some (b, off)) }
def wlinkTo (dst : Option Nat) (b off : Nat) (fr : WFr) (H : WHeap) : Option (WFr × WHeap) := if dst = some b then none else some (fr.link dst b off, H)
def WFr.place (fr : WFr) (x : Opd) : Option (Nat × Nat) := match x with
  | .k _ => none
  | .t i => match fr.al i with
    | some (b, off) => match fr.env b with
      | .lbox _ _ => some (b, off)
      | _ => none
    | none => match fr.env i with
      | .lbox _ _ => some (i, 0)
      | _ => none

/-- Taken as one's own: the value, and the state without it. -/
def take (v : WV) (fr : WFr) (H : WHeap) : Option (WV × WFr × WHeap) :=
  if (srcs v).Nodup then match hitAll (srcs v) false fr H with
    | (fr', H') => some (ownIt v, fr', H')
  else none

/-! ### values -/
def wint : WV → Option Int
  | .c (.int _ n) => some n
  | _ => none
def closeAllW : List WV → Option (List CV)
  | [] => some []
  | .c v :: r => match closeAllW r with
    | some l => some (v :: l)
    | none => none
  | _ :: _ => none
def mkAggW (cs : List WV) : WV := match closeAllW cs with
  | some l => .c (.agg l)
  | none => .agg cs
def WV.flat : WV → List WV
  | .agg cs => cs
  | .c (.agg l) => l.map .c
  | .undef => []
  | .gone => []
  | v => [v]
def aggW : WV → Option (List WV)
  | .agg cs => some cs
  | .c (.agg l) => some (l.map .c)
  | _ => none
/-- A cell that a struct may hold, and keep. -/
def cellW : WV → Bool
  | .c (.agg _) => false
  | .c _ => true
  | .nils => true
  | .own _ _ _ _ => true
  | .view _ _ _ _ _ _ => true
  | .imm fz _ _ => fz
  | .ptr _ _ => true
  | .fn _ _ _ => true
  | _ => false
/-- What may leave a call. -/
def cellB : WV → Bool
  | .imm false _ _ => true
  | v => cellW v
def fitsW : Option Nat → WV → Bool
  | none, v => cellW v
  | some n, .c v => fits (some n) v
  | some n, .agg cs => cs.length == n && cs.all cellW
  | _, _ => false
def partW (ek : Option Nat) (cs : List WV) (off : Nat) : Option WV := match ek with
  | none => cs[off]?
  | some n => if off + n ≤ cs.length then some (mkAggW ((cs.drop off).take n)) else none
def setPartW (cs : List WV) (off : Nat) (new : List WV) : List WV := cs.take off ++ new ++ cs.drop (off + new.length)
def unflatW (ek : Option Nat) (cs : List WV) : Option WV := match ek with
  | none => cs[0]?
  | some _ => some (mkAggW cs)
def elemsW (ek : Option Nat) : WV → Option (List CV)
  | .nils => some []
  | .c (.frz _ []) => some []
  | .c (.frz ek' xs) => if ek' = ek then some xs else none
  | .view _ _ _ _ ek' xs => if ek' = ek then some xs else none
  | .imm _ ek' xs => if ek' = ek then some xs else none
  | _ => none
def lenW (st : Bool) : WV → Option Nat
  | .c (.str s) => if st then some s.length else none
  | .c (.frz _ xs) => if st then none else some xs.length
  | .nils => if st then none else some 0
  | .view _ _ _ _ _ xs => if st then none else some xs.length
  | .imm _ _ xs => if st then none else some xs.length
  | _ => none
def ixW (ek : Option Nat) (x : WV) (i : Int) : Option WV := match x with
  | .c (.frz ek' xs) => if ek' = ek ∧ 0 ≤ i then match xs[i.toNat]? with
      | some v => some (.c (.fptr ek v 0))
      | none => none
    else none
  | .view pl _ off _ ek' xs => if ek' = ek ∧ 0 ≤ i then match xs[i.toNat]? with
      | some v => some (.eptr pl (off + i.toNat) 0 ek v)
      | none => none
    else none
  | .imm fz ek' xs => if ek' = ek ∧ 0 ≤ i then match xs[i.toNat]? with
      | some v => some (.iptr fz ek v 0)
      | none => none
    else none
  | _ => none
def subL {α : Type} (xs : List α) (l h : Int) : List α := (xs.drop l.toNat).take (h.toNat - l.toNat)
def slcW (st : Bool) (ek : Option Nat) (x : WV) (lo hi : Option Int) : Option WV := match x with
  | .c (.str s) =>
    let l := lo.getD 0
    let h := hi.getD s.length
    if st = true ∧ 0 ≤ l ∧ l ≤ h ∧ h ≤ s.length then some (.c (.str ((s.drop l.toNat).take (h.toNat - l.toNat)))) else none
  | .c (.frz ek' xs) =>
    let l := lo.getD 0
    let h := hi.getD xs.length
    if st = false ∧ (ek' = ek ∨ xs = []) ∧ 0 ≤ l ∧ l ≤ h ∧ h ≤ xs.length then some (.c (.frz ek' ((xs.drop l.toNat).take (h.toNat - l.toNat)))) else none
  | .nils =>
    let l := lo.getD 0
    let h := hi.getD 0
    if st = false ∧ 0 ≤ l ∧ l ≤ h ∧ h ≤ 0 then some .nils else none
  | .view pl b off e ek' xs =>
    let l := lo.getD 0
    let h := hi.getD xs.length
    if ek' = ek ∧ st = false ∧ 0 ≤ l ∧ l ≤ h ∧ h ≤ xs.length then some (.view pl (b && decide (l = 0)) (off + l.toNat) e ek' ((xs.drop l.toNat).take (h.toNat - l.toNat))) else none
  | .imm fz ek' xs =>
    let l := lo.getD 0
    let h := hi.getD xs.length
    if ek' = ek ∧ st = false ∧ 0 ≤ l ∧ l ≤ h ∧ h ≤ xs.length then some (.imm fz ek' ((xs.drop l.toNat).take (h.toNat - l.toNat))) else none
  | _ => none

/-- Closed for good: the value, and the places that freeze. -/
def close1 : WV → Option (CV × List Pl)
  | .c u => some (u, [])
  | .nils => some (.frz none [], [])
  | .view p _ _ _ ek xs => some (.frz ek xs, [p])
  | .imm true ek xs => some (.frz ek xs, [])
  | _ => none
def closeL : List WV → Option (List CV × List Pl)
  | [] => some ([], [])
  | v :: r => match close1 v, closeL r with
    | some (u, p), some (l, ps) => some (u :: l, p ++ ps)
    | _, _ => none
def closeW : WV → Option (CV × List Pl)
  | .agg cs => match closeL cs with
    | some (l, ps) => some (.agg l, ps)
    | none => none
  | v => close1 v

def loadW (ek : Option Nat) (p : WV) (H : WHeap) : Option WV := match p with
  | .c (.fptr ek' x off) => (readC ek' ek x off).map .c
  | .ptr id off => match H[id]? with
    | some (.var _ cs) => partW ek (peekL (Pl.hp id) 0 cs) off
    | none => none
  | .eptr _ _ off ek' x => (readC ek' ek x off).map .c
  | .iptr _ ek' x off => (readC ek' ek x off).map .c
  | _ => none

/-- A new element of the slice that a place holds. -/
def setEl1 (i : Nat) (f : CV → Option CV) : WV → Option WV
  | .own b e ek xs => match xs[i]? with
    | some x => match f x with
      | some x' => some (.own b e ek (xs.set i x'))
      | none => none
    | none => none
  | _ => none
def setElL (i : Nat) (f : CV → Option CV) : Nat → List WV → Option (List WV)
  | 0, v :: r => match setEl1 i f v with
    | some v' => some (v' :: r)
    | none => none
  | k + 1, v :: r => match setElL i f k r with
    | some r' => some (v :: r')
    | none => none
  | _, [] => none
def setElC (i k : Nat) (f : CV → Option CV) : WV → Option WV
  | .agg cs => match setElL i f k cs with
    | some cs' => some (.agg cs')
    | none => none
  | v => if k = 0 then setEl1 i f v else none
def setElS (i k : Nat) (f : CV → Option CV) : WV → Option WV
  | .lbox ek v => match setElC i k f v with
    | some v' => some (.lbox ek v')
    | none => none
  | v => setElC i k f v
def setElP (pl : Pl) (i : Nat) (f : CV → Option CV) (fr : WFr) (H : WHeap) : Option (WFr × WHeap) := match pl with
  | .sl s 0 k => match setElS i k f (fr.env s) with
    | some v => some ({ fr with env := upd fr.env s v }, H)
    | none => none
  | .hp id k => match H[id]? with
    | some (.var ek cs) => match setElL i f k cs with
      | some cs' => some (fr, H.set id (.var ek cs'))
      | none => none
    | none => none
  | _ => none
/-- A part of an element. -/
def putEl (ek : Option Nat) (u : CV) (ek' : Option Nat) (off : Nat) (x : CV) : Option CV :=
  if fits ek u = true then
    if off = 0 ∧ ek' = ek then some u
    else if off + u.flat.length ≤ x.flat.length then match unflat ek' (setPartC x.flat off u.flat) with
      | some x' => if fits ek' x' = true then some x' else none
      | none => none
    else none
  else none
/-- Views of a place go; what it holds stays. -/
def blind1 (p : Pl) : WV → WV
  | .view p' b off e ek xs => if p' = p then .gone else .view p' b off e ek xs
  | .eptr p' i off ek x => if p' = p then .gone else .eptr p' i off ek x
  | v => v
def blindC (p : Pl) : WV → WV
  | .agg cs => .agg (cs.map (blind1 p))
  | v => blind1 p v
def blind (p : Pl) : WV → WV
  | .tup vs => .tup (vs.map (blindC p))
  | .lbox ek v => .lbox ek (blindC p v)
  | v => blindC p v
def blindF (p : Pl) (fr : WFr) : WFr := { fr with env := fun s => blind p (fr.env s) }

def storeW (ek : Option Nat) (p : WV) (v : WV) (fr : WFr) (H : WHeap) : Option (WFr × WHeap) := match p with
  | .ptr id off => if fitsW ek v = true then match take v fr H with
    | none => none
    | some (v', fr1, H1) => match H1[id]? with
      | some (.var ek' cs) =>
        if off + v'.flat.length ≤ cs.length then
          some (if v'.flat.any hasOwn1 = true then hitF (inHp id off v'.flat.length) false fr1 else fr1, H1.set id (.var ek' (setPartW cs off v'.flat)))
        else none
      | none => none
    else none
  | .eptr pl i off ek' _ => match closeW v with
    | some (u, ps) => match hitAll ps true fr H with
      | (fr1, H1) => match setElP pl i (putEl ek u ek' off) fr1 H1 with
        | some (fr2, H2) => some (blindF pl fr2, H2)
        | none => none
    | none => none
  | _ => none

def appW (e : Nat) (ek : Option Nat) (bytes : Nat) (s x : WV) (dst : Option Nat) (fr : WFr) (H : WHeap) : Option (WFr × WHeap) :=
  match elemsW ek x with
  | none => none
  | some new => match s with
    | .nils => if new = [] then some (fr.put dst .nils, H) else if new.length * bytes ≤ lim ∧ new.length ≤ lim then some (fr.put dst (.own true e ek new), H) else none
    | .view pl true 0 e' ek' xs =>
      if e' = e ∧ ek' = ek ∧ (xs.length + new.length) * bytes ≤ lim ∧ xs.length + new.length ≤ lim then
        match hitAll [pl] false fr H with
        | (fr1, H1) => some (fr1.put dst (.own true e ek (xs ++ new)), H1)
      else none
    | _ => none

def fitsB : Option Nat → WV → Bool
  | none, v => cellB v
  | some n, .c v => fits (some n) v
  | some n, .agg cs => cs.length == n && cs.all cellB
  | _, _ => false
def fitsWN (n : Nat) (v : WV) : Bool := fitsB (some n) v || (n == 1 && fitsB none v)
def fillW (cs : List WV) : List (Nat × Nat × WV) → Option (List WV)
  | [] => some cs
  | (off, n, v) :: r => if fitsWN n v = true ∧ off + n ≤ cs.length then fillW (setPartW cs off v.flat) r else none
def fillRowW (ek : Option Nat) (xs : List CV) : List (Nat × WV) → Option (List CV × List Pl)
  | [] => some (xs, [])
  | (i, v) :: r => match closeW v with
    | some (u, ps) => if i < xs.length ∧ fits ek u = true then match fillRowW ek (xs.set i u) r with
        | some (l, qs) => some (l, ps ++ qs)
        | none => none
      else none
    | none => none
def woptI (fr : WFr) : Option Opd → Option (Option Int)
  | none => some none
  | some x => match wint (fr.rd x) with
    | some i => some (some i)
    | none => none
/-- A value with no way into memory but variables. -/
def plainW : WV → Bool
  | .c _ => true
  | .nils => true
  | .ptr _ _ => true
  | _ => false
/-- Views of the slot itself, or of the place it goes to, become one's own; others stay. -/
def mineP (s d : Nat) : Pl → Bool
  | .sl t _ _ => decide (t = s) || decide (t = d)
  | _ => false
def moveW (d s : Nat) (v : WV) (fr : WFr) (H : WHeap) : Option (WFr × WHeap) :=
  match srcs v with
  | [] => some (fr.put (some d) v, H)
  | ps => if ps.all (mineP s d) = true then match take v fr H with
      | some (v', fr', H') => some (fr'.put (some d) v', H')
      | none => none
    else some (fr.put (some d) v, H)
def wput (dst : Option Nat) (fr : WFr) (H : WHeap) : Option WV → Option (WFr × WHeap)
  | some v => some (fr.put dst v, H)
  | none => none

def wOp0 (o : IOp) (dst : Option Nat) (fr : WFr) (H : WHeap) : Option (WFr × WHeap) :=
  match o with
  | .mv x => match fr.place x with
    | some (b, off) => wlinkTo dst b off fr H
    | none => if okW (fr.rd x) = true then match dst, x with
      | some d, .t s => if d < s then moveW d s (fr.rd x) fr H else some (fr.put dst (fr.rd x), H)
      | _, _ => some (fr.put dst (fr.rd x), H)
      else none
  | .un op x => match fr.rd x with
    | .c a => wput dst fr H ((unC op a).map .c)
    | _ => none
  | .bin op x y => match fr.rd x, fr.rd y with
    | .c a, .c b => wput dst fr H ((binC op a b).map .c)
    | _, _ => none
  | .eqs neg ks x y => match fr.rd x, fr.rd y with
    | .c (.agg a), .c (.agg b) => wput dst fr H ((eqL ks a b).map fun v => .c (.bool (if neg then !v else v)))
    | _, _ => none
  | .eqb neg x y => match fr.rd x, fr.rd y with
    | .c (.bool a), .c (.bool b) => some (fr.put dst (.c (.bool (if neg then !(a == b) else a == b))), H)
    | _, _ => none
  | .pick c a b => match fr.rd c with
    | .c (.bool t) => if okW (if t then fr.rd a else fr.rd b) = true then some (fr.put dst (if t then fr.rd a else fr.rd b), H) else none
    | _ => none
  | .load ek a => match fr.place a with
    | some (b, off) => match fr.env b with
      | .lbox ek' x => wput dst fr H (if off = 0 ∧ ek' = ek then some (peekC (Pl.sl b 0) x) else partW ek (peekC (Pl.sl b 0) x).flat off)
      | _ => none
    | none => wput dst fr H (loadW ek (fr.rd a) H)
  | .store ek a x => match fr.place a with
    | some (b, off) =>
      if fitsW ek (fr.rd x) = true then match take (fr.rd x) fr H with
        | none => none
        | some (v', fr1, H1) => match fr1.env b with
          | .lbox ek' x0 =>
            if off = 0 ∧ ek' = ek then some ({ env := upd (hitF (isSlot b) false fr1).env b (.lbox ek' v'), al := fr1.al }, H1)
            else if off + v'.flat.length ≤ x0.flat.length ∧ noViewC x0 = true ∧ x0.flat.isEmpty = false then
              match unflatW ek' (setPartW x0.flat off v'.flat) with
              | some x' => if fitsW ek' x' = true then some ({ env := upd (hitF (inSl b off v'.flat.length) false fr1).env b (.lbox ek' x'), al := fr1.al }, H1) else none
              | none => none
            else none
          | _ => none
      else none
    | none => match fr.rd a, dst with
      | p, none => storeW ek p (fr.rd x) fr H
      | _, _ => none
  | .faddr n a => match fr.place a with
    | some (b, off) => wlinkTo dst b (off + n) fr H
    | none => match fr.rd a with
      | .ptr id off => some (fr.put dst (.ptr id (off + n)), H)
      | .eptr pl i off ek x => some (fr.put dst (.eptr pl i (off + n) ek x), H)
      | .iptr fz ek x off => some (fr.put dst (.iptr fz ek x (off + n)), H)
      | .c (.fptr ek x off) => some (fr.put dst (.c (.fptr ek x (off + n))), H)
      | _ => none
  | .nck a => match fr.place a with
    | some (b, off) => wlinkTo dst b off fr H
    | none => match fr.rd a with
      | .ptr id off => some (fr.put dst (.ptr id off), H)
      | .eptr pl i off ek x => some (fr.put dst (.eptr pl i off ek x), H)
      | .iptr fz ek x off => some (fr.put dst (.iptr fz ek x off), H)
      | .c (.fptr ek x off) => some (fr.put dst (.c (.fptr ek x off)), H)
      | _ => none
  | .fld ek off x => match aggW (fr.rd x) with
    | some cs => wput dst fr H (partW ek cs off)
    | none => none
  | .cvs x => match fr.rd x with
    | .c (.str s) => some (fr.put dst (.c (.str s)), H)
    | _ => none
  | .ix ek x i => match wint (fr.rd i) with
    | some n => wput dst fr H (ixW ek (fr.rd x) n)
    | none => none
  | .six x i => match fr.rd x, wint (fr.rd i) with
    | .c (.str s), some n => if 0 ≤ n then match s[n.toNat]? with
        | some b => some (fr.put dst (.c (.int .u8 b.toNat)), H)
        | none => none
      else none
    | _, _ => none
  | .slc st ek x lo hi => match woptI fr lo, woptI fr hi with
    | some l, some h => wput dst fr H (slcW st ek (fr.rd x) l h)
    | _, _ => none
  | .len st x => match lenW st (fr.rd x) with
    | some n => some (fr.put dst (.c (.int .i64 n)), H)
    | none => none
  | .app e ek bytes s x => appW e ek bytes (fr.rd s) (fr.rd x) dst fr H
  | .build zero parts => if zero.all isC = true then match fillW (zero.map ofHV1) (parts.map fun p => (p.1, p.2.1, fr.rd p.2.2)) with
    | some cs => some (fr.put dst (mkAggW cs), H)
    | none => none
    else none
  | .bsl fz e ek zero n parts => match unflat ek zero with
    | some z => if fits ek z = true then match fillRowW ek (List.replicate n z) (parts.map fun p => (p.1, fr.rd p.2)) with
      | some (xs, ps) => match hitAll ps true fr H with
        | (fr1, H1) => some (fr1.put dst (if fz then .c (.frz ek xs) else .own true e ek xs), H1)
      | none => none
      else none
    | none => none
  | .lbox ek x => match dst with
    | some d => if fitsW ek (fr.rd x) = true then match take (fr.rd x) fr H with
        | some (v, fr1, H1) => some ({ env := upd (hitF (isSlot d) false fr1).env d (.lbox ek v), al := noAl }, H1)
        | none => none
      else none
    | none => none
  | .hbox ek x => if fitsW ek (fr.rd x) = true then match take (fr.rd x) fr H with
      | some (v, fr1, H1) => some (fr1.put dst (.ptr H1.length 0), H1 ++ [.var ek v.flat])
      | none => none
    else none
  | .b2s x => match (elemsW none (fr.rd x)).bind bytesC with
    | some l => some (fr.put dst (.c (.str l)), H)
    | none => none
  | .mkf f first cap =>
    let a := first.map fr.rd
    let b := cap.map fr.rd
    if a.all plainW = true ∧ b.all plainW = true then some (fr.put dst (match closeAllW a, closeAllW b with
      | some x, some y => .c (.fn f x y)
      | _, _ => .fn f a b), H) else none
  | .ext x i => match x with
    | .t s => match fr.env s with
      | .tup vs => match vs[i]? with
        | some v => match take (peekC (Pl.sl s i) v) fr H with
          | some (v', fr', H') => some (fr'.put dst v', H')
          | none => none
        | none => none
      | _ => none
    | .k _ => none
  | .cvt k x => match fr.rd x with
    | .c (.int _ n) => some (fr.put dst (.c (.int k (k.wrap n))), H)
    | _ => none
  | .mx isMax x y => match fr.rd x, fr.rd y with
    | .c (.int k a), .c (.int _ b) => some (fr.put dst (.c (.int k (if isMax then max a b else min a b))), H)
    | _, _ => none
  | .call _ _ => none
  | .callv _ _ => none

/-! ### calls -/
abbrev WCallF := Nat → List WV → WHeap → Option (WV × WHeap)
structure WEnv where
  fn : Nat → Option IFn
  md : Nat → Md
  tk : Nat → List Nat

def thawW0 : WV → Option CV
  | .c v => some v
  | .nils => some (.frz none [])
  | .view _ _ _ _ ek xs => some (.frz ek xs)
  | .imm _ ek xs => some (.frz ek xs)
  | _ => none
def thawW0L : List WV → Option (List CV)
  | [] => some []
  | x :: r => match thawW0 x, thawW0L r with
    | some a, some b => some (a :: b)
    | _, _ => none
def thawW1 : WV → Option CV
  | .agg cs => match thawW0L cs with
    | some l => some (.agg l)
    | none => none
  | v => thawW0 v
def thawWP (H : WHeap) : WV → Option CV
  | .ptr id off => match H[id]? with
    | some (.var ek cs) => match thawW0L (peekL (Pl.hp id) 0 cs) with
      | some l => if l.length = ekSize ek then match unflat ek l with
        | some x => some (.fptr ek x off)
        | none => none
        else none
      | none => none
    | none => none
  | v => thawW1 v
def thawWPL (H : WHeap) : List WV → Option (List CV)
  | [] => some []
  | x :: r => match thawWP H x, thawWPL H r with
    | some a, some b => some (a :: b)
    | _, _ => none
def thawW (H : WHeap) : WV → Option CV
  | .fn f first cap => match thawWPL H first, thawWPL H cap with
    | some a, some b => some (.fn f a b)
    | _, _ => none
  | v => thawWP H v
def thawWs (H : WHeap) : List WV → Option (List WV)
  | [] => some []
  | x :: r => match thawW H x, thawWs H r with
    | some a, some b => some (.c a :: b)
    | _, _ => none
/-- A result, closed: slices of its own too. -/
def shut1 : WV → Option CV
  | .own _ _ ek xs => some (.frz ek xs)
  | v => thawW0 v
def shutL : List WV → Option (List CV)
  | [] => some []
  | x :: r => match shut1 x, shutL r with
    | some a, some b => some (a :: b)
    | _, _ => none
def shutC : WV → Option CV
  | .agg cs => match shutL cs with
    | some l => some (.agg l)
    | none => none
  | v => shut1 v
def shutT : List WV → Option (List WV)
  | [] => some []
  | x :: r => match shutC x, shutT r with
    | some a, some b => some (.c a :: b)
    | _, _ => none
def shut : WV → Option WV
  | .tup vs => match shutT vs with
    | some l => some (.tup l)
    | none => none
  | v => match shutC v with
    | some u => some (.c u)
    | none => none
def isCW : WV → Bool
  | .c _ => true
  | .nils => true
  | _ => false
def noRefW : WV → Bool
  | .c (.agg l) => l.all plainC
  | .c v => plainC v
  | .tup vs => noRefWL vs
  | _ => false
where noRefWL : List WV → Bool
  | [] => true
  | .c (.agg l) :: r => l.all plainC && noRefWL r
  | .c v :: r => plainC v && noRefWL r
  | _ :: _ => false
def noFnW : WV → Bool
  | .fn _ _ _ => false
  | .ptr _ _ => false
  | _ => true
/-- Slices that are only lent, told in no place. -/
def lent1 : WV → Bool
  | .imm false _ _ => true
  | .eptr _ _ _ _ _ => true
  | .iptr _ _ _ _ => true
  | _ => false
def lentC : WV → Bool
  | .agg cs => cs.any lent1
  | v => lent1 v

/-- Lent to a call that shares the memory, or taken by it. -/
def lend1 : WV → WV
  | .view (.sl _ _ _) _ _ _ ek xs => .imm false ek xs
  | .view (.hp id k) b off e ek xs => .view (.hp id k) b off e ek xs
  | .view (.tmp _ _) _ _ _ _ _ => .gone
  | .eptr (.sl _ _ _) _ off ek x => .iptr false ek x off
  | .eptr (.tmp _ _) _ _ _ _ => .gone
  | .own _ _ _ _ => .gone
  | v => v
def lendC : WV → WV
  | .agg cs => .agg (cs.map lend1)
  | .tup _ => .undef
  | .lbox _ _ => .undef
  | v => lend1 v
def give1 : WV → WV
  | .view _ b _ e ek xs => .own b e ek xs
  | .eptr _ _ _ _ _ => .gone
  | .own _ _ _ _ => .gone
  | v => v
def giveC : WV → WV
  | .agg cs => .agg (cs.map give1)
  | .tup _ => .undef
  | .lbox _ _ => .undef
  | v => give1 v
def srcAll : List WV → List Pl
  | [] => []
  | v :: r => srcC v ++ srcAll r
/-- The places that the taken arguments' views are of, and the lent ones'. -/
def takenS (tk : List Nat) : Nat → List WV → List Pl
  | _, [] => []
  | j, v :: r => (if tk.contains j = true then srcC v else []) ++ takenS tk (j + 1) r
def usesP1 : WV → List Pl
  | .view p _ _ _ _ _ => [p]
  | .eptr p _ _ _ _ => [p]
  | _ => []
def usesPC : WV → List Pl
  | .agg cs => cs.flatMap usesP1
  | v => usesP1 v
def lentS (tk : List Nat) : Nat → List WV → List Pl
  | _, [] => []
  | j, v :: r => (if tk.contains j = true then [] else usesPC v) ++ lentS tk (j + 1) r
def passW (tk : List Nat) : Nat → List WV → List WV
  | _, [] => []
  | j, v :: r => (if tk.contains j = true then giveC v else lendC v) :: passW tk (j + 1) r
section
variable (E : WEnv) (call : WCallF)

def wcallTo (f : Nat) (args : List WV) (dst : Option Nat) (fr : WFr) (H : WHeap) : Option (WFr × WHeap) :=
  match E.md f with
  | .S =>
    if args.all okA = true ∧ (takenS (E.tk f) 0 args).Nodup ∧ (takenS (E.tk f) 0 args).all (fun p => !(lentS (E.tk f) 0 args).contains p) = true then
      match hitAll (takenS (E.tk f) 0 args) false fr H with
      | (fr1, H1) => match call f (passW (E.tk f) 0 args) H1 with
        | none => none
        | some (r, H2) => some ((hitF isHp false fr1).put dst r, H2)
    else none
  | .P => match thawWs H args with
    | none => none
    | some as => match call f as [] with
      | none => none
      | some (r, _) => match shut r with
        | none => none
        | some r' =>
          if args.all isCW || noRefW r' then some (fr.put dst r', H)
          else if args.all noFnW && !args.any lentC then match hitAll (srcAll args) true fr H with
            | (fr1, H1) => some (fr1.put dst r', H1)
          else none

def wtarget (v : WV) (args : List WV) : Option (Nat × List WV) := match v with
  | .c (.fn f first cap) => some (f, first.map .c ++ args ++ cap.map .c)
  | .fn f first cap => some (f, first ++ args ++ cap)
  | _ => none
def wOp (o : IOp) (dst : Option Nat) (fr : WFr) (H : WHeap) : Option (WFr × WHeap) := match o with
  | .call f args => wcallTo E call f (args.map fr.rd) dst fr H
  | .callv x args => match wtarget (fr.rd x) (args.map fr.rd) with
    | some (f, as) => wcallTo E call f as dst fr H
    | none => none
  | o => wOp0 o dst fr H
def wStp (o : IOper) (fr : WFr) (H : WHeap) : Option (WFr × WHeap) := match o.guard with
  | none => wOp E call o.op o.dst fr H
  | some (s, want) => match fr.env s with
    | .c (.bool b) => if b = want then wOp E call o.op o.dst fr H else some (fr.put o.dst .skipv, H)
    | .skipv => some (fr.put o.dst .skipv, H)
    | _ => none
def wOps : List IOper → WFr → WHeap → Option (WFr × WHeap)
  | [], fr, H => some (fr, H)
  | o :: r, fr, H => match wStp E call o fr H with
    | some (fr', H') => wOps r fr' H'
    | none => none
def wdstOk (fr : WFr) : Option Nat → Bool
  | none => true
  | some d => match fr.env d with
    | .lbox _ _ => false
    | _ => true
def wD (c : Cls) (o : IOp) (dst : Option Nat) (fr : WFr) (H : WHeap) : Option (WFr × WHeap) :=
  match c with
  | .pure => match o with
    | .bsl fz e ek z n ps => if fz = true ∧ (ps.all fun p => isCW (fr.rd p.2)) = true then wOp0 (.bsl fz e ek z n ps) dst fr H else none
    | o => if pureOp o = true then wOp0 o dst fr H else none
  | .rdb => match o with
    | .load ek a => if (fr.place a).isSome = true then wOp0 (.load ek a) dst fr H else none
    | _ => none
  | .wrb => match o with
    | .store ek a x => if (fr.place a).isSome = true ∧ dst = none then wOp0 (.store ek a x) dst fr H else none
    | _ => none
  | .rd => match o with
    | .load ek a => if (fr.place a).isSome = true then none else wOp0 (.load ek a) dst fr H
    | .ix ek x i => wOp0 (.ix ek x i) dst fr H
    | .slc st ek x lo hi => wOp0 (.slc st ek x lo hi) dst fr H
    | .call f args => match E.md f with
      | .P => match thawWs H (args.map fr.rd) with
        | none => none
        | some as => match call f as [] with
          | none => none
          | some (r, _) => match shut r with
            | none => none
            | some r' => if noRefW r' = true ∨ (args.map fr.rd).all isCW = true then some (fr.put dst r', H) else none
      | .S => none
    | _ => none
  | .wr => match o with
    | .store ek a x => if (fr.place a).isSome = true ∨ dst ≠ none then none else wOp0 (.store ek a x) dst fr H
    | .app e ek n s x => wOp0 (.app e ek n s x) dst fr H
    | .bsl fz e ek z n ps => wOp0 (.bsl fz e ek z n ps) dst fr H
    | .call f args => wOp E call (.call f args) dst fr H
    | .callv x args => wOp E call (.callv x args) dst fr H
    | _ => none
  | .hb => match o with
    | .hbox ek x => wOp0 (.hbox ek x) dst fr H
    | _ => none
def wStpG (c : Cls) (o : IOper) (fr : WFr) (H : WHeap) : Option (WFr × WHeap) :=
  match o.guard with
  | none => wD E call c o.op o.dst fr H
  | some (s, want) => match fr.env s with
    | .c (.bool b) => if b = want then wD E call c o.op o.dst fr H else some (fr.put o.dst .skipv, H)
    | .skipv => some (fr.put o.dst .skipv, H)
    | _ => none
def wStpD (c : Cls) (o : IOper) (fr : WFr) (H : WHeap) : Option (WFr × WHeap) :=
  if wdstOk fr o.dst = true then match wStpG E call c o fr H with
    | some (fr', H') => if wdstOk fr' o.dst = true then some (fr', H') else none
    | none => none
  else none
def wOpsD : List (Cls × IOper) → WFr → WHeap → Option (WFr × WHeap)
  | [], fr, H => some (fr, H)
  | (c, o) :: r, fr, H => match wStpD E call c o fr H with
    | some (fr', H') => wOpsD r fr' H'
    | none => none

abbrev WRun := WFr → WHeap → Option (Ex × WFr × WHeap)
def wturnEx (l : Nat) : Option (Ex × WFr × WHeap) → Option (Ex × WFr × WHeap)
  | some (.goto l', fr, H) => if l' = l then some (.nrm, fr, H) else some (.goto l', fr, H)
  | some (.nrm, fr, H) => some (.goto l, fr, H)
  | r => r
def wbackEx (l : Nat) : Option (Ex × WFr × WHeap) → Option (Ex × WFr × WHeap)
  | some (.goto l', fr, H) => if l' = l then some (.nrm, fr, H) else some (.goto l', fr, H)
  | r => r
/-- Slots that are not read again go, and views of them. -/
def deadP (live : List Nat) : Pl → Bool
  | .sl s _ _ => !live.contains s
  | _ => false
def wkeep (live : List Nat) (fr : WFr) : WFr := { env := wassoc (live.map fun s => (s, hit (deadP live) false (Pl.sl s) (fr.env s))), al := noAl }

variable (it : WRun → WRun)
def wC : ICode → WRun
  | .skip, fr, H => some (.nrm, fr, H)
  | .region ops, fr, H => match wOps E call ops { fr with al := noAl } H with
    | some (fr', H') => some (.nrm, fr', H')
    | none => none
  | .regionD ops, fr, H => match wOpsD E call ops { fr with al := noAl } H with
    | some (fr', H') => some (.nrm, fr', H')
    | none => none
  | .seq a b, fr, H => match wC a fr H with
    | some (.nrm, fr', H') => wC b fr' H'
    | r => r
  | .cond c x y, fr, H => match fr.rd c with
    | .c (.bool b) => if b then wC x fr H else wC y fr H
    | _ => none
  | .block id body, fr, H => match wC body fr H with
    | some (.exit i, fr', H') => if i = id then some (.nrm, fr', H') else some (.exit i, fr', H')
    | r => r
  | .loop live body, fr, H => it (fun fr H => wC body (wkeep live fr) H) fr H
  | .exit id, fr, H => some (.exit id, fr, H)
  | .scope l live body rest, fr, H => match wC body fr H with
    | some (.goto l', fr', H') => if l' = l then wbackEx l (it (fun fr H => wturnEx l (wC rest (wkeep live fr) H)) fr' H') else some (.goto l', fr', H')
    | r => r
  | .label _, fr, H => some (.nrm, fr, H)
  | .goto l, fr, H => some (.goto l, fr, H)
  | .ret, fr, H => some (.ret, fr, H)

def wbinds (i : Nat) : List WV → List (Nat × WV)
  | [] => []
  | v :: r => (i, v) :: wbinds (i + 1) r
def wresOf (fr : WFr) (H : WHeap) : List IRes → Option (List WV)
  | [] => some []
  | .tmp t :: r => match wresOf fr H r with
    | some l => some (peekC (Pl.sl t 0) (wunbox (fr.env t)) :: l)
    | none => none
  | .cell a ek :: r =>
    match (match fr.env a with
      | .lbox ek' x => if ek' = ek then some (peekC (Pl.sl a 0) x) else none
      | p => loadW ek (peek (Pl.sl a) p) H), wresOf fr H r with
    | some v, some l => some (v :: l)
    | _, _ => none
def woneOf : List WV → WV
  | [v] => v
  | vs => .tup vs
/-- Views of the frame's places, and of variables that the call made, leave as slices of one's own. -/
def leaveP (n : Nat) : Pl → Bool
  | .sl _ _ _ => true
  | .hp id _ => decide (n ≤ id)
  | .tmp _ _ => true
/-- What may leave a call. -/
def okRes1 : WV → Bool
  | .eptr _ _ _ _ _ => false
  | .iptr _ _ _ _ => false
  | .imm fz _ _ => fz
  | .tup _ => false
  | .lbox _ _ => false
  | _ => true
def okRes : WV → Bool
  | .agg cs => cs.all okRes1
  | v => okRes1 v
def leave1 (n : Nat) : WV → WV
  | .view p b off e ek xs => if leaveP n p = true then .own b e ek xs else .view p b off e ek xs
  | v => v
def leaveC (n : Nat) : WV → WV
  | .agg cs => .agg (cs.map (leave1 n))
  | v => leave1 n v
def wfinish (n : Nat) (vs : List WV) (H : WHeap) : Option (WV × WHeap) :=
  if ((srcAll vs).filter (leaveP n)).Nodup ∧ vs.all okRes = true ∧ ((srcAll vs).filter (leaveP n) = [] ∨ (srcAll vs).all (leaveP n) = true) then
    some (woneOf (vs.map (leaveC n)), hitH false ((srcAll vs).filter (leaveP n)) H)
  else none
def wFn (f : Nat) (args : List WV) (H : WHeap) : Option (WV × WHeap) :=
  match E.fn f with
  | none => none
  | some g => match wC E call it g.body { env := wassoc (wbinds 0 args), al := noAl } H with
    | some (.nrm, fr, H') | some (.ret, fr, H') => match wresOf fr H' g.res with
      | some vs => wfinish H.length vs H'
      | none => none
    | _ => none
end

/-! ### with rounds -/
def witF : Nat → WRun → WRun
  | 0, _, _, _ => none
  | n + 1, s, fr, H => match s fr H with
    | some (.nrm, fr', H') => witF n s fr' H'
    | r => r
def wF (E : WEnv) : Nat → WCallF
  | 0, _, _, _ => none
  | n + 1, f, args, H => wFn E (wF E n) (witF n) f args H
end Go.Proofs.Lz
