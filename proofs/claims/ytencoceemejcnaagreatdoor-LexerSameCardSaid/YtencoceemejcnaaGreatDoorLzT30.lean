/- Chapter 02: the reference's Render. -/
import Derived.Test.YtencoceemejcnaaGreatDoorLzT2
import Derived.Lib.ItoaLen
set_option linter.unusedSimpArgs false
set_option linter.unusedVariables false
namespace Go.Proofs.TryzL
open Go.Proofs.Lz
structure Sc where
 src : List UInt8
 pos : Nat
 line : Nat
 col : Nat
 code : Nat
 name : List UInt8
 fl : Nat
 fc : Nat
def scC (s : Sc) : List WV := [.c (.str s.src), .c (.int .i64 s.pos), .c (.int .i64 s.line), .c (.int .i64 s.col), .c (.int .i64 s.code), .c (.str s.name), .c (.int .i64 s.fl), .c (.int .i64 s.fc)]
def spanB (p : UInt8 → Bool) (l : List UInt8) (i : Nat) : List UInt8 := (l.drop i).takeWhile p
end Go.Proofs.TryzL
namespace Go.Proofs.TryzL
open Go.Proofs.Lz
def dashB (t : List UInt8) : Bool := decide (2 ≤ t.length) && t.all (· == 45)
def j72 (s : Sc) : Sc := match s.src[s.pos]? with
 | none => s
 | some c => if c = 10 then { s with pos := s.pos + 1, line := s.line + 1, col := 1 } else if c = 9 then { s with pos := s.pos + 1, col := s.col + (8 - (s.col - 1) % 8) } else { s with pos := s.pos + 1, col := s.col + 1 }
def jt8 : Nat → Sc → Sc
 | 0, s => s
 | n + 1, s => jt8 n (j72 s)
theorem ja4 : ∀ (n : Nat) (s : Sc), jt8 (n + 1) s = j72 (jt8 n s)
 | 0, s => rfl
 | n + 1, s => by
   show jt8 (n + 1) (j72 s) = _
   rw [ja4 n (j72 s)]
   rfl
structure ScOk (s : Sc) : Prop where
 line : s.line ≤ s.pos + 1
 col : s.col ≤ 8 * s.pos + 1
 col1 : 1 ≤ s.col
def KpH (id : Nat) (H H' : z01) : Prop := ∀ i o, i ≠ id → H[i]? = some o → H'[i]? = some o
end Go.Proofs.TryzL
namespace Go.Proofs.TryzL
open Go.Proofs.Lz
def failSc (code : Nat) (nm : List UInt8) (s : Sc) : Sc := if s.code = 0 then { s with code := code, name := nm, fl := s.line, fc := s.col } else s
end Go.Proofs.TryzL
namespace Go.Proofs.TryzL
open Go.Proofs.Lz
def rsymL : List (List UInt8) := [[46, 46], [58, 58], [61], [92], [124], [60, 45], [45, 62], [64], [126], [61, 62]]
def rwordL : List (List UInt8) := [[97, 115], [99, 97, 115, 101], [99, 108, 97, 115, 115], [100, 97, 116, 97], [100, 101, 114, 105, 118, 105, 110, 103], [100, 111], [101, 108, 115, 101], [104, 105, 100, 105, 110, 103], [105, 102], [105, 109, 112, 111, 114, 116], [105, 110], [105, 110, 102, 105, 120], [105, 110, 102, 105, 120, 108], [105, 110, 102, 105, 120, 114], [105, 110, 115, 116, 97, 110, 99, 101], [108, 101, 116], [109, 111, 100, 117, 108, 101], [111, 102], [113, 117, 97, 108, 105, 102, 105, 101, 100], [116, 104, 101, 110], [119, 104, 101, 114, 101], [95]]
end Go.Proofs.TryzL
namespace Go.Proofs.TryzL
open Go.Proofs.Lz
def jk6 (c : UInt8) : Bool := upperB c || decide (97 ≤ c.toNat ∧ c.toNat ≤ 122)
def wcB (c : UInt8) : Bool := jk6 c || jf5 c || c == 95 || c == 39
def wsB (c : UInt8) : Bool := jk6 c || c == 95
def jl1 (s : List UInt8) : Bool := match s[0]? with
 | none => false
 | some c => decide (s.length ≤ 64) && wsB c && s.all wcB
set_option maxHeartbeats 2000000
end Go.Proofs.TryzL
namespace Go.Proofs.TryzL
open Go.Proofs.Lz
end Go.Proofs.TryzL
namespace Go.Proofs.TryzL
open Go.Proofs.Lz
def qr2 (s : List UInt8) : Bool := match s[0]? with
 | none => false
 | some _ => decide (s.length ≤ 64) && s.all symB && (decide (s.length = 1) || decide (s.count 45 < s.length))
end Go.Proofs.TryzL
namespace Go.Proofs.TryzL
open Go.Proofs.Lz
def jj1 (s : List UInt8) : Bool := (jl1 s && !rwordL.contains s) || (qr2 s && !rsymL.contains s)
def jk8 (s : List UInt8) : Bool := match s[0]? with
 | none => false
 | some c => upperB c
def wl8 (m n : List UInt8) : List UInt8 := if jl1 m && jk8 m && jj1 n then m ++ [46] ++ n else []
def wh1 (s : List UInt8) : Option (List UInt8 × List UInt8) := if (Lib.cut s [46]).2.2 && !(wl8 (Lib.cut s [46]).1 (Lib.cut s [46]).2.1 == []) then some ((Lib.cut s [46]).1, (Lib.cut s [46]).2.1) else none
def splitV (o : Option (List UInt8 × List UInt8)) : WV := match o with
 | none => .tup [.c (.str []), .c (.str []), .c (.bool false)]
 | some p => .tup [.c (.str p.1), .c (.str p.2), .c (.bool true)]
def w45 (s : List UInt8) : Bool := (wh1 s).isSome || jj1 s
def wp2 (b : List UInt8) (n : Int) : List UInt8 := if decide (0 ≤ n) && w45 b then b ++ [36] ++ Lib.itoa n else []
def atoiV (s : List UInt8) : WV := match Lib.atoiAll s with
 | .ok v => .tup [.c (.int .i64 v), .c .nili]
 | .range => .tup [.c (.int .i64 (Lib.atoiSat s)), .c .opq]
 | _ => .tup [.c (.int .i64 0), .c .opq]
end Go.Proofs.TryzL
namespace Go.Proofs.TryzL
open Go.Proofs.Lz
def okA : Lib.NumEnd Int → Option Int
 | .ok v => some v
 | _ => none
def wh2 (s : List UInt8) (k : Nat) : Option (List UInt8 × Int) := match okA (Lib.atoiAll (s.drop (k + 1))) with
 | none => none
 | some v => if wp2 (s.take k) v = s then some (s.take k, v) else none
def wm9 (s : List UInt8) : Option (List UInt8 × Int) := if Lib.lastIndexByte ⟨s.toArray⟩ 36 < 0 then none else wh2 s (Lib.lastIndexByte ⟨s.toArray⟩ 36).toNat
def baseV (o : Option (List UInt8 × Int)) : WV := match o with
 | none => .tup [.c (.str []), .c (.int .i64 0), .c (.bool false)]
 | some p => .tup [.c (.str p.1), .c (.int .i64 p.2), .c (.bool true)]
end Go.Proofs.TryzL
namespace Go.Proofs.TryzL
open Go.Proofs.Lz
def qa3 (s : List UInt8) : Nat := if rwordL.contains s then 5 else if rsymL.contains s then 6 else if jl1 s && jk8 s then 2 else if jl1 s then 1 else if qr2 s && s[0]? == some 58 then 4 else if qr2 s then 3 else if (wm9 s).isSome then 7 else 0
end Go.Proofs.TryzL
namespace Go.Proofs.TryzL
open Go.Proofs.Lz
end Go.Proofs.TryzL
namespace Go.Proofs.TryzL
open Go.Proofs.Lz
end Go.Proofs.TryzL
namespace Go.Proofs.TryzL
open Go.Proofs.Lz
end Go.Proofs.TryzL
namespace Go.Proofs.TryzL
open Go.Proofs.Lz
def qh9 (s : List UInt8) : Nat := if jl1 s then (if rwordL.contains s then 5 else if jk8 s then 2 else 1) else if qr2 s then (if rsymL.contains s then 6 else if s[0]? == some 58 then 4 else 3) else 0
end Go.Proofs.TryzL
namespace Go.Proofs.TryzL
open Go.Proofs.Lz
def jy7 (s : List UInt8) : Bool := decide (1 ≤ qh9 s ∧ qh9 s ≤ 4)
def wq2 (m n : List UInt8) : List UInt8 := if qh9 m = 2 ∧ jy7 n = true then m ++ [46] ++ n else []
def wb0 (s : List UInt8) (n : Nat) : Option (List UInt8 × List UInt8) := if wq2 (s.take n) (s.drop (n + 1)) = [] then none else some (s.take n, s.drop (n + 1))
def wh9 (s : List UInt8) : Option (List UInt8 × List UInt8) := match s.findIdx? (· == 46) with
 | none => none
 | some n => wb0 s n
end Go.Proofs.TryzL
namespace Go.Proofs.Lz
theorem w12 {n : Int} (h : 0 ≤ n ∧ n < 256) : IntKind.u8.wrap n = n := by
 simp [IntKind.wrap, IntKind.bits, IntKind.signed]
 omega
section
variable {V : WEnv} {fr fr' : WFr} {H H' : z01} {N : Post} {dst : Option Nat}
theorem zs7 {x y : Opd} {a b : Int} (hx : fr.rd x = .c (.int .u8 a)) (hy : fr.rd y = .c (.int .u8 b)) (h0 : 0 ≤ a - b ∧ a - b < 256) (hq : Put fr dst (.c (.int .u8 (a - b))) fr') (h : N fr' H) : OpP V (.bin .sub x y) dst fr H N :=
 ze7 hx hy (by simp only [binC, if_true, w12 h0]) hq h
theorem zs9 {x y : Opd} {c : UInt8} (hx : fr.rd x = .c (.int .u8 c.toNat)) (hy : fr.rd y = .c (.int .u64 4)) (hq : Put fr dst (.c (.int .u8 (c.toNat / 16 : Nat))) fr') (h : N fr' H) : OpP V (.bin .shr x y) dst fr H N := by
 refine ze7 (v := .int .u8 (c.toNat / 16 : Nat)) hx hy ?_ hq h
 have e : ((c.toNat : Int).fdiv (2 ^ (min (4 : Int).toNat IntKind.u8.bits))) = ((c.toNat / 16 : Nat) : Int) := by
  show (c.toNat : Int).fdiv 16 = _
  rw [Int.fdiv_eq_ediv_of_nonneg _ (by omega)]
  omega
 show (if (0 : Int) ≤ 4 then some (CV.int .u8 ((c.toNat : Int).fdiv (2 ^ (min (4 : Int).toNat IntKind.u8.bits)))) else none) = _
 rw [e]
 rfl
theorem wn6 : ∀ c : UInt8, IntKind.u8.wrap ((BitVec.ofInt IntKind.u8.bits c.toNat &&& BitVec.ofInt IntKind.u8.bits 15).toNat) = ((c.toNat % 16 : Nat) : Int) := by
 have h : ∀ n : Fin 256, IntKind.u8.wrap ((BitVec.ofInt IntKind.u8.bits (n.val : Int) &&& BitVec.ofInt IntKind.u8.bits 15).toNat) = ((n.val % 16 : Nat) : Int) := by decide +kernel
 intro c
 exact h ⟨c.toNat, c.toNat_lt⟩
theorem zk5 {x y : Opd} {c : UInt8} (hx : fr.rd x = .c (.int .u8 c.toNat)) (hy : fr.rd y = .c (.int .u8 15)) (hq : Put fr dst (.c (.int .u8 (c.toNat % 16 : Nat))) fr') (h : N fr' H) : OpP V (.bin .and x y) dst fr H N :=
 ze7 (v := .int .u8 (c.toNat % 16 : Nat)) hx hy (by simp only [binC, if_true, wn6 c]) hq h
theorem q51 {l : List (Nat × WV)} {a : List (Nat × Option (Nat × Nat))} {f p : Nat} {args : List Opd} {r : WV} {Q : z01 → Prop} (hm : V.md f = .S) (ht : V.tk f = [0]) (hp : ze5 [0] 0 (args.map (FL l a).rd) = [.sl p 0 0]) (hl : qy0 [0] 0 (args.map (FL l a).rd) = []) (ho : (args.map (FL l a).rd).all okA = true)
 (hc : Shr V f (q15 [0] 0 (args.map (FL l a).rd)) H r Q) (hq : Put (FL (hitM isHp false (hitM (inK [.sl p 0 0]) false l)) a) dst r fr') (h : ∀ H', Q H' → N fr' H') : OpP V (.call f args) dst (FL l a) H N := by
 obtain ⟨H2, h1, h2⟩ := hc
 refine ⟨fr', H2, ?_, h H2 h2⟩
 show z50 V (wv V) f (args.map (FL l a).rd) dst (FL l a) H = _
 simp only [z50, hm, ht, hp, hl, ho, List.nodup_cons, List.not_mem_nil, not_false_eq_true, List.nodup_nil, List.all_cons, List.all_nil, List.contains_nil, Bool.not_false, Bool.and_true, and_self, if_true, q28, h1, zx0, hq.eq]
theorem zt6 {x : Opd} {xs : List CV} {s : List UInt8} (hx : qa9 none (fr.rd x) = some xs) (hb : zo6 xs = some s) (hq : Put fr dst (.c (.str s)) fr') (h : N fr' H) : OpP V (.b2s x) dst fr H N :=
 ⟨fr', H, by show wOp0 (.b2s x) dst fr H = _; simp only [wOp0, hx, Option.bind_some, hb, hq.eq], h⟩
end
end Go.Proofs.Lz
namespace Go.Proofs.TryzL
open Go.Proofs.Lz
set_option maxHeartbeats 4000000
def wo3 (s : List UInt8) : Bool := (wh9 s).isSome || jy7 s
def numF : List UInt8 → Nat → Option Nat
 | [], a => some a
 | c :: r, a => if jf5 c = true ∧ a ≤ (9223372036854775807 - (c.toNat - 48)) / 10 then numF r (10 * a + (c.toNat - 48)) else none
def numR (s : List UInt8) : Option Nat := if s = [] ∨ (s[0]? = some 48 ∧ 1 < s.length) then none else numF s 0
def numV (o : Option Nat) : WV := match o with
 | none => .tup [.c (.int .i64 0), .c (.bool false)]
 | some n => .tup [.c (.int .i64 n), .c (.bool true)]
end Go.Proofs.TryzL
namespace Go.Proofs.TryzL
open Go.Proofs.Lz
def j99 (s : List UInt8) : Nat → Int
 | 0 => -1
 | n + 1 => if s[n]? = some 36 then (n : Int) else j99 s n
theorem jy0 (s : List UInt8) : ∀ n, -1 ≤ j99 s n ∧ j99 s n < n
 | 0 => by simp [j99]
 | n + 1 => by
   have := jy0 s n
   unfold j99
   split <;> omega
def wh4 (s : List UInt8) (i : Int) : Option (List UInt8 × Nat) := if i < 0 then none else if wo3 (s.take i.toNat) then (match numR (s.drop (i + 1).toNat) with
 | none => none
 | some v => some (s.take i.toNat, v)) else none
def wn8 (s : List UInt8) : Option (List UInt8 × Nat) := wh4 s (j99 s s.length)
def baseRV (o : Option (List UInt8 × Nat)) : WV := match o with
 | none => .tup [.c (.str []), .c (.int .i64 0), .c (.bool false)]
 | some p => .tup [.c (.str p.1), .c (.int .i64 p.2), .c (.bool true)]
def classR (s : List UInt8) : Nat := if qh9 s ≠ 0 then qh9 s else if (wn8 s).isSome then 7 else 0
end Go.Proofs.TryzL
namespace Go.Proofs.TryzL
open Go.Proofs.Lz
def hexD : List UInt8 := [48, 49, 50, 51, 52, 53, 54, 55, 56, 57, 97, 98, 99, 100, 101, 102]
def hexd (n : Nat) : UInt8 := hexD.getD n 0
def escB (c m : UInt8) : List UInt8 := if c = 10 then [92, 110] else if c = 9 then [92, 116] else if c = 92 ∨ c = m then [92, c] else if 32 ≤ c.toNat ∧ c.toNat ≤ 126 then [c] else [92, 120, hexd (c.toNat / 16), hexd (c.toNat % 16)]
def escS (s : List UInt8) (m : UInt8) : List UInt8 := s.flatMap (escB · m)
end Go.Proofs.TryzL
namespace Go.Proofs.Lz
section
variable {V : WEnv} {fr fr' : WFr} {H H' : z01} {N : Post} {dst : Option Nat}
theorem zu5 {x y : Opd} {a b : Int} (hx : fr.rd x = .c (.int .u8 a)) (hy : fr.rd y = .c (.int .u8 b)) (h0 : 0 ≤ a + b ∧ a + b < 256) (hq : Put fr dst (.c (.int .u8 (a + b))) fr') (h : N fr' H) : OpP V (.bin .add x y) dst fr H N :=
 ze7 hx hy (by simp only [binC, if_true, w12 h0]) hq h
theorem zm3 {x y : Opd} {c : UInt8} (hx : fr.rd x = .c (.int .u8 c.toNat)) (hy : fr.rd y = .c (.int .u8 16)) (hq : Put fr dst (.c (.int .u8 (c.toNat / 16 : Nat))) fr') (h : N fr' H) : OpP V (.bin .quo x y) dst fr H N := by
 refine ze7 (v := .int .u8 (c.toNat / 16 : Nat)) hx hy ?_ hq h
 have hc := c.toNat_lt
 have e : IntKind.u8.wrap ((c.toNat : Int).tdiv 16) = ((c.toNat / 16 : Nat) : Int) := by
  rw [Int.tdiv_eq_ediv_of_nonneg (by omega), w12 (by omega)]
  omega
 show (if IntKind.u8 = IntKind.u8 ∧ (16 : Int) ≠ 0 then some (CV.int .u8 (IntKind.u8.wrap ((c.toNat : Int).tdiv 16))) else none) = _
 rw [if_pos ⟨rfl, by decide⟩, e]
theorem zl9 {x y : Opd} {c : UInt8} (hx : fr.rd x = .c (.int .u8 c.toNat)) (hy : fr.rd y = .c (.int .u8 16)) (hq : Put fr dst (.c (.int .u8 (c.toNat % 16 : Nat))) fr') (h : N fr' H) : OpP V (.bin .rem x y) dst fr H N := by
 refine ze7 (v := .int .u8 (c.toNat % 16 : Nat)) hx hy ?_ hq h
 have e : ((c.toNat : Int).tmod 16) = ((c.toNat % 16 : Nat) : Int) := by
  rw [Int.tmod_eq_emod_of_nonneg (by omega)]
  omega
 show (if IntKind.u8 = IntKind.u8 ∧ (16 : Int) ≠ 0 then some (CV.int .u8 ((c.toNat : Int).tmod 16)) else none) = _
 rw [if_pos ⟨rfl, by decide⟩, e]
theorem zd6 {x lo hi : Opd} {s : List UInt8} {k k' : IntKind} {m : Nat} {b : UInt8} (hx : fr.rd x = .c (.str s)) (hl : fr.rd lo = .c (.int k (m : Int))) (hh : fr.rd hi = .c (.int k' ((m : Int) + 1))) (hb : s[m]? = some b) (hq : Put fr dst (.c (.str [b])) fr') (hN : N fr' H) : OpP V (.slc true none x (some lo) (some hi)) dst fr H N := by
 have hm : m < s.length := (List.getElem?_eq_some_iff.1 hb).1
 refine za1 (m := m) (m' := m + 1) hx hl hh rfl (by simp) ⟨by omega, by omega⟩ ?_ hN
 have e : (s.drop m).take (m + 1 - m) = [b] := by
  rw [Nat.add_sub_cancel_left, List.take_one, List.head?_drop, hb]
  rfl
 rw [e]
 exact hq
end
end Go.Proofs.Lz
namespace Go.Proofs.TryzL
open Go.Proofs.Lz
end Go.Proofs.TryzL
namespace Go.Proofs.TryzL
open Go.Proofs.Lz
structure Tok where
 op : Int
 qual : List UInt8
 text : List UInt8
 n : Int
 auto : Bool
 line : Int
 col : Int
def tokC (t : Tok) : CV := .agg [.int .i64 t.op, .str t.qual, .str t.text, .int .i64 t.n, .bool t.auto, .int .i64 t.line, .int .i64 t.col]
def wc0 (op : Int) (text : List UInt8) (n : Int) : Bool :=
 if op = 1 then decide (qa3 text = 1) && decide (n = 0) else if op = 2 then decide (qa3 text = 2) && decide (n = 0) else if op = 3 then decide (qa3 text = 3) && decide (n = 0)
 else if op = 4 then decide (qa3 text = 4) && decide (n = 0) else if op = 9 then decide (qa3 text = 5) && decide (n = 0) else if op = 10 then decide (qa3 text = 6) && decide (n = 0)
 else if op = 8 then decide (text.length = 1) && (spS.contains (text.headD 0)) && decide (n = 0) else if op = 7 then decide (text.length ≤ 200) && decide (n = 0)
 else if op = 5 then decide (text = []) && decide (0 ≤ n) else if op = 6 then decide (text = []) && decide (0 ≤ n) && decide (n ≤ 255) else false
def w86 (t : Tok) : Bool := (decide (t.qual = []) || (decide (1 ≤ t.op) && decide (t.op ≤ 4) && decide (qa3 t.qual = 2))) && wc0 t.op t.text t.n
def tokA (op : Int) (qual text : List UInt8) (n : Int) (auto : Bool) (line col : Int) : CV := .agg [.int .i64 op, .str qual, .str text, .int .i64 n, .bool auto, .int .i64 line, .int .i64 col]
def printA (op : Int) (qual text : List UInt8) (n : Int) : Bool := (decide (qual = []) || (decide (1 ≤ op) && decide (op ≤ 4) && decide (qa3 qual = 2))) && wc0 op text n
end Go.Proofs.TryzL
namespace Go.Proofs.TryzL
open Go.Proofs.Lz
end Go.Proofs.TryzL
namespace Go.Proofs.TryzL
open Go.Proofs.Lz
def qcS (n : Int) : List UInt8 := if 0 ≤ n ∧ n ≤ 255 then [39] ++ escB (UInt8.ofNat n.toNat) 39 ++ [39] else []
def textS (op : Int) (qual text : List UInt8) (n : Int) : List UInt8 := if op = 5 then Lib.itoa n else if op = 6 then qcS n else if op = 7 then [34] ++ escS text 34 ++ [34] else if qual = [] then text else qual ++ [46] ++ text
end Go.Proofs.TryzL
namespace Go.Proofs.TryzL
open Go.Proofs.Lz
section
variable {V : WEnv} {fr fr' : WFr} {H H' : z01} {N : Post} {dst : Option Nat}
theorem zm2 {x y : Opd} {m : Nat} (hx : fr.rd x = .c (.int .i64 m)) (hy : fr.rd y = .c (.int .i64 10)) (hm : m ≤ 9223372036854775807) (hq : Put fr dst (.c (.int .i64 (m / 10 : Nat))) fr') (h : N fr' H) : OpP V (.bin .quo x y) dst fr H N := by
 refine ze7 (v := .int .i64 (m / 10 : Nat)) hx hy ?_ hq h
 have e : IntKind.i64.wrap ((m : Int).tdiv 10) = ((m / 10 : Nat) : Int) := by
  rw [Int.tdiv_eq_ediv_of_nonneg (by omega), wrap64 (by omega)]
  omega
 show (if IntKind.i64 = IntKind.i64 ∧ (10 : Int) ≠ 0 then some (CV.int .i64 (IntKind.i64.wrap ((m : Int).tdiv 10))) else none) = _
 rw [if_pos ⟨rfl, by decide⟩, e]
theorem zk9 {x y : Opd} {m : Nat} (hx : fr.rd x = .c (.int .i64 m)) (hy : fr.rd y = .c (.int .i64 10)) (hq : Put fr dst (.c (.int .i64 (m % 10 : Nat))) fr') (h : N fr' H) : OpP V (.bin .rem x y) dst fr H N := by
 refine ze7 (v := .int .i64 (m % 10 : Nat)) hx hy ?_ hq h
 have e : ((m : Int).tmod 10) = ((m % 10 : Nat) : Int) := by
  rw [Int.tmod_eq_emod_of_nonneg (by omega)]
  omega
 show (if IntKind.i64 = IntKind.i64 ∧ (10 : Int) ≠ 0 then some (CV.int .i64 ((m : Int).tmod 10)) else none) = _
 rw [if_pos ⟨rfl, by decide⟩, e]
end
end Go.Proofs.TryzL
namespace Go.Proofs.TryzL
open Go.Proofs.Lz
theorem qu5 (s : List UInt8) : ∀ k, Lib.repeatL s (k + 1) = Lib.repeatL s k ++ s
 | 0 => by simp [Lib.repeatL]
 | k + 1 => by
   show s ++ Lib.repeatL s (k + 1) = (s ++ Lib.repeatL s k) ++ s
   rw [qu5 s k, List.append_assoc]
end Go.Proofs.TryzL
namespace Go.Proofs.TryzL
open Go.Proofs.Lz
end Go.Proofs.TryzL
namespace Go.Proofs.TryzL
open Go.Proofs.Lz
end Go.Proofs.TryzL
namespace Go.Proofs.TryzL
open Go.Proofs.Lz
end Go.Proofs.TryzL
namespace Go.Proofs.TryzL
open Go.Proofs.Lz
end Go.Proofs.TryzL
namespace Go.Proofs.Lz
section
variable {V : WEnv} {fr fr' : WFr} {H H' : z01} {N : Post} {dst : Option Nat}
theorem zs5 {T n id : Nat} {x : Opd} {ek : Option Nat} {cs : List WV} (hx : fr.rd x = .ptr id 0) (hH : H[id]? = some (.var ek cs)) (hT : tyOf ek = some T) (hn : Nat.beq cs.length n = true) (hq : Put fr dst (.ptr id 0) fr') (h : N fr' H) : OpP V (.tyck T n x) dst fr H N :=
 ⟨fr', H, by show wOp0 (.tyck T n x) dst fr H = _; simp only [wOp0, hx, hH, hT, Nat.eq_of_beq_eq_true hn, and_self, if_true, hq.eq], h⟩
theorem q46 {x y : Opd} {id : Nat} (hx : fr.rd x = .ptr id 0) (hy : fr.rd y = .ptr id 0) (hq : Put fr dst (.c (.bool true)) fr') (h : N fr' H) : OpP V (.peq x y) dst fr H N :=
 ⟨fr', H, by show wOp0 (.peq x y) dst fr H = _; simp only [wOp0, hx, hy, and_self, decide_true, hq.eq], h⟩
theorem zf4 {e : Nat} {x : Opd} (hx : fr.rd x = .nils) (hq : Put fr dst (.c (.bool true)) fr') (h : N fr' H) : OpP V (.rowck e x) dst fr H N :=
 ⟨fr', H, by show wOp0 (.rowck e x) dst fr H = _; simp only [wOp0, hx, hq.eq], h⟩
theorem zk8 {e : Nat} {x : Opd} {p : Pl} {xs : List CV} (hx : fr.rd x = .view p true 0 e none xs) (hc : (0 < xs.length ∧ qa4 xs = true)) (hq : Put fr dst (.c (.bool false)) fr') (h : N fr' H) : OpP V (.rowck e x) dst fr H N :=
 ⟨fr', H, by show wOp0 (.rowck e x) dst fr H = _; simp only [wOp0, hx, hc.1, hc.2, and_self, if_true, hq.eq], h⟩
theorem zr7 {l : List (Nat × WV)} {al : List (Nat × Option (Nat × Nat))} {e : Nat} {ek : Option Nat} {zero : List CV} {n : Nat} {parts : List (Nat × Opd)} {z : CV} {xs : List CV} {p : Pl} {ps : List Pl} (hz : z45 ek zero = some z) (hf : fits ek z = true) (hr : zd2 ek (List.replicate n z) (parts.map fun p => (p.1, (FL l al).rd p.2)) = some (xs, p :: ps)) (hq : Put (FL (hitM (inK (p :: ps)) true l) al) dst (.c (.frz ek xs)) fr') (h : N fr' (hitH true (p :: ps) H)) : OpP V (.bsl true e ek zero n parts) dst (FL l al) H N :=
 ⟨fr', _, by
  show wOp0 (.bsl true e ek zero n parts) dst (FL l al) H = _
  have hh : za6 (p :: ps) true (FL l al) H = (FL (hitM (inK (p :: ps)) true l) al, hitH true (p :: ps) H) := by
   rw [← zx0]; rfl
  simp only [wOp0, hz, if_pos hf, hr, hh, if_true, hq.eq], h⟩
theorem z38 {k : Option Nat} {a x : Opd} {id off : Nat} {cs : List WV} (hp : fr.place a = none) (ha : fr.rd a = .ptr id off) (hx : fr.rd x = .nils) (hH : H[id]? = some (.var k cs)) (hb : (decide (off + 1 ≤ cs.length)) = true)
 (h : ∀ H', H'[id]? = some (.var k (cs.set off .nils)) → (∀ (i : Nat) (o : WO), i ≠ id → H[i]? = some o → H'[i]? = some o) → N fr H') : OpP V (.store none a x) none fr H N := by
 have hb := of_decide_eq_true hb
 refine ⟨fr, H.set id (.var k (cs.set off .nils)), ?_, h _ (qi8 hH _) (fun i o hi ho => by rw [List.getElem?_set_ne (Ne.symm hi)]; exact ho)⟩
 show wOp0 (.store none a x) none fr H = _
 have ht : Lz.take .nils fr H = some (.nils, fr, H) := by simp [Lz.take, srcs, srcC, src1, za6, zb6, z05, z95]
 have hs : z34 cs off [.nils] = cs.set off .nils := by
  simp only [z34, List.length_singleton]
  rw [List.set_eq_take_append_cons_drop, if_pos (by omega), List.append_assoc, List.singleton_append]
 have hf : fitsW none .nils = true := rfl
 simp only [wOp0, hp, ha, hx, zx4, if_pos hf, ht, hH]
 show (if off + 1 ≤ cs.length then some (if false = true then _ else fr, H.set id (.var k (z34 cs off [.nils]))) else none) = _
 rw [if_pos hb, hs]
 rfl
theorem z87 {k : Option Nat} {a x : Opd} {id off j o : Nat} {cs : List WV} (hp : fr.place a = none) (ha : fr.rd a = .ptr id off) (hx : fr.rd x = .ptr j o) (hH : H[id]? = some (.var k cs)) (hb : (decide (off + 1 ≤ cs.length)) = true)
 (h : ∀ H', H'[id]? = some (.var k (cs.set off (.ptr j o))) → (∀ (i : Nat) (o : WO), i ≠ id → H[i]? = some o → H'[i]? = some o) → N fr H') : OpP V (.store none a x) none fr H N := by
 have hb := of_decide_eq_true hb
 refine ⟨fr, H.set id (.var k (cs.set off (.ptr j o))), ?_, h _ (qi8 hH _) (fun i o hi ho => by rw [List.getElem?_set_ne (Ne.symm hi)]; exact ho)⟩
 show wOp0 (.store none a x) none fr H = _
 have ht : Lz.take (.ptr j o) fr H = some (.ptr j o, fr, H) := by simp [Lz.take, srcs, srcC, src1, za6, zb6, z05, z95]
 have hs : z34 cs off [.ptr j o] = cs.set off (.ptr j o) := by
  simp only [z34, List.length_singleton]
  rw [List.set_eq_take_append_cons_drop, if_pos (by omega), List.append_assoc, List.singleton_append]
 have hf : fitsW none (.ptr j o) = true := rfl
 simp only [wOp0, hp, ha, hx, zx4, if_pos hf, ht, hH]
 show (if off + 1 ≤ cs.length then some (if false = true then _ else fr, H.set id (.var k (z34 cs off [.ptr j o]))) else none) = _
 rw [if_pos hb, hs]
 rfl
theorem q62 {x y : Opd} {a b : Int} {k k' : IntKind} (hx : fr.rd x = .c (.int k a)) (hy : fr.rd y = .c (.int k' b)) (hq : Put fr dst (.c (.int k (max a b))) fr') (h : N fr' H) : OpP V (.mx true x y) dst fr H N := qh0 hx hy hq h
theorem q67 {x y : Opd} {a b : Int} {k k' : IntKind} (hx : fr.rd x = .c (.int k a)) (hy : fr.rd y = .c (.int k' b)) (hq : Put fr dst (.c (.int k (min a b))) fr') (h : N fr' H) : OpP V (.mx false x y) dst fr H N := qh0 hx hy hq h
end
end Go.Proofs.Lz
namespace Go.Proofs.TryzL
open Go.Proofs.Lz
def bK : Option Nat := some 67108866
def BB (id : Nat) (l : List UInt8) (H : z01) : Prop := (l = [] ∧ ∃ a, (a = .c .nilp ∨ a = .ptr id 0) ∧ H[id]? = some (.var bK [a, .nils])) ∨ (l ≠ [] ∧ H[id]? = some (.var bK [.ptr id 0, .own true 5 none (bytesV l)]))
def KpH' (id : Nat) (H H' : z01) : Prop := KpH id H H'
end Go.Proofs.TryzL
namespace Go.Proofs.TryzL
open Go.Proofs.Lz
structure TokOk (t : Tok) : Prop where
 text : t.text.length < 2^20
 qual : t.qual.length < 2^20
 n : -9223372036854775808 ≤ t.n ∧ t.n ≤ 9223372036854775807
 line : -9223372036854775808 ≤ t.line ∧ t.line ≤ 9223372036854775807
 col : -9223372036854775808 ≤ t.col ∧ t.col ≤ 9223372036854775807
def tokT (t : Tok) : List UInt8 := textS t.op t.qual t.text t.n
structure RS where
 out : List UInt8
 line : Nat
 col : Nat
 first : Bool
def nlK (t : Tok) (s : RS) : Nat := min 200 (t.line - s.line).toNat
def rnl (t : Tok) (s : RS) : RS := if nlK t s = 0 then s else ⟨s.out ++ List.replicate (nlK t s) 10, s.line + nlK t s, 1, true⟩
def rsp (t : Tok) (s : RS) : RS := if (s.col : Int) < t.col ∧ t.col ≤ 1000 then { s with out := s.out ++ Lib.repeatL [32] (t.col - s.col).toNat, col := t.col.toNat } else if s.first then s else { s with out := s.out ++ [32], col := s.col + 1 }
def rtx (t : Tok) (s : RS) : RS := ⟨s.out ++ tokT t, s.line, s.col + (tokT t).length, false⟩
def wj6 (t : Tok) (s : RS) : RS := rtx t (rsp t (rnl t s))
def rend : List Tok → RS → Option (List UInt8)
 | [], s => some s.out
 | t :: ts, s => if 65536 < (wj6 t s).out.length then none else rend ts (wj6 t s)
def rs0 : RS := ⟨[], 1, 1, true⟩
def rendR (l : List Tok) : List UInt8 × Int := if l.all w86 = false then ([], 1) else if 16384 < l.length then ([], 3) else match rend l rs0 with
 | none => ([], 3)
 | some o => (o, 0)
structure RsOk (s : RS) : Prop where
 out : s.out.length ≤ 65536
 col : s.col ≤ 1000 + s.out.length
 line : s.line ≤ 9223372036854775807
end Go.Proofs.TryzL
namespace Go.Proofs.TryzL
open Go.Proofs.Lz
def tks (l : List Tok) : CV := .frz (some 7) (l.map tokC)
def rcv (r : List UInt8 × Int) : WV := .tup [.c (.str r.1), .c (.int .i64 r.2)]
theorem KpH.trans {id : Nat} {H H1 H2 : z01} (h : KpH id H H1) (k : KpH id H1 H2) : KpH id H H2 := fun i o hi ho => k i o hi (h i o hi ho)
def nlS (s : RS) (n : Nat) : RS := if n = 0 then s else ⟨s.out ++ List.replicate n 10, s.line + n, 1, true⟩
def kIn (l : List Tok) (t : Tok) (i : Nat) (x : RS) (n : Nat) : List (Nat × WV) := [(6, .ptr 0 0), (7, .c (.int .i64 x.line)), (8, .c (.int .i64 x.col)), (9, .c (.bool x.first)), (11, .lbox (some 7) (.c (tokC t))), (12, .c (.int .i64 n)), (27, .c (.frz (some 7) (l.map tokC))), (28, .c (.int .i64 l.length)), (29, .c (.int .i64 i))]
end Go.Proofs.TryzL
namespace Go.Proofs.TryzL
open Go.Proofs.Lz
def after16 (l : List Tok) (i : Nat) (p : Nat × RS) : Prop := p.1 ≤ l.length ∧ ((RsOk p.2 ∧ rend (l.drop p.1) p.2 = rend l rs0 ∧ p.2.first = decide (p.1 = 0)) ∨ (65536 < p.2.out.length ∧ rend l rs0 = none))
def k16 (l : List Tok) (p : Nat × RS) : List (Nat × WV) := [(0, .c (.frz (some 7) (l.map tokC))), (5, .c (.str p.2.out)), (6, .c (.int .i64 p.2.line)), (7, .c (.int .i64 p.2.col)), (8, .c (.int .i64 p.1))]
end Go.Proofs.TryzL
namespace Go.Proofs.TryzL
open Go.Proofs.Lz
end Go.Proofs.TryzL
