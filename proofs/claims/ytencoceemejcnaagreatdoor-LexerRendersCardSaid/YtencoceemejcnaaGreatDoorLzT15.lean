/- Chapter 02: the reference's names: generated names, classes. -/
import Derived.Test.YtencoceemejcnaaGreatDoorLzT12e
import Derived.Test.YtencoceemejcnaaGreatDoorLzSeat02
set_option linter.unusedSimpArgs false
set_option linter.unusedVariables false
namespace Go.Proofs.TryzL
open Go.Proofs.Lz
set_option maxHeartbeats 2000000
def j03 (s : List UInt8) : Bool := decide (1 ≤ zf3 s ∧ zf3 s ≤ 4)
theorem j43 (s : List UInt8) (hl : s.length < 2^31) : Rets Vv 151 [.c (.str s)] (.c (.bool (j03 s))) := by
 refine z35 wo9 ?_
 repeat' first
  | apply z01
  | exact z17
  | exact z30 rfl
  | (apply z12; exact rfl; exact rfl)
  | (apply z23; (iterate 3 exact rfl))
  | (apply z09; exact rfl; (with_reducible rfl); exact rfl)
  | (apply z13; exact rfl; (with_reducible rfl); exact rfl)
  | (apply z08 (hc := zw1 s hl); exact rfl; exact rfl; exact rfl)
  | apply z03
  | apply z00
  | apply z02
  | apply z07
  | (apply z39; exact rfl; (with_reducible rfl))
  | (apply z32; exact rfl; (with_reducible rfl))
  | (apply z28; exact rfl)
  | (with_reducible apply z96; intro hc)
  | (with_reducible apply z62; intro hc)
  | (apply z49; exact rfl)
 all_goals (refine cb ?_; simp only [j03, decide_eq_true_eq, true_iff, false_iff, Bool.false_eq_true, beq_iff_eq]; omega)
def jr6 (m n : List UInt8) : List UInt8 := if zf3 m = 2 ∧ j03 n = true then m ++ [46] ++ n else []
theorem w25 (m n : List UInt8) (hm : m.length < 2^31) (hn : n.length < 2^31) : Rets Vv 168 [.c (.str m), .c (.str n)] (.c (.str (jr6 m n))) := by
 refine z35 wg9 ?_
 repeat' first
  | apply z01
  | exact z17
  | exact z30 rfl
  | (apply z12; exact rfl; exact rfl)
  | (apply zg3; exact rfl; exact rfl; (simp only [List.length_map, List.length_cons, List.length_nil, List.length_append, List.length_replicate]; omega))
  | (apply z23; (iterate 3 exact rfl))
  | (apply za8; exact rfl; exact rfl)
  | (apply z09; exact rfl; (with_reducible rfl); exact rfl)
  | (apply z13; exact rfl; (with_reducible rfl); exact rfl)
  | (apply z08 (hc := zw1 m hm); exact rfl; exact rfl; exact rfl)
  | (apply z08 (hc := j43 n hn); exact rfl; exact rfl; exact rfl)
  | (apply z04; focus (repeat (first | exact z18 | (apply kq_c; exact rfl))))
  | apply z03
  | apply z00
  | apply z02
  | apply z06
  | apply z07
  | (apply z38; exact rfl; (with_reducible rfl))
  | (apply z15; exact rfl)
  | (apply z39; exact rfl; (with_reducible rfl))
  | (apply z32; exact rfl; (with_reducible rfl))
  | (apply z28; exact rfl)
  | with_reducible apply z50
  | with_reducible apply z52
  | (with_reducible apply zc9; intro hc)
  | (with_reducible apply z97; intro hc)
  | (with_reducible apply zg9; intro hc)
  | (apply z49; exact rfl)
 all_goals first
  | (have : ¬ zf3 m = 2 := by omega
     simp [jr6, *]; done)
  | (have : zf3 m = 2 := by omega
     simp [jr6, *]; done)
def jl9 (s : List UInt8) (n : Nat) : Option (List UInt8 × List UInt8) := if jr6 (s.take n) (s.drop (n + 1)) = [] then none else some (s.take n, s.drop (n + 1))
def qd9 (s : List UInt8) : Option (List UInt8 × List UInt8) := match s.findIdx? (· == 46) with
 | none => none
 | some n => jl9 s n
theorem jd9 {s : List UInt8} {n : Nat} {b : UInt8} (h : n < s.length) (h1 : (s.take n).all (· != b) = true) (h2 : s[n] = b) : s.findIdx? (· == b) = some n := by
 rw [List.findIdx?_eq_some_iff_getElem]
 refine ⟨h, by simp [h2], fun j hj => ?_⟩
 have := List.all_eq_true.1 h1 s[j] (by rw [List.mem_take_iff_getElem]; exact ⟨j, by omega, rfl⟩)
 simpa using this
theorem w96 {s : List UInt8} {b : UInt8} (h1 : s.all (· != b) = true) : s.findIdx? (· == b) = none := by
 rw [List.findIdx?_eq_none_iff]
 intro x hx
 simpa using List.all_eq_true.1 h1 x hx
theorem j29 (s : List UInt8) (hl : s.length < 2^31) : Rets Vv 150 [.c (.str s)] (splitV (qd9 s)) := by
 refine z35 wh0 ?_
 repeat' first
  | apply z01
  | exact z17
  | (apply z12; exact rfl; exact rfl)
  | apply z03
  | apply z00
  | apply z02
  | apply z05
 refine z93 (fun n : Nat => [(0, .c (.str s)), (5, .c (.int .i64 n))]) (fun n => n ≤ s.length ∧ (s.take n).all (· != 46) = true) (fun n => s.length - n) 0 ?_ ⟨Nat.zero_le _, tk0⟩ ?_
 · repeat' first
    | exact z18
    | refine z47 rfl ?_
 rintro n ⟨hn, hall⟩
 have hd : (s.drop (n + 1)).length < 2^31 := by rw [List.length_drop]; omega
 have ht : (s.take n).length < 2^31 := by rw [List.length_take]; omega
 repeat' first
  | apply z01
  | exact z17
  | (apply z12; exact rfl; exact rfl)
  | (apply z88; exact rfl; exact rfl; omega)
  | (apply z23; (iterate 3 exact rfl))
  | (apply z27; exact rfl)
  | (apply za2; (iterate 3 exact rfl); exact List.getElem?_eq_getElem (by omega))
  | (apply zk9; exact rfl; exact rfl; omega)
  | (apply zs5; (iterate 3 exact rfl); omega)
  | (apply z04; focus (repeat (first | exact z18 | (apply kq_c; exact rfl))))
  | apply z03
  | apply z00
  | apply z02
  | apply z05
  | apply z06
  | apply z07
  | apply z42
  | apply zn4
  | apply qh6
  | (apply z15; exact rfl)
  | (apply qu5; (exact rfl))
  | (with_reducible apply zb1; intro hc)
  | (with_reducible apply z69; intro hc)
  | (with_reducible apply zc9; intro hc)
  | (with_reducible apply z97; intro hc)
  | (with_reducible apply z56; intro hc)
  | (with_reducible apply z40; intro hc)
  | (apply qi4; exact rfl)
  | (apply jl3)
  | (apply jt7 (hc := w25 (s.take n) (s.drop (n + 1)) ht hd); exact rfl; exact rfl; exact rfl)
  | (apply dand; exact rfl)
  | (apply qj8; (exact ShI.c rfl); (exact ShI.c rfl); (exact ShI.c rfl); (exact by decide))
 · refine ⟨n + 1, ?_, rfl, ⟨by omega, tkS (by omega) hall ?_⟩, by omega⟩
   · repeat' first
      | exact z18
      | refine z47 rfl ?_
   · rename_i hc
     have e := u8eq (c := s[n]'(by omega)) (n := 46) (by decide)
     simp only [bne_iff_ne, ne_eq]
     intro e2
     rw [e2] at hc
     exact hc rfl
 all_goals have h46 : (h : n < s.length) → ((s[n].toNat : Int) = 46) → s[n] = 46 := fun h h2 => (u8eq (n := 46) (by decide)).1 h2
 · rw [qd9, jd9 (by omega) hall (h46 (by omega) (by assumption))]
   simp [jl9, splitV, *]
 · rw [qd9, jd9 (by omega) hall (h46 (by omega) (by assumption))]
   simp [jl9, splitV, *]
 · rw [qd9, w96 (tkE (by omega) hall)]
   simp [splitV]
end Go.Proofs.TryzL
namespace Go.Proofs.Lz
theorem j75 {n : Int} (h : 0 ≤ n ∧ n < 256) : IntKind.u8.wrap n = n := by
 simp [IntKind.wrap, IntKind.bits, IntKind.signed]
 omega
section
variable {V : WEnv} {fr fr' : WFr} {H H' : z16} {N : Post} {dst : Option Nat}
theorem jm9 {x y : Opd} {a b : Int} (hx : fr.rd x = .c (.int .u8 a)) (hy : fr.rd y = .c (.int .u8 b)) (h0 : 0 ≤ a - b ∧ a - b < 256) (hq : Put fr dst (.c (.int .u8 (a - b))) fr') (h : N fr' H) : OpP V (.bin .sub x y) dst fr H N :=
 z23 hx hy (by simp only [binC, if_true, j75 h0]) hq h
theorem wc1 {x y : Opd} {c : UInt8} (hx : fr.rd x = .c (.int .u8 c.toNat)) (hy : fr.rd y = .c (.int .u64 4)) (hq : Put fr dst (.c (.int .u8 (c.toNat / 16 : Nat))) fr') (h : N fr' H) : OpP V (.bin .shr x y) dst fr H N := by
 refine z23 (v := .int .u8 (c.toNat / 16 : Nat)) hx hy ?_ hq h
 have e : ((c.toNat : Int).fdiv (2 ^ (min (4 : Int).toNat IntKind.u8.bits))) = ((c.toNat / 16 : Nat) : Int) := by
  show (c.toNat : Int).fdiv 16 = _
  rw [Int.fdiv_eq_ediv_of_nonneg _ (by omega)]
  omega
 show (if (0 : Int) ≤ 4 then some (CV.int .u8 ((c.toNat : Int).fdiv (2 ^ (min (4 : Int).toNat IntKind.u8.bits)))) else none) = _
 rw [e]
 rfl
theorem wr7 : ∀ c : UInt8, IntKind.u8.wrap ((BitVec.ofInt IntKind.u8.bits c.toNat &&& BitVec.ofInt IntKind.u8.bits 15).toNat) = ((c.toNat % 16 : Nat) : Int) := by
 have h : ∀ n : Fin 256, IntKind.u8.wrap ((BitVec.ofInt IntKind.u8.bits (n.val : Int) &&& BitVec.ofInt IntKind.u8.bits 15).toNat) = ((n.val % 16 : Nat) : Int) := by decide +kernel
 intro c
 exact h ⟨c.toNat, c.toNat_lt⟩
theorem jv7 {x y : Opd} {c : UInt8} (hx : fr.rd x = .c (.int .u8 c.toNat)) (hy : fr.rd y = .c (.int .u8 15)) (hq : Put fr dst (.c (.int .u8 (c.toNat % 16 : Nat))) fr') (h : N fr' H) : OpP V (.bin .and x y) dst fr H N :=
 z23 (v := .int .u8 (c.toNat % 16 : Nat)) hx hy (by simp only [binC, if_true, wr7 c]) hq h
theorem qz7 {l : List (Nat × WV)} {a : List (Nat × Option (Nat × Nat))} {f p : Nat} {args : List Opd} {r : WV} {Q : z16 → Prop} (hm : V.md f = .S) (ht : V.tk f = [0]) (hp : ze7 [0] 0 (args.map (FL l a).rd) = [.sl p 0 0]) (hl : qr3 [0] 0 (args.map (FL l a).rd) = []) (ho : (args.map (FL l a).rd).all okA = true)
 (hc : Shr V f (zx7 [0] 0 (args.map (FL l a).rd)) H r Q) (hq : Put (FL (hitM isHp false (hitM (inK [.sl p 0 0]) false l)) a) dst r fr') (h : ∀ H', Q H' → N fr' H') : OpP V (.call f args) dst (FL l a) H N := by
 obtain ⟨H2, h1, h2⟩ := hc
 refine ⟨fr', H2, ?_, h H2 h2⟩
 show zb2 V (wv V) f (args.map (FL l a).rd) dst (FL l a) H = _
 simp only [zb2, hm, ht, hp, hl, ho, List.nodup_cons, List.not_mem_nil, not_false_eq_true, List.nodup_nil, List.all_cons, List.all_nil, List.contains_nil, Bool.not_false, Bool.and_true, and_self, if_true, zx5, h1, zv5, hq.eq]
theorem wo8 {n t e : Nat} {b : Bool} {ek : Option Nat} {xs : List CV} {r : WV} {Q : z16 → Prop} (h1 : fr.env t = .own b e ek xs) (hr : r = .own b e ek xs) (h : Q H) : finS n [.tmp t] r Q fr H := by
 subst hr
 refine ⟨[.view (.sl t 0 0) b 0 e ek xs], .own b e ek xs, H, ?_, ?_, rfl, h⟩
 · simp [ze8, h1, zq5, zh1, zk4]
 · unfold zn1
   have e : List.filter (zg2 n) [Pl.sl t 0 0] = [Pl.sl t 0 0] := by simp [zg2]
   simp [zc3, srcC, src1, zk6, zq9, zg2, zc0, zh7, leave1, hitH, e]
theorem zz7 {x : Opd} {xs : List CV} {s : List UInt8} (hx : qa2 none (fr.rd x) = some xs) (hb : ze4 xs = some s) (hq : Put fr dst (.c (.str s)) fr') (h : N fr' H) : OpP V (.b2s x) dst fr H N :=
 ⟨fr', H, by show wOp0 (.b2s x) dst fr H = _; simp only [wOp0, hx, Option.bind_some, hb, hq.eq], h⟩
end
end Go.Proofs.Lz
namespace Go.Proofs.TryzL
open Go.Proofs.Lz
set_option maxHeartbeats 4000000
def js1 (s : List UInt8) : Bool := (qd9 s).isSome || j03 s
theorem jl0 (s : List UInt8) (hl : s.length < 2^31) : Rets Vv 130 [.c (.str s)] (.c (.bool (js1 s))) := by
 refine z35 wp9 ?_
 cases h : qd9 s with
 | none =>
   have hs : Rets Vv 150 [.c (.str s)] (.tup [.c (.str []), .c (.str []), .c (.bool false)]) := by have := j29 s hl; rw [h] at this; exact this
   repeat' first
    | apply z01
    | exact z17
    | exact z30 rfl
    | (apply z12; exact rfl; exact rfl)
    | (apply z13; exact rfl; (with_reducible rfl); exact rfl)
    | (apply z94; (iterate 3 exact rfl))
    | (apply zi9; exact rfl; exact rfl)
    | (apply z08 (hc := hs); exact rfl; exact rfl; exact rfl)
    | (apply z08 (hc := j43 s hl); exact rfl; exact rfl; exact rfl)
    | apply z03
    | apply z00
    | apply z02
    | apply z07
    | (apply z39; exact rfl; (with_reducible rfl))
    | (apply z49; exact rfl)
   all_goals (simp only [js1, h]; rfl)
 | some p =>
   have hs : Rets Vv 150 [.c (.str s)] (.tup [.c (.str p.1), .c (.str p.2), .c (.bool true)]) := by have := j29 s hl; rw [h] at this; exact this
   repeat' first
    | apply z01
    | exact z17
    | exact z30 rfl
    | (apply z12; exact rfl; exact rfl)
    | (apply z09; exact rfl; (with_reducible rfl); exact rfl)
    | (apply z94; (iterate 3 exact rfl))
    | (apply zi9; exact rfl; exact rfl)
    | (apply z08 (hc := hs); exact rfl; exact rfl; exact rfl)
    | apply z03
    | apply z00
    | apply z02
    | apply z07
    | (apply z32; exact rfl; (with_reducible rfl))
    | (apply z49; exact rfl)
   all_goals (simp only [js1, h]; rfl)
def numF : List UInt8 → Nat → Option Nat
 | [], a => some a
 | c :: r, a => if zo9 c = true ∧ a ≤ (9223372036854775807 - (c.toNat - 48)) / 10 then numF r (10 * a + (c.toNat - 48)) else none
theorem ww6 (x : Int) (h : 0 ≤ x ∧ x ≤ 9) : IntKind.i64.wrap ((9223372036854775807 - x).tdiv 10) = (9223372036854775807 - x) / 10 := by
 rw [Int.tdiv_eq_ediv_of_nonneg (by omega)]
 exact wrap64 (by omega)
theorem wd8 {c : UInt8} (h : zo9 c = true) : 48 ≤ c.toNat ∧ c.toNat ≤ 57 := by simpa [zo9] using h
def numR (s : List UInt8) : Option Nat := if s = [] ∨ (s[0]? = some 48 ∧ 1 < s.length) then none else numF s 0
def numV (o : Option Nat) : WV := match o with
 | none => .tup [.c (.int .i64 0), .c (.bool false)]
 | some n => .tup [.c (.int .i64 n), .c (.bool true)]
theorem jj5 (s : List UInt8) (hl : s.length < 2^31) : Rets Vv 131 [.c (.str s)] (numV (numR s)) := by
 refine z35 wn4 ?_
 cases h0 : s[0]? with
 | none =>
   have : s = [] := by cases s <;> simp_all
   subst this
   repeat' first
    | apply z01
    | exact z17
    | exact z30 rfl
    | (apply z12; exact rfl; exact rfl)
    | (apply z23; (iterate 3 exact rfl))
    | (apply z09; exact rfl; (with_reducible rfl); exact rfl)
    | (apply z04; focus (repeat (exact z18)))
    | apply z03
    | apply z00
    | apply z02
    | apply z07
    | (apply z38; exact rfl; (with_reducible rfl))
    | (apply z39; exact rfl; (with_reducible rfl))
    | (apply z32; exact rfl; (with_reducible rfl))
    | (apply z90; exact rfl)
    | (apply z28; exact rfl)
    | (with_reducible apply zb1; intro hc)
    | (with_reducible apply z69; intro hc)
    | (apply zx8; (exact ShI.c rfl); (exact ShI.c rfl); (exact by decide))
   all_goals first
    | rfl
    | (exfalso; simp_all; done)
 | some c =>
   have hne : s ≠ [] := by intro e; rw [e] at h0; cases h0
   have e48 : ((c.toNat : Int) = 48) ↔ c = 48 := u8eq (n := 48) (by decide)
   repeat' first
    | apply z01
    | exact z17
    | exact z30 rfl
    | (apply z12; exact rfl; exact rfl)
    | (apply z23; (iterate 3 exact rfl))
    | (apply z27; exact rfl)
    | (apply z09; exact rfl; (with_reducible rfl); exact rfl)
    | (apply z13; exact rfl; (with_reducible rfl); exact rfl)
    | (apply za2; (iterate 3 exact rfl); assumption)
    | (apply z04; focus (repeat (first | exact z18 | (apply kq_c; exact rfl))))
    | apply z03
    | apply z00
    | apply z02
    | apply z05
    | apply z06
    | apply z07
    | (apply z38; exact rfl; (with_reducible rfl))
    | (apply z34; exact rfl; (with_reducible rfl))
    | (apply z15; exact rfl)
    | (apply z39; exact rfl; (with_reducible rfl))
    | (apply z29; exact rfl; (with_reducible rfl))
    | (apply z32; exact rfl; (with_reducible rfl))
    | (apply z90; exact rfl)
    | (apply z28; exact rfl)
    | (with_reducible apply z96; intro hc)
    | (with_reducible apply zb1; intro hc)
    | (with_reducible apply z62; intro hc)
    | (with_reducible apply z69; intro hc)
    | (with_reducible apply z56; intro hc)
    | (with_reducible apply z40; intro hc)
    | (apply zx8; (exact ShI.c rfl); (exact ShI.c rfl); (exact by decide))
   any_goals contradiction
   any_goals
    have h1 : c = 48 := e48.1 (by assumption)
    have h2 : 1 < s.length := by omega
    simp [numR, h0, h1, h2, numV]
    done
   any_goals
    have hnum : numR s = numF s 0 := by
     simp only [numR]
     rw [if_neg]
     rintro (hh | ⟨h1, h2⟩)
     · exact hne hh
     · rw [h0] at h1
       injection h1 with h1
       have := e48.2 h1
       omega
    refine z93 (fun p : Nat × Nat => [(0, .c (.str s)), (4, .c (.int .i64 p.2)), (5, .c (.int .i64 p.1))]) (fun p => p.1 ≤ s.length ∧ p.2 ≤ 9223372036854775807 ∧ numF s 0 = numF (s.drop p.1) p.2) (fun p => s.length - p.1) (0, 0) ?_ ⟨Nat.zero_le _, Nat.zero_le _, by simp⟩ ?_
    · repeat' first
       | exact z18
       | refine z47 rfl ?_
    rintro ⟨n, a⟩ ⟨hn, ha, hf⟩
    dsimp only at hn ha hf
    dsimp only
    by_cases hns : n < s.length
    · have hdrop : s.drop n = s[n] :: s.drop (n + 1) := List.drop_eq_getElem_cons hns
      have h148 := j23 s[n]
      cases hd : zo9 s[n] with
      | false =>
        rw [hd] at h148
        repeat' first
         | apply z01
         | exact z17
         | (apply z12; exact rfl; exact rfl)
         | (apply z23; (iterate 3 exact rfl))
         | (apply z27; exact rfl)
         | (apply za8; exact rfl; exact rfl)
         | (apply za2; (iterate 3 exact rfl); exact List.getElem?_eq_getElem (by omega))
         | (apply z08 (hc := h148); exact rfl; exact rfl; exact rfl)
         | (apply z04; focus (repeat (first | exact z18 | (apply kq_c; exact rfl))))
         | apply z03
         | apply z00
         | apply z02
         | apply z05
         | apply z06
         | apply z07
         | apply z42
         | (apply z15; exact rfl)
         | with_reducible exact qm3
         | with_reducible apply qp5
         | with_reducible apply z50
         | with_reducible apply z52
         | (with_reducible apply z56; intro hc)
         | (with_reducible apply z40; intro hc)
         | (apply zx8; (exact ShI.c rfl); (exact ShI.c rfl); (exact by decide))
        any_goals omega
        rw [hnum, hf, hdrop]
        simp [numF, hd, numV]
      | true =>
        rw [hd] at h148
        obtain ⟨b1, b2⟩ := wd8 hd
        have hqq := ww6 ((s[n].toNat : Int) - 48) (by omega)
        by_cases hq : a ≤ (9223372036854775807 - (s[n].toNat - 48)) / 10
        · repeat' first
           | apply z01
           | exact z17
           | (apply z12; exact rfl; exact rfl)
           | (apply z88; exact rfl; exact rfl; omega)
           | (apply zp5; exact rfl; exact rfl; omega)
           | (apply jz6; exact rfl; exact rfl; omega)
           | (apply jm9; exact rfl; exact rfl; omega)
           | (apply z23; (iterate 3 exact rfl))
           | (apply z27; exact rfl)
           | (apply za8; exact rfl; exact rfl)
           | (apply za2; (iterate 3 exact rfl); exact List.getElem?_eq_getElem (by omega))
           | (apply j05; exact rfl; omega)
           | (apply z08 (hc := h148); exact rfl; exact rfl; exact rfl)
           | (apply z04; focus (repeat (first | exact z18 | (apply kq_c; exact rfl))))
           | apply z03
           | apply z00
           | apply z02
           | apply z05
           | apply z06
           | apply z07
           | apply z42
           | (apply z15; exact rfl)
           | with_reducible exact q48
           | with_reducible apply q74
           | with_reducible apply z50
           | with_reducible apply z52
           | (with_reducible apply z56; intro hc)
           | (with_reducible apply z40; intro hc)
           | (apply zx8; (exact ShI.c rfl); (exact ShI.c rfl); (exact by decide))
          any_goals omega
          any_goals first
           | (exfalso; rw [hqq] at hc; omega)
           | skip
          · refine ⟨(n + 1, 10 * a + (s[n].toNat - 48)), ?_, rfl, ⟨by dsimp only; omega, by dsimp only; omega, ?_⟩, by dsimp only; omega⟩
            · have e4 : (10 * (a : Int) + ((s[n].toNat : Int) - 48)) = ((10 * a + (s[n].toNat - 48) : Nat) : Int) := by omega
              repeat' first
               | exact z18
               | refine z47 rfl ?_
               | refine z47 ?_ ?_
              all_goals (show WV.c (CV.int .i64 (10 * (a : Int) + ((s[n].toNat : Int) - 48))) = _; rw [e4])
            · rw [hf, hdrop]
              simp [numF, hd, hq]
        · repeat' first
           | apply z01
           | exact z17
           | (apply z12; exact rfl; exact rfl)
           | (apply z88; exact rfl; exact rfl; omega)
           | (apply zp5; exact rfl; exact rfl; omega)
           | (apply jz6; exact rfl; exact rfl; omega)
           | (apply jm9; exact rfl; exact rfl; omega)
           | (apply z23; (iterate 3 exact rfl))
           | (apply z27; exact rfl)
           | (apply za8; exact rfl; exact rfl)
           | (apply za2; (iterate 3 exact rfl); exact List.getElem?_eq_getElem (by omega))
           | (apply j05; exact rfl; omega)
           | (apply z08 (hc := h148); exact rfl; exact rfl; exact rfl)
           | (apply z04; focus (repeat (first | exact z18 | (apply kq_c; exact rfl))))
           | apply z03
           | apply z00
           | apply z02
           | apply z05
           | apply z06
           | apply z07
           | apply z42
           | (apply z15; exact rfl)
           | with_reducible exact q48
           | with_reducible apply q74
           | with_reducible apply z50
           | with_reducible apply z52
           | (with_reducible apply z56; intro hc)
           | (with_reducible apply z40; intro hc)
           | (apply zx8; (exact ShI.c rfl); (exact ShI.c rfl); (exact by decide))
          any_goals omega
          any_goals first
           | (exfalso; rw [hqq] at hc; omega)
           | skip
          · rw [hnum, hf, hdrop]
            simp [numF, hd, hq, numV]
    · repeat' first
       | apply z01
       | exact z17
       | (apply z12; exact rfl; exact rfl)
       | (apply z23; (iterate 3 exact rfl))
       | (apply z27; exact rfl)
       | (apply za2; (iterate 3 exact rfl); exact List.getElem?_eq_getElem (by omega))
       | (apply z04; focus (repeat (first | exact z18 | (apply kq_c; exact rfl))))
       | apply z03
       | apply z00
       | apply z02
       | apply z05
       | apply z06
       | apply z07
       | apply z42
       | (apply z15; exact rfl)
       | (with_reducible apply z56; intro hc)
       | (with_reducible apply z40; intro hc)
       | (apply zx8; (exact ShI.c rfl); (exact ShI.c rfl); (exact by decide))
      any_goals omega
      rw [hnum, hf, List.drop_of_length_le (by omega)]
      simp [numF, numV]
end Go.Proofs.TryzL
namespace Go.Proofs.TryzL
open Go.Proofs.Lz
def zv7 (s : List UInt8) : Nat → Int
 | 0 => -1
 | n + 1 => if s[n]? = some 36 then (n : Int) else zv7 s n
theorem j36 (s : List UInt8) : ∀ n, -1 ≤ zv7 s n ∧ zv7 s n < n
 | 0 => by simp [zv7]
 | n + 1 => by
   have := j36 s n
   unfold zv7
   split <;> omega
def j39 (s : List UInt8) (i : Int) : Option (List UInt8 × Nat) := if i < 0 then none else if js1 (s.take i.toNat) then (match numR (s.drop (i + 1).toNat) with
 | none => none
 | some v => some (s.take i.toNat, v)) else none
def je2 (s : List UInt8) : Option (List UInt8 × Nat) := j39 s (zv7 s s.length)
def qr9 (o : Option (List UInt8 × Nat)) : WV := match o with
 | none => .tup [.c (.str []), .c (.int .i64 0), .c (.bool false)]
 | some p => .tup [.c (.str p.1), .c (.int .i64 p.2), .c (.bool true)]
theorem w12 (s : List UInt8) (hl : s.length < 2^31) : Rets Vv 106 [.c (.str s)] (qr9 (je2 s)) := by
 refine z35 wi9 ?_
 repeat' first
  | apply z01
  | exact z17
  | (apply z12; exact rfl; exact rfl)
  | apply z03
  | apply z00
  | apply z02
  | apply z05
 refine z93 (fun n : Nat => [(0, .c (.str s)), (5, .c (.int .i64 (zv7 s n))), (6, .c (.int .i64 n))]) (fun n => n ≤ s.length) (fun n => s.length - n) 0 ?_ (Nat.zero_le _) ?_
 · repeat' first
    | exact z18
    | refine z47 rfl ?_
 intro n hn
 by_cases hns : n < s.length
 · have e36 := u8eq (c := s[n]) (n := 36) (by decide)
   have hg : s[n]? = some s[n] := List.getElem?_eq_getElem hns
   repeat' first
    | apply z01
    | exact z17
    | exact z30 rfl
    | (apply z12; exact rfl; exact rfl)
    | (apply z88; exact rfl; exact rfl; omega)
    | (apply z23; (iterate 3 exact rfl))
    | (apply z27; exact rfl)
    | (apply z09; exact rfl; (with_reducible rfl); exact rfl)
    | (apply za2; (iterate 3 exact rfl); assumption)
    | (apply zz2; exact rfl; exact rfl; omega; omega)
    | (apply z04; focus (repeat (first | exact z18 | (apply kq_c; exact rfl))))
    | apply z03
    | apply z00
    | apply z02
    | apply z05
    | apply z06
    | apply z07
    | apply z42
    | (apply z38; exact rfl; (with_reducible rfl))
    | (apply z15; exact rfl)
    | (apply z39; exact rfl; (with_reducible rfl))
    | (apply z32; exact rfl; (with_reducible rfl))
    | (apply z28; exact rfl)
    | (with_reducible apply z96; intro hc)
    | (with_reducible apply z62; intro hc)
    | (with_reducible apply z56; intro hc)
    | (with_reducible apply z40; intro hc)
    | (apply qj8; (exact ShI.c rfl); (exact ShI.c rfl); (exact ShI.c rfl); (exact by decide))
   any_goals omega
   · refine ⟨n + 1, ?_, rfl, by omega, by omega⟩
     have h1 : s[n] = 36 := e36.1 (by assumption)
     have h2 : zv7 s (n + 1) = n := by simp [zv7, hg, h1]
     rw [h2]
     repeat' first
      | exact z18
      | refine z47 rfl ?_
   · refine ⟨n + 1, ?_, rfl, by omega, by omega⟩
     have h1 : ¬ s[n] = 36 := fun h => by rename_i hc; exact hc (e36.2 h)
     have h2 : zv7 s (n + 1) = zv7 s n := by simp [zv7, hg, h1]
     rw [h2]
     repeat' first
      | exact z18
      | refine z47 rfl ?_
 · have hnl : n = s.length := by omega
   subst hnl
   obtain ⟨b1, b2⟩ := j36 s s.length
   have hb : je2 s = j39 s (zv7 s s.length) := rfl
   generalize zv7 s s.length = i at *
   have ht : (s.take i.toNat).length < 2^31 := by rw [List.length_take]; omega
   have hd : (s.drop (i + 1).toNat).length < 2^31 := by rw [List.length_drop]; omega
   have hnum := jj5 (s.drop (i + 1).toNat) hd
   cases hv : numR (s.drop (i + 1).toNat) with
   | none =>
     rw [hv] at hnum
     simp only [numV] at hnum
     repeat' first
      | apply z01
      | exact z17
      | exact z30 rfl
      | (apply z12; exact rfl; exact rfl)
      | (apply z88; exact rfl; exact rfl; omega)
      | (apply z23; (iterate 3 exact rfl))
      | (apply z27; exact rfl)
      | (apply za8; exact rfl; exact rfl)
      | (apply z09; exact rfl; (with_reducible rfl); exact rfl)
      | (apply z13; exact rfl; (with_reducible rfl); exact rfl)
      | (apply za2; (iterate 3 exact rfl); exact List.getElem?_eq_getElem (by omega))
      | (apply z94; (iterate 3 exact rfl))
      | (apply zi9; exact rfl; exact rfl)
      | (apply zz2; exact rfl; exact rfl; omega; omega)
      | (apply zs3; exact rfl; exact rfl; omega; omega)
      | (apply z08 (hc := jl0 (s.take i.toNat) ht); exact rfl; exact rfl; exact rfl)
      | (apply z08 (hc := hnum); exact rfl; exact rfl; exact rfl)
      | (apply z04; focus (repeat (first | exact z18 | (apply kq_c; exact rfl))))
      | apply z03
      | apply z00
      | apply z02
      | apply z05
      | apply z06
      | apply z07
      | apply z42
      | (apply z38; exact rfl; (with_reducible rfl))
      | (apply z15; exact rfl)
      | (apply z39; exact rfl; (with_reducible rfl))
      | (apply z32; exact rfl; (with_reducible rfl))
      | (apply z28; exact rfl)
      | with_reducible exact qm3
      | with_reducible apply qp5
      | with_reducible apply z50
      | with_reducible apply z52
      | (with_reducible apply z96; intro hc)
      | (with_reducible apply z62; intro hc)
      | (with_reducible apply z56; intro hc)
      | (with_reducible apply z40; intro hc)
      | (with_reducible apply zg9; intro hc)
      | (apply qj8; (exact ShI.c rfl); (exact ShI.c rfl); (exact ShI.c rfl); (exact by decide))
     any_goals (exfalso; omega)
     all_goals (rw [hb]; simp [j39, qr9, *])
   | some v =>
     rw [hv] at hnum
     simp only [numV] at hnum
     repeat' first
      | apply z01
      | exact z17
      | exact z30 rfl
      | (apply z12; exact rfl; exact rfl)
      | (apply z88; exact rfl; exact rfl; omega)
      | (apply z23; (iterate 3 exact rfl))
      | (apply z27; exact rfl)
      | (apply za8; exact rfl; exact rfl)
      | (apply z09; exact rfl; (with_reducible rfl); exact rfl)
      | (apply z13; exact rfl; (with_reducible rfl); exact rfl)
      | (apply za2; (iterate 3 exact rfl); exact List.getElem?_eq_getElem (by omega))
      | (apply z94; (iterate 3 exact rfl))
      | (apply zi9; exact rfl; exact rfl)
      | (apply zz2; exact rfl; exact rfl; omega; omega)
      | (apply zs3; exact rfl; exact rfl; omega; omega)
      | (apply z08 (hc := jl0 (s.take i.toNat) ht); exact rfl; exact rfl; exact rfl)
      | (apply z08 (hc := hnum); exact rfl; exact rfl; exact rfl)
      | (apply z04; focus (repeat (first | exact z18 | (apply kq_c; exact rfl))))
      | apply z03
      | apply z00
      | apply z02
      | apply z05
      | apply z06
      | apply z07
      | apply z42
      | (apply z38; exact rfl; (with_reducible rfl))
      | (apply z15; exact rfl)
      | (apply z39; exact rfl; (with_reducible rfl))
      | (apply z32; exact rfl; (with_reducible rfl))
      | (apply z28; exact rfl)
      | with_reducible exact q48
      | with_reducible apply q74
      | with_reducible apply z50
      | with_reducible apply z52
      | (with_reducible apply z96; intro hc)
      | (with_reducible apply z62; intro hc)
      | (with_reducible apply z56; intro hc)
      | (with_reducible apply z40; intro hc)
      | (with_reducible apply zg9; intro hc)
      | (apply qj8; (exact ShI.c rfl); (exact ShI.c rfl); (exact ShI.c rfl); (exact by decide))
     any_goals (exfalso; omega)
     all_goals (rw [hb]; simp [j39, qr9, *])
def zu1 (s : List UInt8) : Nat := if zf3 s ≠ 0 then zf3 s else if (je2 s).isSome then 7 else 0
theorem z54 (s : List UInt8) (hl : s.length < 2^31) : Rets Vv 82 [.c (.str s)] (.c (.int .i64 (zu1 s))) := by
 refine z35 wr1 ?_
 have hb := w12 s hl
 cases h : je2 s with
 | none =>
   rw [h] at hb
   simp only [qr9] at hb
   repeat' first
    | apply z01
    | exact z17
    | exact z30 rfl
    | (apply z12; exact rfl; exact rfl)
    | (apply z23; (iterate 3 exact rfl))
    | (apply z94; (iterate 3 exact rfl))
    | (apply zi9; exact rfl; exact rfl)
    | (apply z08 (hc := zw1 s hl); exact rfl; exact rfl; exact rfl)
    | (apply z08 (hc := hb); exact rfl; exact rfl; exact rfl)
    | (apply z04; focus (repeat (first | exact z18 | (apply kq_c; exact rfl))))
    | apply z03
    | apply z00
    | apply z02
    | apply z06
    | apply z07
    | (apply z34; exact rfl; (with_reducible rfl))
    | (apply z15; exact rfl)
    | (with_reducible apply zc9; intro hc)
    | (with_reducible apply z97; intro hc)
    | (apply z49; exact rfl)
   · have : zf3 s ≠ 0 := by omega
     simp [zu1, this]
   · have : zf3 s = 0 := by omega
     simp [zu1, this, h]
 | some p =>
   rw [h] at hb
   simp only [qr9] at hb
   repeat' first
    | apply z01
    | exact z17
    | exact z30 rfl
    | (apply z12; exact rfl; exact rfl)
    | (apply z23; (iterate 3 exact rfl))
    | (apply z94; (iterate 3 exact rfl))
    | (apply zi9; exact rfl; exact rfl)
    | (apply z08 (hc := zw1 s hl); exact rfl; exact rfl; exact rfl)
    | (apply z08 (hc := hb); exact rfl; exact rfl; exact rfl)
    | (apply z04; focus (repeat (first | exact z18 | (apply kq_c; exact rfl))))
    | apply z03
    | apply z00
    | apply z02
    | apply z06
    | apply z07
    | (apply z38; exact rfl; (with_reducible rfl))
    | (apply z15; exact rfl)
    | (with_reducible apply zc9; intro hc)
    | (with_reducible apply z97; intro hc)
    | (apply z49; exact rfl)
   · have : zf3 s ≠ 0 := by omega
     simp [zu1, this]
   · have : zf3 s = 0 := by omega
     simp [zu1, this, h]
end Go.Proofs.TryzL
