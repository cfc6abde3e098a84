/- Chapter 02: bytes' classes, in the lexer and in the reference. -/
import Derived.Test.YtencoceemejcnaaGreatDoorLzVc2
import Derived.Test.YtencoceemejcnaaGreatDoorLzCode02
import Derived.Test.YtencoceemejcnaaGreatDoorLzLays02
import Derived.Test.YtencoceemejcnaaGreatDoorLzExt2
import Derived.Test.YtencoceemejcnaaGreatDoorLzBld
import Derived.Test.YtencoceemejcnaaGreatDoorLzWCode
import Derived.Test.YtencoceemejcnaaGreatDoorRows
import Derived.Test.YtencoceemejcnaaGreatDoorTie
import Derived.Test.YtencoceemejcnaaGreatDoorCards
import Derived.Test.YtencoceemejcnaaGreatDoorLzRow2
import Derived.ProofKit
import Derived.Lay
import Derived.Lib.LaidTab
import Derived.Lib.LaidU8
import Derived.Handed
import Derived.LaidOnce
import Derived.SevenTiedAt
set_option linter.unusedSimpArgs false
set_option linter.unusedVariables false
namespace Go.Proofs.Lz
section
variable {V : WEnv} {fr fr' : WFr} {H H' : z01} {N : Post} {B : Hs} {R : RP} {dst : Option Nat} {d : Nat}
def j06 : WV → Bool
 | .view p _ _ _ _ _ => !isHp p
 | .eptr p _ _ _ _ => !isHp p
 | _ => true
def qs1 : WV → Bool
 | .agg cs => cs.all j06
 | v => j06 v
def jw7 : WV → Bool
 | .tup vs => vs.all qs1
 | .lbox _ v => qs1 v
 | v => qs1 v
def qo4 : List (Nat × WV) → Bool
 | [] => true
 | (_, v) :: r => jw7 v && qo4 r
theorem jh5 {s i k : Nat} {v : WV} (h : j06 v = true) : hit1 isHp false (.sl s i k) v = v := by
 cases v with
 | own bb e ek xs => rfl
 | view p bb off e ek xs =>
   have : isHp p = false := by simpa [j06] using h
   simp only [hit1, this]; rfl
 | eptr p i off ek x =>
   have : isHp p = false := by simpa [j06] using h
   simp only [hit1, this]; rfl
 | _ => rfl
theorem w68 {s i : Nat} : ∀ (k : Nat) (cs : List WV), cs.all j06 = true → hitL isHp false (Pl.sl s i) k cs = cs := by
 intro k cs
 induction cs generalizing k with
 | nil => intro _; rfl
 | cons v r ih =>
   intro h
   simp only [List.all_cons, Bool.and_eq_true] at h
   simp only [hitL, jh5 h.1, ih _ h.2]
theorem j35 {s i : Nat} {v : WV} (h : qs1 v = true) : hitC isHp false (Pl.sl s i) v = v := by
 have h1 : ∀ w, qs1 w = j06 w → hitC isHp false (Pl.sl s i) w = hit1 isHp false (Pl.sl s i 0) w → qs1 w = true → hitC isHp false (Pl.sl s i) w = w := fun w e1 e2 e3 => by rw [e2]; exact jh5 (by rw [← e1]; exact e3)
 cases v <;> first | exact h1 _ rfl rfl h | (simp only [hitC]; rw [w68 0 _ h])
theorem w09 {s : Nat} : ∀ (i : Nat) (vs : List WV), vs.all qs1 = true → hitT isHp false (Pl.sl s) i vs = vs := by
 intro i vs
 induction vs generalizing i with
 | nil => intro _; rfl
 | cons v r ih =>
   intro h
   simp only [List.all_cons, Bool.and_eq_true] at h
   simp only [hitT, j35 h.1, ih _ h.2]
theorem we7 {s : Nat} {v : WV} (h : jw7 v = true) : hit isHp false (Pl.sl s) v = v := by
 have h1 : ∀ w, jw7 w = qs1 w → hit isHp false (Pl.sl s) w = hitC isHp false (Pl.sl s 0) w → jw7 w = true → hit isHp false (Pl.sl s) w = w := fun w e1 e2 e3 => by rw [e2]; exact j35 (by rw [← e1]; exact e3)
 cases v <;> first | exact h1 _ rfl rfl h | (simp only [hit, w09 0 _ h]; done) | (simp only [hit]; rw [j35 h])
theorem w60 : ∀ {l : List (Nat × WV)}, qo4 l = true → hitM isHp false l = l := by
 intro l
 induction l with
 | nil => intro _; rfl
 | cons p r ih =>
   obtain ⟨t, v⟩ := p
   intro h
   simp only [qo4, Bool.and_eq_true] at h
   simp only [hitM, we7 h.1, ih h.2]
theorem z71 {ek k : Option Nat} {a : Opd} {id off : Nat} {cs : List WV} {v : WV} (hp : fr.place a = none) (ha : fr.rd a = .ptr id off) (hH : H[id]? = some (.var k cs)) (hv : q25 ek (qj9 (Pl.hp id) 0 cs) off = some v) (hq : Put fr dst v fr') (h : N fr' H) : OpP V (.load ek a) dst fr H N :=
 ⟨fr', H, by show wOp0 (.load ek a) dst fr H = _; simp only [wOp0, hp, ha, q07, hH, hv, wput, hq.eq], h⟩
theorem z67 {ek k : Option Nat} {a : Opd} {id off : Nat} {cs : List WV} {v : CV} (hp : fr.place a = none) (ha : fr.rd a = .ptr id off) (hH : H[id]? = some (.var k cs)) (hv : q25 ek (qj9 (Pl.hp id) 0 cs) off = some (.c v)) (hq : Put fr dst (.c v) fr') (h : N fr' H) : OpP V (.load ek a) dst fr H N := z71 hp ha hH hv hq h
theorem qz9 (u : CV) : (WV.c u).flat.any z16 = false := by
 cases u <;> simp [WV.flat, z16]
theorem z63 {ek k : Option Nat} {a x : Opd} {id off : Nat} {cs cs' : List WV} {u : CV} (hp : fr.place a = none) (ha : fr.rd a = .ptr id off) (hx : fr.rd x = .c u) (hf : fitsW ek (.c u) = true) (hH : H[id]? = some (.var k cs)) (hb : (decide (off + (WV.c u).flat.length ≤ cs.length)) = true) (hc : z34 cs off (WV.c u).flat = cs')
 (h : ∀ H', H'[id]? = some (.var k cs') → (∀ (i : Nat) (o : WO), i ≠ id → H[i]? = some o → H'[i]? = some o) → N fr H') : OpP V (.store ek a x) none fr H N := by
 refine ⟨fr, H.set id (.var k cs'), ?_, h _ (qi8 hH _) (fun i o hi ho => by rw [List.getElem?_set_ne (Ne.symm hi)]; exact ho)⟩
 show wOp0 (.store ek a x) none fr H = _
 simp only [wOp0, hp, ha, hx, zx4, if_pos hf, ql3, hH, if_pos (of_decide_eq_true hb), qz9, Bool.false_eq_true, if_false, hc]
theorem zv1 {ek : Option Nat} {x : Opd} {u : CV} (hx : fr.rd x = .c u) (hf : fitsW (ekB ek) (.c u) = true) (hq : Put fr dst (.ptr H.length 0) fr') (h : N fr' (H ++ [.var ek (WV.c u).flat])) : OpP V (.hbox ek x) dst fr H N :=
 ⟨fr', _, by show wOp0 (.hbox ek x) dst fr H = _; simp only [wOp0, hx, if_pos hf, ql3, hq.eq], h⟩
theorem zi5 {ek : Option Nat} {x : Opd} {v : WV} (hx : fr.rd x = v) (hf : fitsW (ekB ek) v = true) (hs : srcs v = []) (ho : zb6 v = v) (hq : Put fr dst (.ptr H.length 0) fr') (h : N fr' (H ++ [.var ek v.flat])) : OpP V (.hbox ek x) dst fr H N :=
 ⟨fr', _, by
  have ht : Lz.take v fr H = some (v, fr, H) := by unfold Lz.take; rw [hs]; simp only [List.nodup_nil, if_true, za6, ho]
  show wOp0 (.hbox ek x) dst fr H = _; simp only [wOp0, hx, if_pos hf, ht, hq.eq], h⟩
theorem za0 {x i : Opd} {ek : Option Nat} {pl : Pl} {b : Bool} {off e : Nat} {xs : List CV} {k : IntKind} {n : Int} {m : Nat} {v : CV} (hx : fr.rd x = .view pl b off e ek xs) (hi : fr.rd i = .c (.int k n)) (hn : n = (m : Nat)) (hb : xs[m]? = some v) (hq : Put fr dst (.eptr pl (off + m) 0 ek v) fr') (h : N fr' H) : OpP V (.ix ek x i) dst fr H N :=
 ⟨fr', H, by show wOp0 (.ix ek x i) dst fr H = _; subst hn; simp only [wOp0, hx, hi, wint, ixW, true_and, if_pos (Int.natCast_nonneg m), Int.toNat_natCast, hb, wput, hq.eq], h⟩
theorem z12 {α : Type} {x i : Opd} {ek : Option Nat} {pl : Pl} {b : Bool} {off e : Nat} {l : List α} {f : α → CV} {k : IntKind} {n : Int} {m : Nat} {y : α} (hx : fr.rd x = .view pl b off e ek (l.map f)) (hi : fr.rd i = .c (.int k n)) (hn : n = (m : Nat)) (hb : l[m]? = some y) (hq : Put fr dst (.eptr pl (off + m) 0 ek (f y)) fr') (h : N fr' H) : OpP V (.ix ek x i) dst fr H N :=
 za0 hx hi hn (by rw [List.getElem?_map, hb]; rfl) hq h
theorem zc7 {α : Type} {x i : Opd} {ek : Option Nat} {l : List α} {f : α → CV} {k : IntKind} {n : Int} {m : Nat} {y : α} (hx : fr.rd x = .c (.frz ek (l.map f))) (hi : fr.rd i = .c (.int k n)) (hb : l[m]? = some y) (hn : n = (m : Nat)) (hq : Put fr dst (.c (.fptr ek (f y) 0)) fr') (h : N fr' H) : OpP V (.ix ek x i) dst fr H N := z28 hx hi hn hb hq h
theorem z64 {α : Type} {x i : Opd} {ek : Option Nat} {pl : Pl} {b : Bool} {off e : Nat} {l : List α} {f : α → CV} {k : IntKind} {n : Int} {m : Nat} {y : α} (hx : fr.rd x = .view pl b off e ek (l.map f)) (hi : fr.rd i = .c (.int k n)) (hb : l[m]? = some y) (hn : n = (m : Nat)) (hq : Put fr dst (.eptr pl (off + m) 0 ek (f y)) fr') (h : N fr' H) : OpP V (.ix ek x i) dst fr H N := z12 hx hi hn hb hq h
theorem zv3 {x i : Opd} {s : List UInt8} {k : IntKind} {n : Int} {m : Nat} {b : UInt8} (hx : fr.rd x = .c (.str s)) (hi : fr.rd i = .c (.int k n)) (hb : s[m]? = some b) (hn : n = (m : Nat)) (hq : Put fr dst (.c (.int .u8 b.toNat)) fr') (h : N fr' H) : OpP V (.six x i) dst fr H N := zf0 hx hi hn hb hq h
theorem z41 {n off i : Nat} {a : Opd} {pl : Pl} {ek : Option Nat} {x : CV} (hp : fr.place a = none) (ha : fr.rd a = .eptr pl i off ek x) (hq : Put fr dst (.eptr pl i (off + n) ek x) fr') (h : N fr' H) : OpP V (.faddr n a) dst fr H N :=
 ⟨fr', H, by show wOp0 (.faddr n a) dst fr H = _; simp only [wOp0, hp, ha, hq.eq], h⟩
theorem z55 {ek ek' : Option Nat} {a : Opd} {pl : Pl} {i off : Nat} {x v : CV} (hp : fr.place a = none) (ha : fr.rd a = .eptr pl i off ek' x) (hv : zz4 ek' ek x off = some v) (hq : Put fr dst (.c v) fr') (h : N fr' H) : OpP V (.load ek a) dst fr H N :=
 ⟨fr', H, by show wOp0 (.load ek a) dst fr H = _; simp only [wOp0, hp, ha, q07, hv, Option.map, wput, hq.eq], h⟩
theorem z60 {α : Type} {x : Opd} {p : Pl} {b : Bool} {off e : Nat} {ek : Option Nat} {l : List α} {f : α → CV} (hx : fr.rd x = .view p b off e ek (l.map f)) (hq : Put fr dst (.c (.int .i64 l.length)) fr') (h : N fr' H) : OpP V (.len false x) dst fr H N :=
 qm7 hx (by show some (l.map f).length = _; rw [List.length_map]) hq h
theorem zf9 {l : List (Nat × WV)} {al : List (Nat × Option (Nat × Nat))} {e : Nat} {ek kk : Option Nat} {bytes id k : Nat} {s x : Opd} {xs new : List CV} {cs : List WV} {b' : Bool} {e' : Nat} {ek' : Option Nat} {ys : List CV}
 (hs : (FL l al).rd s = .view (.hp id k) true 0 e ek xs) (hx : zr6 ek ((FL l al).rd x) = some new) (hb : (xs.length + new.length) * bytes ≤ 140737488355328 ∧ xs.length + new.length ≤ 140737488355328) (hH : H[id]? = some (.var kk cs)) (hk : cs[k]? = some (.own b' e' ek' ys))
 (hq : Put (FL (hitM (inK [.hp id k]) false l) al) dst (.own true e ek (xs ++ new)) fr') (h : ∀ H', H'[id]? = some (.var kk (cs.set k .gone)) → (∀ (i : Nat) (o : WO), i ≠ id → H[i]? = some o → H'[i]? = some o) → N fr' H') : OpP V (.app e ek bytes s x) dst (FL l al) H N := by
 refine ⟨fr', H.set id (.var kk (cs.set k .gone)), ?_, h _ (qi8 hH _) (fun i o hi ho => by rw [List.getElem?_set_ne (Ne.symm hi)]; exact ho)⟩
 have hh : za6 [.hp id k] false (FL l al) H = (FL (hitM (inK [.hp id k]) false l) al, H.set id (.var kk (cs.set k .gone))) := by
  show (hitF (inK [.hp id k]) false (FL l al), hitH false [.hp id k] H) = _
  rw [zx0]
  simp only [hitH, hH, hk, hit1, if_true, Bool.false_eq_true, if_false]
 show appW e ek bytes ((FL l al).rd s) ((FL l al).rd x) dst (FL l al) H = _
 simp only [appW, hx, hs, true_and, lim, if_pos hb, hh, hq.eq]
theorem z62 {l : List (Nat × WV)} {al : List (Nat × Option (Nat × Nat))} {k : Option Nat} {a x : Opd} {id off t : Nat} {cs : List WV} {b : Bool} {o e : Nat} {ek : Option Nat} {xs : List CV} (hp : (FL l al).place a = none) (ha : (FL l al).rd a = .ptr id off) (hx : (FL l al).rd x = .view (.sl t 0 0) b o e ek xs) (hH : H[id]? = some (.var k cs)) (hb : (decide (off + 1 ≤ cs.length)) = true)
 (h : ∀ H', H'[id]? = some (.var k (cs.set off (.own b e ek xs))) → (∀ (i : Nat) (o : WO), i ≠ id → H[i]? = some o → H'[i]? = some o) → N (FL (hitM (inHp id off 1) false (hitM (inK [.sl t 0 0]) false l)) al) H') : OpP V (.store none a x) none (FL l al) H N := by
 have hb := of_decide_eq_true hb
 refine ⟨_, H.set id (.var k (cs.set off (.own b e ek xs))), ?_, h _ (qi8 hH _) (fun i o hi ho => by rw [List.getElem?_set_ne (Ne.symm hi)]; exact ho)⟩
 have hs : z34 cs off [.own b e ek xs] = cs.set off (.own b e ek xs) := by
  unfold z34
  rw [List.set_eq_take_append_cons_drop, if_pos (by omega)]
  simp
 have hn : ([Pl.sl t 0 0] : List Pl).Nodup := by simp
 show wOp0 (.store none a x) none (FL l al) H = _
 simp only [wOp0, hp, ha, hx, zx4, fitsW, cellW, if_true, Lz.take, srcs, srcC, src1, if_pos hn, q28, zb6, z05, z95, hH, WV.flat, List.length_cons, List.length_nil, Nat.zero_add, if_pos hb, List.any_cons, z16, List.any_nil, Bool.or_false, hs, zx0]
theorem zl1 {ek : Option Nat} {x : Opd} {us : List WV} (hx : fr.rd x = .agg us) (hf : fitsW (ekB ek) (.agg us) = true) (hs : srcL us = []) (ho : us.map z95 = us) (hq : Put fr dst (.ptr H.length 0) fr') (h : N fr' (H ++ [.var ek us])) : OpP V (.hbox ek x) dst fr H N :=
 zi5 hx hf hs (by show WV.agg (us.map z95) = _; rw [ho]) hq h
theorem z00 {K : Pl → Bool} {fz : Bool} {x : List (Nat × WV)} {s : Nat} (h : z97 (FL x []) (some s) = true) : z97 (FL (hitM K fz x) []) (some s) = true := by
 have e : (FL (hitM K fz x) []).env s = hit K fz (Pl.sl s) ((FL x []).env s) := by
  show frl (hitM K fz x) s = _
  rw [qv8]; rfl
 unfold z97 at h ⊢
 simp only [e]
 simp only at h
 generalize (FL x []).env s = v at h ⊢
 cases v with
 | lbox ek v => simp at h
 | own b e ek xs => cases h1 : K (Pl.sl s 0 0) <;> cases fz <;> simp [hit, hitC, hit1, h1]
 | view p b off e ek xs => cases h1 : K p <;> simp [hit, hitC, hit1, h1]
 | eptr p i off ek x => cases h1 : K p <;> simp [hit, hitC, hit1, h1]
 | _ => rfl
def nbx : WV → Bool
 | .lbox _ _ => false
 | _ => true
structure Shr (V : WEnv) (f : Nat) (asv : List WV) (H : z01) (r : WV) (Q : z01 → Prop) : Prop where
 run : ∃ H', wv V f asv H = some (r, H') ∧ Q H'
theorem qk8 : ∀ (i : Nat) (vs : List WV), ze5 [] i vs = [] := by
 intro i vs
 induction vs generalizing i with
 | nil => rfl
 | cons v r ih => simp only [ze5, List.contains_nil, Bool.false_eq_true, if_false, ih, List.append_nil]
theorem q29 {l : List (Nat × WV)} {a : List (Nat × Option (Nat × Nat))} {f : Nat} {args : List Opd} {r : WV} {Q : z01 → Prop} (hm : V.md f = .S) (ht : V.tk f = []) (hn : qo4 l = true) (ho : (args.map (FL l a).rd).all okA = true)
 (hc : Shr V f (q15 [] 0 (args.map (FL l a).rd)) H r Q) (hq : Put (FL l a) dst r fr') (h : ∀ H', Q H' → N fr' H') : OpP V (.call f args) dst (FL l a) H N := by
 obtain ⟨H2, h1, h2⟩ := hc
 refine ⟨fr', H2, ?_, h H2 h2⟩
 show z50 V (wv V) f (args.map (FL l a).rd) dst (FL l a) H = _
 simp only [z50, hm, ht, qk8, ho, List.nodup_nil, List.all_nil, and_self, if_true, za6, h1, zx0, w60 hn, hq.eq]
theorem zx9 {l : List (Nat × WV)} {a : List (Nat × Option (Nat × Nat))} {f : Nat} {args : List Opd} {r : WV} {Q : z01 → Prop} (hm : V.md f = .S) (ht : V.tk f = []) (ho : (args.map (FL l a).rd).all okA = true)
 (hc : Shr V f (q15 [] 0 (args.map (FL l a).rd)) H r Q) (hq : Put (FL (hitM isHp false l) a) dst r fr') (h : ∀ H', Q H' → N fr' H') : OpP V (.call f args) dst (FL l a) H N := by
 obtain ⟨H2, h1, h2⟩ := hc
 refine ⟨fr', H2, ?_, h H2 h2⟩
 show z50 V (wv V) f (args.map (FL l a).rd) dst (FL l a) H = _
 simp only [z50, hm, ht, qk8, ho, List.nodup_nil, List.all_nil, and_self, if_true, za6, h1, zx0, hq.eq]
theorem shut_bool {r0 : WV} {b : Bool} (h : shut r0 = some (.c (.bool b))) : r0 = .c (.bool b) := by
 cases r0 with
 | c v => simpa [shut, qj4, shut1, ze1] using h
 | agg cs => simp only [shut, qj4] at h; cases hl : jb3 cs <;> rw [hl] at h <;> simp at h
 | tup vs => simp only [shut] at h; cases hl : qu1 vs <;> rw [hl] at h <;> simp at h
 | _ => simp [shut, qj4, shut1, ze1] at h
theorem jg8 {f : Nat} {asv : List WV} {b : Bool} (h : Rets V f asv (.c (.bool b))) : ∃ H', wv V f asv [] = some (.c (.bool b), H') := by
 obtain ⟨r0, H, h1, h2⟩ := h
 exact ⟨H, by rw [h1, shut_bool h2]⟩
def finS (n : Nat) (res : List IRes) (r : WV) (Q : z01 → Prop) : Post := fun fr H => ∃ vs r0 H', zi1 fr H res = some vs ∧ zy9 n vs H = some (r0, H') ∧ r0 = r ∧ Q H'
theorem wp_goto {l : Nat} (h : R.go l fr H) : WP V (.goto l) fr H N B R := ⟨.goto l, fr, H, rfl, h⟩
theorem zc2 {l : Nat} (h : N fr H) : WP V (.label l) fr H N B R := ⟨.nrm, fr, H, rfl, h⟩
end
section
variable {fr : WFr} {H : z01}
theorem qq5 {r1 r2 : IRes} {u v : CV} {r : WV} (h1 : ShI fr r1 u) (h2 : ShI fr r2 v) (hd : ([r1, r2].map IRes.at).Nodup) (e : r = .tup [.c u, .c v]) : fin [r1, r2] r fr H := by
 subst e
 exact qi4 hd (.cons h1 (.cons h2 .nil))
theorem qr4 {r1 r2 r3 : IRes} {u v w : CV} {r : WV} (h1 : ShI fr r1 u) (h2 : ShI fr r2 v) (h3 : ShI fr r3 w) (hd : ([r1, r2, r3].map IRes.at).Nodup) (e : r = .tup [.c u, .c v, .c w]) : fin [r1, r2, r3] r fr H := by
 subst e
 exact qi4 hd (.cons h1 (.cons h2 (.cons h3 .nil)))
end
end Go.Proofs.Lz
namespace Go.Proofs.TryzL
open Go.Proofs.Lz Go.Shelf
def errP (vs : List Value) : Prop := ∃ ev, vs = [ev] ∧ (ev = .nilIface ∨ ∃ t p, ev = .iface t p)
instance : GlobTab := ⟨[(0, fun vs => ∃ m : Int, vs = [.int .i64 m]), (1, fun vs => vs = Lib.pow10Tab.map fun z => Value.int .u64 z), (4, errP), (5, errP)]⟩
def extT : Nat → Option (List CV → Option (List CV))
 | 35 => some idxG
 | 43 => some repG
 | 54 => some hpfG
 | 77 => some hasG
 | 84 => some w13
 | 81 => some w79
 | 117 => some w58
 | 118 => some w15
 | 173 => some cutG
 | _ => none
def arT : Nat → Option Nat
 | 46 => some 1
 | 78 => some 1
 | _ => none
def fnH (n : Nat) : Option IFn := qq3 ((46, stI 63 5) :: (78, ccI 63) :: fnL) n
def Ev : Env := { fn := fnH, md := mds, ext := extT, ar := arT }
theorem x240 : Builder.X72 Tryz.prog Tryz.rLays_n240 where
 sizeBuilder := by kernel_rfl
 liesBuilder := by kernel_rfl
theorem x169 : Builder.Extra Tryz.prog Tryz.rLays_n169 where
 sizeBuilder := by kernel_rfl
 liesBuilder := by kernel_rfl
 t5 := Tryz.underlying5
 a5 := Tryz.isAgg5
 z5 := Tryz.sizeOf5
 v5 := Tryz.zeroValue5
 infoByte := by kernel_rfl
 cellsByte := by kernel_rfl
 sizeByte := by kernel_rfl
 neB5 := by decide
theorem x105 : Builder.Extra Tryz.prog Tryz.rLays_n105 where
 sizeBuilder := by kernel_rfl
 liesBuilder := by kernel_rfl
 t5 := Tryz.underlying5
 a5 := Tryz.isAgg5
 z5 := Tryz.sizeOf5
 v5 := Tryz.zeroValue5
 infoByte := by kernel_rfl
 cellsByte := by kernel_rfl
 sizeByte := by kernel_rfl
 neB5 := by decide
theorem l144 : Lays.n144 Tryz.prog Tryz.rLaysM_n144 := { Tryz.lLaysM_n144 with }
theorem en35 : ∀ args w, (callFunc 35 args).run Tryz.prog w = .ok (.enter 35 args) w := enters_of Tryz.func35 (by kernel_rfl) rfl
theorem en43 : ∀ args w, (callFunc 43 args).run Tryz.prog w = .ok (.enter 43 args) w := enters_of Tryz.func43 (by kernel_rfl) rfl
theorem en54 : ∀ args w, (callFunc 54 args).run Tryz.prog w = .ok (.enter 54 args) w := enters_of Tryz.func54 (by kernel_rfl) rfl
theorem en77 : ∀ args w, (callFunc 77 args).run Tryz.prog w = .ok (.enter 77 args) w := enters_of Tryz.func77 (by kernel_rfl) rfl
theorem en84 : ∀ args w, (callFunc 84 args).run Tryz.prog w = .ok (.enter 84 args) w := enters_of Tryz.func84 (by kernel_rfl) rfl
theorem wn0 : ∀ args w, (callFunc 117 args).run Tryz.prog w = .ok (.enter 117 args) w := enters_of Tryz.func117 (by kernel_rfl) rfl
theorem en46 : ∀ args w, (callFunc 46 args).run Tryz.prog w = .ok (.enter 46 args) w := enters_of Tryz.func46 (by kernel_rfl) rfl
theorem en78 : ∀ args w, (callFunc 78 args).run Tryz.prog w = .ok (.enter 78 args) w := enters_of Tryz.func78 (by kernel_rfl) rfl
theorem en81 : ∀ args w, (callFunc 81 args).run Tryz.prog w = .ok (.enter 81 args) w := enters_of Tryz.func81 (by kernel_rfl) rfl
theorem wn9 : ∀ args w, (callFunc 118 args).run Tryz.prog w = .ok (.enter 118 args) w := enters_of Tryz.func118 (by kernel_rfl) rfl
theorem wn2 : ∀ args w, (callFunc 173 args).run Tryz.prog w = .ok (.enter 173 args) w := enters_of Tryz.func173 (by kernel_rfl) rfl
theorem gl0 (w : World) (F : Nat → Prop) (h : Glob w F) : ∃ m : Int, w.cell? ⟨0, 0, none⟩ = some (.int .i64 m) := by
 obtain ⟨vs, _, h2, m, rfl⟩ := qz5 (g := 0) (p := fun vs => ∃ m : Int, vs = [.int .i64 m]) (by simp [GlobTab.tab]) h
 exact ⟨m, h2 0⟩
theorem glE {g : Nat} (hg : (g, errP) ∈ GlobTab.tab) (w : World) (F : Nat → Prop) (h : Glob w F) : ∃ ev, w.cell? ⟨g, 0, none⟩ = some ev ∧ (ev = .nilIface ∨ ∃ te pe, ev = .iface te pe) := by
 obtain ⟨vs, _, h2, ev, rfl, h3⟩ := qz5 hg h
 exact ⟨ev, h2 0, h3⟩
theorem glP (w : World) (F : Nat → Prop) (h : Glob w F) : Lib.TabIs Tryz.prog w "internal/strconv.uint64pow10" .u64 Lib.pow10Tab := by
 obtain ⟨vs, rfl, h2⟩ := js8 (P := Tryz.prog) (g := 1) (p := fun vs => vs = Lib.pow10Tab.map fun z => Value.int .u64 z) (name := "internal/strconv.uint64pow10") (by simp [GlobTab.tab]) (by kernel_rfl) h
 exact h2
theorem l145 : Lays.n145 Tryz.prog Tryz.rLaysM_n145 := { Tryz.lLaysM_n145 with }
theorem evOk : EnvOk Tryz.prog Ev where
 fn := by
  intro f g h
  have h : qq3 ((46, stI 63 5) :: (78, ccI 63) :: fnL) f = some g := h
  unfold qq3 at h
  cases hb : Nat.beq 46 f with
  | true =>
    have := Nat.eq_of_beq_eq_true hb
    subst this
    exact .inr (w53 (T := 63) (e := 5) (ρ := Tryz.rLays_n169) rfl rfl Tryz.lLays_n169 x169 rfl rfl rfl en46)
  | false =>
    rw [hb] at h
    have h : qq3 ((78, ccI 63) :: fnL) f = some g := h
    unfold qq3 at h
    cases hb2 : Nat.beq 78 f with
    | true =>
      have := Nat.eq_of_beq_eq_true hb2
      subst this
      exact .inr (w01 (T := 63) (ρ := Tryz.rLays_n240) rfl rfl Tryz.lLays_n240 x240 rfl rfl en78)
    | false =>
      rw [hb2] at h
      have h : fnT f = some g := h
      exact .inl (Option.bind_eq_some_iff.1 (we9 f g h))
 ext := by
  intro f g h
  simp only [Ev, extT] at h
  split at h <;> first
   | (cases h; done)
   | (injection h with h; subst h; first
       | exact wk8 Tryz.lLays_n137 rfl en35
       | exact wj7 Tryz.lLays_n105 x105 rfl en43
       | exact wb3 Tryz.lLays_n99 rfl en54
       | exact wd4 l144 rfl en77
       | exact w21 Tryz.lLays_n160 rfl en84
       | exact w59 Tryz.lLays_n149 rfl wn0
       | exact w05 Tryz.lLaysM_n171 rfl en81 glP
       | exact w67 Tryz.lLaysC_n172 rfl wn9 (glE (g := 4) (by simp [GlobTab.tab])) (glE (g := 5) (by simp [GlobTab.tab]))
       | exact w91 l145 rfl wn2 gl0)
def tkT : Nat → List Nat
 | 50 => [0]
 | _ => []
def Vv : WEnv := { fn := fnH, md := mds, tk := tkT, ext := extT, ar := arT }
theorem envR : EnvR Vv Ev := ⟨rfl, rfl, rfl, rfl⟩
theorem vfn7 : Vv.fn 7 = some ic7 := rfl
theorem wn5 : Vv.fn 17 = some ic17 := rfl
end Go.Proofs.TryzL
set_option maxRecDepth 100000
namespace Go.Proofs.YtencoceemejcnaaGreatDoor
open Go.ChangeShapes Go.WideShapes Go.ChangeAt Go.RowKit Go.Proofs.Lz
open Go.Proofs.TryzL
theorem Tryz.own : ownKnob Tryz.prog.godebug = none := by kernel_rfl
theorem Tryz.laidOut : laidOutB Tryz.prog = true := by kernel_rfl
def zp4 : List (String × DataW Unit) := [("math/bits.deBruijn32tab", Rows.laid_math_bits_deBruijn32tab), ("math/bits.deBruijn64tab", Rows.laid_math_bits_deBruijn64tab), ("internal/strconv.uint64pow10", Rows.laid_internal_strconv_uint64pow10), ("unicode/utf8.acceptRanges", Rows.laid_unicode_utf8_acceptRanges), ("strconv.ErrRange", Rows.laid_strconv_ErrRange), ("strconv.ErrSyntax", Rows.laid_strconv_ErrSyntax), ("unicode/utf8.first", Rows.laid_unicode_utf8_first)]
theorem jb7 {W : World} (hS : W.ShapedOpen Tryz.prog) {g : Nat} {t : TypeId} (hg : g < Tryz.prog.globals.size) (hz : (((begin Tryz.prog (fun _ _ => 0) default).world.heap[g]?).bind Obj.row?).map (fun p => (p.1.size, p.2)) = some (1, t)) (hb : Tryz.prog.buildable t = true) (hc : Tryz.prog.cellTypes Tryz.prog.depth t = some [t]) (hu : Tryz.prog.underlying t = some (.int .i64)) :
 ∃ m : Int, W.heap[g]? = some (.cells #[.int .i64 m] t) := by
 cases hw : ((begin Tryz.prog (fun _ _ => 0) default).world.heap[g]?).bind Obj.row? with
 | none => rw [hw] at hz; cases hz
 | some p =>
   obtain ⟨zero, t'⟩ := p
   rw [hw] at hz
   simp only [Option.map_some, Option.some.injEq, Prod.mk.injEq] at hz
   obtain ⟨hz1, rfl⟩ := hz
   obtain ⟨cs, h1, h2, h3⟩ := hS.1 g zero t' hg hw
   obtain ⟨ts, k1, _, k3⟩ := h3 hb
   rw [hc] at k1
   injection k1 with k1; subst k1
   have hsz : cs.size = 1 := by rw [h2, hz1]
   obtain ⟨l⟩ := cs
   match l, hsz, h1, k3 with
   | [v], _, h1, k3 =>
     obtain ⟨u, hu1, hu2⟩ := k3 0 v (by simp)
     simp at hu1; subst hu1
     unfold Cell.ok at hu2
     rw [hu] at hu2
     cases v with
     | int k n =>
       obtain ⟨rfl, _⟩ := hu2
       exact ⟨n, h1⟩
     | _ => exact hu2.elim
theorem jd7 {W : World} {g : Nat} {cs : Array Value} {t : TypeId} {q : Nat × Nat} (h : W.heap[g]? = some (.cells cs t q)) : ∀ off, W.cell? ⟨g, off, none⟩ = cs.toList[off]? := by
 intro off
 simp [World.cell?, h]
theorem qz1 {W : World} {n : String} {g : Nat} {cs : Array Value} (hn : Tryz.prog.globalNamed n = some g) (h : W.var? Tryz.prog n = some cs) : ∀ off, W.cell? ⟨g, off, none⟩ = cs.toList[off]? := by
 intro off
 have := World.var?_cell hn h off
 rw [this]
 simp
theorem j82 {W : World} {n : String} {g : Nat} {d : DataW Unit} {s : String} {t : TypeId} {ms : Array (String × TypeId)} (hr : Go.Lib.VarReads Tryz.prog W n (.iface s d)) (hn : Tryz.prog.globalNamed n = some g) (ht : (Tryz.prog.globals[g]?).map (·.type) = some t) (hu : Tryz.prog.underlying t = some (.interface ms)) :
 ∃ vs, vs ≠ [] ∧ (∀ off, W.cell? ⟨g, off, none⟩ = vs[off]?) ∧ errP vs := by
 obtain ⟨g', t', cs, fuel, p, h1, h2, h3, h4⟩ := hr
 obtain rfl := Option.some.inj (hn.symm.trans h1)
 obtain rfl := Option.some.inj (ht.symm.trans h2)
 have hv := qz1 hn h3
 obtain ⟨l⟩ := cs
 cases fuel with
 | zero => simp [DataW.trod] at h4
 | succ fuel =>
   unfold DataW.trod at h4
   rw [hu] at h4
   have key : ∃ u v, l = [.iface u v] := by
    rcases l with _ | ⟨v, _ | ⟨v2, r⟩⟩
    · cases h4
    · cases v <;> first | exact ⟨_, _, rfl⟩ | (cases h4; done)
    · cases v <;> (cases h4; done)
   obtain ⟨u, v, rfl⟩ := key
   exact ⟨_, by simp, hv, _, rfl, .inr ⟨u, v, rfl⟩⟩
theorem w39 {W : World} (hS : W.ShapedOpen Tryz.prog) (hL : laidMet Tryz.prog zp4 W) : Glob W (fun b => b < W.heap.size) := by
 have blk : ∀ {g : Nat} {cs : List Value}, cs ≠ [] → (∀ off, W.cell? ⟨g, off, none⟩ = cs[off]?) → g < W.heap.size := by
  intro g cs h0 h
  obtain ⟨t, q, hb⟩ := j81 h0 h
  exact (Array.getElem?_eq_some_iff.1 hb).1
 intro p hp
 have hp : p ∈ [(0, fun vs : List Value => ∃ m : Int, vs = [.int .i64 m]), (1, fun vs => vs = Lib.pow10Tab.map fun z => Value.int .u64 z), (4, errP), (5, errP)] := hp
 simp only [List.mem_cons, List.not_mem_nil, or_false] at hp
 have key : ∃ vs, vs ≠ [] ∧ (∀ off, W.cell? ⟨p.1, off, none⟩ = vs[off]?) ∧ p.2 vs := by
  rcases hp with rfl | rfl | rfl | rfl
  · obtain ⟨m, hm⟩ := jb7 (t := 3) hS (g := 0) (by rw [show Tryz.prog.globals.size = 8 by kernel_rfl]; decide) (by kernel_rfl) (by kernel_rfl) (by kernel_rfl) (by kernel_rfl)
    exact ⟨[.int .i64 m], by simp, jd7 hm, m, rfl⟩
  · obtain ⟨g', t', cs, fuel, q, h1, h2, h3, h4⟩ := Go.Lib.laidMet.reads hL (n := "internal/strconv.uint64pow10") (d := Rows.laid_internal_strconv_uint64pow10) (by simp [zp4])
    obtain rfl := Option.some.inj ((show Tryz.prog.globalNamed "internal/strconv.uint64pow10" = some 1 by kernel_rfl).symm.trans h1)
    obtain rfl := Option.some.inj ((show (Tryz.prog.globals[1]?).map (·.type) = some 139 by kernel_rfl).symm.trans h2)
    have hcs := Go.Lib.cells_of_tab (n := 20) (e := 104) (k := .u64) (zs := Go.Lib.pow10Tab) (by kernel_rfl) (by kernel_rfl) (by kernel_rfl) (by kernel_rfl) (by rw [h4]; rfl)
    have hv := qz1 (g := 1) (by kernel_rfl) h3
    exact ⟨cs.toList, by rw [hcs]; simp [Go.Lib.pow10Tab], hv, hcs⟩
  · exact j82 (Go.Lib.laidMet.reads hL (n := "strconv.ErrSyntax") (d := Rows.laid_strconv_ErrSyntax) (by simp [zp4])) (t := 65) (ms := #[("Error", 72)]) (by kernel_rfl) (by kernel_rfl) (by kernel_rfl)
  · exact j82 (Go.Lib.laidMet.reads hL (n := "strconv.ErrRange") (d := Rows.laid_strconv_ErrRange) (by simp [zp4])) (t := 65) (ms := #[("Error", 72)]) (by kernel_rfl) (by kernel_rfl) (by kernel_rfl)
 obtain ⟨vs, h0, h1, h2⟩ := key
 exact ⟨blk h0 h1, vs, h0, h1, h2⟩
theorem qx8 {H : Type} {enc : TypeId × Value → H} {a : Assume} {C : Checked} {os : Os} {f : FuncId} {fn : Func} {s : ChangeSpec} {conds : List PathCond} {apart fresh handsOn again : Bool} {X : World → Array Value → Prop}
 (hX : ∀ (w w' : World) (args : Array Value), w.heap = w'.heap → X w args → X w' args)
 (own : ownKnob C.prog.godebug = none) (started : os.Started) (noInit : C.prog.inits.idxOf? f = none) (hfn : C.prog.funcs[f]? = some fn)
 (witness : ∃ (w : World) (tape : Tape) (i : Input), w.os = os ∧ (w.forCall tape i).Shaped C.prog ∧ i.vars = [] ∧ Input.okWide C.prog (w.forCall tape i) .any w.heap.size f i ∧
   ((s.pre enc C.prog fn conds apart (w.forCall tape i).memory i.args ∧ X (w.forCall tape i).memory i.args) ∧ sizedMet enc C.prog fn (OpenSpec.ofChange s) apart (w.forCall tape i).memory i.args) ∧ a.holds C.prog (lone (Frame.enter C.prog f i.args .normal) [] (w.forCall tape i)))
 (contract : ∀ (W : World) (base : Nat) (args : Array Value) (ds gs : List (DataW H)) (before : List MemPlace), W.ShapedOpen C.prog →
   (∀ (j : Nat) t v, fn.params[j]? = some t → args[j]? = some v → Value.okWide C.prog W .any base t v) →
   DataW.Whole enc C.prog fn.params.toList s.vars apart W args.toList ds gs before → X W args →
   Calls C.prog f args W fun e W' => ∃ v, e = .returned v ∧ s.post enc C.prog fn apart fresh handsOn again W args v W') :
 ReturnsInHanded a C os f .any (fun w args => (s.pre enc C.prog fn conds apart w args ∧ X w args) ∧ sizedMet enc C.prog fn (OpenSpec.ofChange s) apart w args) (s.post enc C.prog fn apart fresh handsOn again) := by
 refine returnsInHanded_of_calls own started noInit witness ?_
 intro w tape i _ hsh _ hok hpre hholds
 obtain ⟨_, _, _, fn', hfn', _, _, _, _, hval⟩ := hok
 have e : fn' = fn := Option.some.inj (hfn'.symm.trans hfn)
 subst e
 obtain ⟨⟨⟨ds, gs, before, hw, hc⟩, hx⟩, hz⟩ := hpre
 have hw' := DataW.Whole.of_heap (w' := w.forCall tape i) (by rfl) hw
 refine (contract (w.forCall tape i) w.heap.size i.args ds gs before hsh hval hw' (hX _ _ _ (by rfl) hx)).mono fun e W' ⟨v, he, hp⟩ => ?_
 subst he
 exact ChangeSpec.post_blind hp
theorem qk2 (w : World) : laidMetH Tryz.prog zp4 w = laidMet Tryz.prog zp4 w := by
 rw [MakeChecks.laidMetH_plain _ _ _ (by kernel_rfl)]
theorem ja1 (os : Os) (args : Array Value) : laidMetH Tryz.prog zp4 ((World.laidAll Tryz.prog os zp4).forCall (fun _ _ => 0) ⟨#[], args, []⟩).memory := by
 rw [qk2]
 exact laidMet_laidAll _ (by kernel_rfl) (by kernel_rfl)
theorem qw8 (os : Os) : (World.laidAll Tryz.prog os zp4).Shaped Tryz.prog := World.shaped_of_ZipB (by kernel_rfl) (by kernel_rfl)
def jg0 (P : Program) (n : Nat) (ts : List TypeId) : Bool := ts.all fun t => supT P n t && (ekOf P t).isSome && P.readableRec t && decide (t < P.types.size)
theorem qu7 {P : Program} {n : Nat} {ts : List TypeId} (h : jg0 P n ts = true) : ∀ t ∈ ts, supT P n t = true ∧ (ekOf P t).isSome = true ∧ P.readableRec t = true ∧ t < P.types.size := by
 intro t ht
 have := List.all_eq_true.1 h t ht
 simp only [Bool.and_eq_true, decide_eq_true_eq] at this
 exact ⟨this.1.1.1, this.1.1.2, this.1.2, this.2⟩
theorem w98 {f : FuncId} {fn : Func} {s : ChangeSpec} (os : Os) (started : os.Started) {H : Type} (enc : TypeId × Value → H) (hfn : Tryz.prog.funcs[f]? = some fn)
 (hni : Tryz.prog.inits.idxOf? f = none) (hargs : jg0 Tryz.prog 6 fn.params.toList = true) (hres : fn.resultTypes = #[4]) (hv : s.vars = [])
 (hsp : ∀ (ds : List (DataW H)), ds.length = fn.params.toList.length → s.fn H ds = { results := [.lit (.bool true)], args := ds })
 (witness : ∃ (w : World) (tape : Tape) (i : Input), w.os = os ∧ (w.forCall tape i).Shaped Tryz.checked.prog ∧ i.vars = [] ∧ Input.okWide Tryz.checked.prog (w.forCall tape i) .any w.heap.size f i ∧
   ((s.pre enc Tryz.checked.prog fn [] false (w.forCall tape i).memory i.args ∧ laidMetH Tryz.prog zp4 (w.forCall tape i).memory) ∧ sizedMet enc Tryz.checked.prog fn (OpenSpec.ofChange s) false (w.forCall tape i).memory i.args) ∧ ({} : Assume).holds Tryz.checked.prog (lone (Frame.enter Tryz.checked.prog f i.args .normal) [] (w.forCall tape i)))
 (law : ∀ xs, q43 Tryz.prog 6 fn.params.toList xs → ∃ H', ev Ev f (xs.map .c) [] = some (.c (.bool true), H')) :
 ReturnsInHanded {} Tryz.checked os f .any (fun w args => (s.pre enc Tryz.prog fn [] false w args ∧ laidMetH Tryz.prog zp4 w) ∧ sizedMet enc Tryz.prog fn (OpenSpec.ofChange s) false w args) (s.post enc Tryz.prog fn false true false false) := by
 refine qx8 (C := Tryz.checked) (X := fun w _ => laidMetH Tryz.prog zp4 w) (fun _ _ _ hh h => h.of_heap hh) Tryz.own started hni hfn witness ?_
 intro W base args ds gs before hS hval hW hL
 rw [qk2] at hL
 exact jj6 (P := Tryz.prog) evOk Tryz.laidOut (qu7 hargs) (tb := 4) hres (by kernel_rfl) hv hsp law hval (w39 hS hL) hW
end Go.Proofs.YtencoceemejcnaaGreatDoor
namespace Go.Proofs.TryzL
open Go.Proofs.Lz
def bC (c : UInt8) : CV := .int .u8 c.toNat
def upperB (c : UInt8) : Bool := decide (65 ≤ c.toNat ∧ c.toNat ≤ 90)
def lowerB (c : UInt8) : Bool := decide (97 ≤ c.toNat ∧ c.toNat ≤ 122 ∨ c.toNat = 95)
def jf5 (c : UInt8) : Bool := decide (48 ≤ c.toNat ∧ c.toNat ≤ 57)
def knownB (c : UInt8) : Bool := decide (c.toNat = 9 ∨ c.toNat = 10 ∨ 32 ≤ c.toNat ∧ c.toNat ≤ 126)
def identB (c : UInt8) : Bool := upperB c || lowerB c || jf5 c || decide (c.toNat = 39)
def symS : List UInt8 := [33, 35, 36, 37, 38, 42, 43, 46, 47, 60, 61, 62, 63, 64, 92, 94, 124, 45, 126, 58]
def spS : List UInt8 := [40, 41, 91, 93, 123, 125, 44, 59, 96]
def symB (c : UInt8) : Bool := symS.contains c
end Go.Proofs.TryzL
