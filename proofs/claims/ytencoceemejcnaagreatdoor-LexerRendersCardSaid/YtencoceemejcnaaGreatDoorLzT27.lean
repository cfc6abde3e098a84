/- Chapter 02: Render, plain, and the first function. -/
import Derived.Test.YtencoceemejcnaaGreatDoorLzT25
import Derived.Test.YtencoceemejcnaaGreatDoorLzT17
set_option linter.unusedSimpArgs false
set_option linter.unusedVariables false
namespace Go.Proofs.TryzL
open Go.Proofs.Lz
set_option maxHeartbeats 4000000
theorem ww1 (qual text : List UInt8) (n : Int) (auto : Bool) (line col : Int) (hl : text.length < 2^31) (hq : qual.length < 2^31) : Rets Vv 47 [.c (tokA 5 qual text n auto line col)] (.c (.bool (z63 5 qual text n))) := by
 refine z35 qb0 ?_
 repeat' first
  | apply z01
  | exact z17
  | exact z68 rfl
  | (apply z12; exact rfl; exact rfl)
  | (apply z22; (iterate 3 exact rfl))
  | (apply z23; (iterate 3 exact rfl))
  | (apply z09; exact rfl; (with_reducible rfl); exact rfl)
  | (apply z13; exact rfl; (with_reducible rfl); exact rfl)
  | (apply z19; exact rfl; exact z74 rfl)
  | (apply z58; exact rfl; exact rfl; first | exact z41 (by first | exact rfl | assumption | exact z14 (by assumption)) | exact z45 (by first | exact rfl | assumption | exact z14 (by assumption)))
  | (apply z08 (hc := z54 qual hq); exact rfl; exact rfl; exact rfl)
  | (apply z08 (hc := z54 text hl); exact rfl; exact rfl; exact rfl)
  | (apply z04; focus (repeat (first | exact z18 | (apply kq_c; exact rfl) | (apply z48; exact rfl))))
  | apply z03
  | apply z00
  | apply z02
  | apply z05
  | apply z06
  | apply z07
  | (apply z34; exact rfl; (with_reducible rfl))
  | (apply z15; exact rfl)
  | (apply z39; exact rfl; (with_reducible rfl))
  | (apply z29; exact rfl; (with_reducible rfl))
  | (apply z28; exact rfl)
  | with_reducible apply z50
  | with_reducible apply z52
  | (with_reducible apply z96; intro hc; try (exfalso; omega))
  | (with_reducible apply zb1; intro hc)
  | (with_reducible apply z62; intro hc; try (exfalso; omega))
  | (with_reducible apply z69; intro hc)
  | (with_reducible apply zc9; intro hc; try (exfalso; omega))
  | (with_reducible apply z97; intro hc; try (exfalso; omega))
  | (apply z49; exact rfl)
 all_goals first | contradiction | (refine cb ?_; simp [z63, zg8, ← z87 qual (k := 2) (by decide) (by decide), *] <;> omega)
theorem wz7 (qual text : List UInt8) (n : Int) (auto : Bool) (line col : Int) (hl : text.length < 2^31) (hq : qual.length < 2^31) : Rets Vv 47 [.c (tokA 6 qual text n auto line col)] (.c (.bool (z63 6 qual text n))) := by
 refine z35 qb0 ?_
 repeat' first
  | apply z01
  | exact z17
  | exact z68 rfl
  | (apply z12; exact rfl; exact rfl)
  | (apply z22; (iterate 3 exact rfl))
  | (apply z23; (iterate 3 exact rfl))
  | (apply z09; exact rfl; (with_reducible rfl); exact rfl)
  | (apply z13; exact rfl; (with_reducible rfl); exact rfl)
  | (apply z19; exact rfl; exact z74 rfl)
  | (apply z58; exact rfl; exact rfl; first | exact z41 (by first | exact rfl | assumption | exact z14 (by assumption)) | exact z45 (by first | exact rfl | assumption | exact z14 (by assumption)))
  | (apply z08 (hc := z54 qual hq); exact rfl; exact rfl; exact rfl)
  | (apply z08 (hc := z54 text hl); exact rfl; exact rfl; exact rfl)
  | (apply z04; focus (repeat (first | exact z18 | (apply kq_c; exact rfl) | (apply z48; exact rfl))))
  | apply z03
  | apply z00
  | apply z02
  | apply z05
  | apply z06
  | apply z07
  | (apply z34; exact rfl; (with_reducible rfl))
  | (apply z15; exact rfl)
  | (apply z39; exact rfl; (with_reducible rfl))
  | (apply z29; exact rfl; (with_reducible rfl))
  | (apply z28; exact rfl)
  | with_reducible apply z50
  | with_reducible apply z52
  | (with_reducible apply z96; intro hc; try (exfalso; omega))
  | (with_reducible apply zb1; intro hc)
  | (with_reducible apply z62; intro hc; try (exfalso; omega))
  | (with_reducible apply z69; intro hc)
  | (with_reducible apply zc9; intro hc; try (exfalso; omega))
  | (with_reducible apply z97; intro hc; try (exfalso; omega))
  | (with_reducible apply z56; intro hc; try (exfalso; omega))
  | (with_reducible apply z40; intro hc; try (exfalso; omega))
  | (apply z49; exact rfl)
 all_goals first | contradiction | (refine cb ?_; simp [z63, zg8, ← z87 qual (k := 2) (by decide) (by decide), *] <;> omega)
theorem wy4 (qual text : List UInt8) (n : Int) (auto : Bool) (line col : Int) (hl : text.length < 2^31) (hq : qual.length < 2^31) : Rets Vv 47 [.c (tokA 7 qual text n auto line col)] (.c (.bool (z63 7 qual text n))) := by
 refine z35 qb0 ?_
 repeat' first
  | apply z01
  | exact z17
  | exact z30 rfl
  | exact z68 rfl
  | (apply z12; exact rfl; exact rfl)
  | (apply z22; (iterate 3 exact rfl))
  | (apply z23; (iterate 3 exact rfl))
  | (apply z27; exact rfl)
  | (apply z09; exact rfl; (with_reducible rfl); exact rfl)
  | (apply z13; exact rfl; (with_reducible rfl); exact rfl)
  | (apply z19; exact rfl; exact z74 rfl)
  | (apply z58; exact rfl; exact rfl; first | exact z41 (by first | exact rfl | assumption | exact z14 (by assumption)) | exact z45 (by first | exact rfl | assumption | exact z14 (by assumption)))
  | (apply z08 (hc := z54 qual hq); exact rfl; exact rfl; exact rfl)
  | (apply z08 (hc := z54 text hl); exact rfl; exact rfl; exact rfl)
  | (apply z04; focus (repeat (first | exact z18 | (apply kq_c; exact rfl) | (apply z48; exact rfl))))
  | apply z03
  | apply z00
  | apply z02
  | apply z05
  | apply z06
  | apply z07
  | (apply z34; exact rfl; (with_reducible rfl))
  | (apply z15; exact rfl)
  | (apply z39; exact rfl; (with_reducible rfl))
  | (apply z29; exact rfl; (with_reducible rfl))
  | (apply z28; exact rfl)
  | with_reducible apply z50
  | with_reducible apply z52
  | (with_reducible apply z96; intro hc; try (exfalso; omega))
  | (with_reducible apply zb1; intro hc)
  | (with_reducible apply z62; intro hc; try (exfalso; omega))
  | (with_reducible apply z69; intro hc)
  | (with_reducible apply zc9; intro hc; try (exfalso; omega))
  | (with_reducible apply z97; intro hc; try (exfalso; omega))
  | (apply z49; exact rfl)
 all_goals first | contradiction | (refine cb ?_; simp [z63, zg8, ← z87 qual (k := 2) (by decide) (by decide), *] <;> omega)
theorem wx9 (qual text : List UInt8) (n : Int) (auto : Bool) (line col : Int) (hl : text.length < 2^31) (hq : qual.length < 2^31) : Rets Vv 47 [.c (tokA 8 qual text n auto line col)] (.c (.bool (z63 8 qual text n))) := by
 refine z35 qb0 ?_
 cases h0 : text[0]? with
 | none =>
   have : text = [] := by cases text <;> simp_all
   subst this
   repeat' first
    | apply z01
    | exact z17
    | exact z30 rfl
    | exact z68 rfl
    | (apply z12; exact rfl; exact rfl)
    | (apply z22; (iterate 3 exact rfl))
    | (apply z23; (iterate 3 exact rfl))
    | (apply z27; exact rfl)
    | (apply z09; exact rfl; (with_reducible rfl); exact rfl)
    | (apply z13; exact rfl; (with_reducible rfl); exact rfl)
    | (apply z19; exact rfl; exact z74 rfl)
    | (apply z58; exact rfl; exact rfl; first | exact z41 (by first | exact rfl | assumption | exact z14 (by assumption)) | exact z45 (by first | exact rfl | assumption | exact z14 (by assumption)))
    | (apply z08 (hc := z54 qual hq); exact rfl; exact rfl; exact rfl)
    | (apply z08 (hc := z54 [] hl); exact rfl; exact rfl; exact rfl)
    | (apply z04; focus (repeat (first | exact z18 | (apply kq_c; exact rfl) | (apply z48; exact rfl))))
    | apply z03
    | apply z00
    | apply z02
    | apply z05
    | apply z06
    | apply z07
    | (apply z34; exact rfl; (with_reducible rfl))
    | (apply z15; exact rfl)
    | (apply z39; exact rfl; (with_reducible rfl))
    | (apply z29; exact rfl; (with_reducible rfl))
    | (apply z28; exact rfl)
    | with_reducible apply z50
    | with_reducible apply z52
    | (with_reducible apply z96; intro hc; try (exfalso; omega))
    | (with_reducible apply zb1; intro hc)
    | (with_reducible apply z62; intro hc; try (exfalso; omega))
    | (with_reducible apply z69; intro hc)
    | (with_reducible apply zc9; intro hc; try (exfalso; omega))
    | (with_reducible apply z97; intro hc; try (exfalso; omega))
    | (apply z49; exact rfl)
   all_goals first | contradiction | (exfalso; rename_i hq0; simp at hq0; done) | (exfalso; simp_all; done) | (refine cb ?_; simp_all [z63, zg8, ← z87 qual (k := 2) (by decide) (by decide)] <;> omega)
 | some c =>
   have hh : text.headD 0 = c := by cases text <;> simp_all
   repeat' first
    | apply z01
    | exact z17
    | exact z30 rfl
    | exact z68 rfl
    | (apply z12; exact rfl; exact rfl)
    | (apply z22; (iterate 3 exact rfl))
    | (apply z23; (iterate 3 exact rfl))
    | (apply z27; exact rfl)
    | (apply z09; exact rfl; (with_reducible rfl); exact rfl)
    | (apply z13; exact rfl; (with_reducible rfl); exact rfl)
    | (apply za2; (iterate 3 exact rfl); assumption)
    | (apply z19; exact rfl; exact z74 rfl)
    | (apply z58; exact rfl; exact rfl; first | exact z41 (by first | exact rfl | assumption | exact z14 (by assumption)) | exact z45 (by first | exact rfl | assumption | exact z14 (by assumption)))
    | (apply z08 (hc := z54 qual hq); exact rfl; exact rfl; exact rfl)
    | (apply z08 (hc := z54 text hl); exact rfl; exact rfl; exact rfl)
    | (apply z08 (hc := jm5 c); exact rfl; exact rfl; exact rfl)
    | (apply z04; focus (repeat (first | exact z18 | (apply kq_c; exact rfl) | (apply z48; exact rfl))))
    | apply z03
    | apply z00
    | apply z02
    | apply z05
    | apply z06
    | apply z07
    | (apply z34; exact rfl; (with_reducible rfl))
    | (apply z15; exact rfl)
    | (apply z39; exact rfl; (with_reducible rfl))
    | (apply z29; exact rfl; (with_reducible rfl))
    | (apply z28; exact rfl)
    | with_reducible apply z50
    | with_reducible apply z52
    | (with_reducible apply z96; intro hc; try (exfalso; omega))
    | (with_reducible apply zb1; intro hc)
    | (with_reducible apply z62; intro hc; try (exfalso; omega))
    | (with_reducible apply z69; intro hc)
    | (with_reducible apply zc9; intro hc; try (exfalso; omega))
    | (with_reducible apply z97; intro hc; try (exfalso; omega))
    | (apply z49; exact rfl)
   all_goals first | contradiction | (exfalso; rename_i hq0; simp at hq0; done) | (exfalso; simp_all; done) | (refine cb ?_; simp_all [z63, zg8, ← z87 qual (k := 2) (by decide) (by decide)] <;> omega)
end Go.Proofs.TryzL
namespace Go.Proofs.Lz
section
variable {V : WEnv} {fr fr' : WFr} {H H' : z16} {N : Post} {dst : Option Nat}
theorem qi7 {T n id : Nat} {x : Opd} {ek : Option Nat} {cs : List WV} (hx : fr.rd x = .ptr id 0) (hH : H[id]? = some (.var ek cs)) (hT : tyOf ek = some T) (hn : Nat.beq cs.length n = true) (hq : Put fr dst (.ptr id 0) fr') (h : N fr' H) : OpP V (.tyck T n x) dst fr H N :=
 ⟨fr', H, by show wOp0 (.tyck T n x) dst fr H = _; simp only [wOp0, hx, hH, hT, Nat.eq_of_beq_eq_true hn, and_self, if_true, hq.eq], h⟩
theorem wj4 {x y : Opd} {id : Nat} (hx : fr.rd x = .ptr id 0) (hy : fr.rd y = .ptr id 0) (hq : Put fr dst (.c (.bool true)) fr') (h : N fr' H) : OpP V (.peq x y) dst fr H N :=
 ⟨fr', H, by show wOp0 (.peq x y) dst fr H = _; simp only [wOp0, hx, hy, and_self, decide_true, hq.eq], h⟩
theorem je3 {e : Nat} {x : Opd} (hx : fr.rd x = .nils) (hq : Put fr dst (.c (.bool true)) fr') (h : N fr' H) : OpP V (.rowck e x) dst fr H N :=
 ⟨fr', H, by show wOp0 (.rowck e x) dst fr H = _; simp only [wOp0, hx, hq.eq], h⟩
theorem jy4 {e : Nat} {x : Opd} {p : Pl} {xs : List CV} (hx : fr.rd x = .view p true 0 e none xs) (hc : (0 < xs.length ∧ zr2 xs = true)) (hq : Put fr dst (.c (.bool false)) fr') (h : N fr' H) : OpP V (.rowck e x) dst fr H N :=
 ⟨fr', H, by show wOp0 (.rowck e x) dst fr H = _; simp only [wOp0, hx, hc.1, hc.2, and_self, if_true, hq.eq], h⟩
theorem wd5 {l : List (Nat × WV)} {al : List (Nat × Option (Nat × Nat))} {e : Nat} {ek : Option Nat} {zero : List CV} {n : Nat} {parts : List (Nat × Opd)} {z : CV} {xs : List CV} {p : Pl} {ps : List Pl} (hz : za6 ek zero = some z) (hf : fits ek z = true) (hr : zd6 ek (List.replicate n z) (parts.map fun p => (p.1, (FL l al).rd p.2)) = some (xs, p :: ps)) (hq : Put (FL (hitM (inK (p :: ps)) true l) al) dst (.c (.frz ek xs)) fr') (h : N fr' (hitH true (p :: ps) H)) : OpP V (.bsl true e ek zero n parts) dst (FL l al) H N :=
 ⟨fr', _, by
  show wOp0 (.bsl true e ek zero n parts) dst (FL l al) H = _
  have hh : ze2 (p :: ps) true (FL l al) H = (FL (hitM (inK (p :: ps)) true l) al, hitH true (p :: ps) H) := by
   rw [← zv5]; rfl
  simp only [wOp0, hz, if_pos hf, hr, hh, if_true, hq.eq], h⟩
theorem qh9 {k : Option Nat} {a x : Opd} {id off : Nat} {cs : List WV} (hp : fr.place a = none) (ha : fr.rd a = .ptr id off) (hx : fr.rd x = .nils) (hH : H[id]? = some (.var k cs)) (hb : (decide (off + 1 ≤ cs.length)) = true)
 (h : ∀ H', H'[id]? = some (.var k (cs.set off .nils)) → (∀ (i : Nat) (o : WO), i ≠ id → H[i]? = some o → H'[i]? = some o) → N fr H') : OpP V (.store none a x) none fr H N := by
 have hb := of_decide_eq_true hb
 refine ⟨fr, H.set id (.var k (cs.set off .nils)), ?_, h _ (qh2 hH _) (fun i o hi ho => by rw [List.getElem?_set_ne (Ne.symm hi)]; exact ho)⟩
 show wOp0 (.store none a x) none fr H = _
 have ht : Lz.take .nils fr H = some (.nils, fr, H) := by simp [Lz.take, srcs, srcC, src1, ze2, ze0, z43, zb7]
 have hs : z98 cs off [.nils] = cs.set off .nils := by
  simp only [z98, List.length_singleton]
  rw [List.set_eq_take_append_cons_drop, if_pos (by omega), List.append_assoc, List.singleton_append]
 have hf : fitsW none .nils = true := rfl
 simp only [wOp0, hp, ha, hx, zx0, if_pos hf, ht, hH]
 show (if off + 1 ≤ cs.length then some (if false = true then _ else fr, H.set id (.var k (z98 cs off [.nils]))) else none) = _
 rw [if_pos hb, hs]
 rfl
theorem q52 {k : Option Nat} {a x : Opd} {id off j o : Nat} {cs : List WV} (hp : fr.place a = none) (ha : fr.rd a = .ptr id off) (hx : fr.rd x = .ptr j o) (hH : H[id]? = some (.var k cs)) (hb : (decide (off + 1 ≤ cs.length)) = true)
 (h : ∀ H', H'[id]? = some (.var k (cs.set off (.ptr j o))) → (∀ (i : Nat) (o : WO), i ≠ id → H[i]? = some o → H'[i]? = some o) → N fr H') : OpP V (.store none a x) none fr H N := by
 have hb := of_decide_eq_true hb
 refine ⟨fr, H.set id (.var k (cs.set off (.ptr j o))), ?_, h _ (qh2 hH _) (fun i o hi ho => by rw [List.getElem?_set_ne (Ne.symm hi)]; exact ho)⟩
 show wOp0 (.store none a x) none fr H = _
 have ht : Lz.take (.ptr j o) fr H = some (.ptr j o, fr, H) := by simp [Lz.take, srcs, srcC, src1, ze2, ze0, z43, zb7]
 have hs : z98 cs off [.ptr j o] = cs.set off (.ptr j o) := by
  simp only [z98, List.length_singleton]
  rw [List.set_eq_take_append_cons_drop, if_pos (by omega), List.append_assoc, List.singleton_append]
 have hf : fitsW none (.ptr j o) = true := rfl
 simp only [wOp0, hp, ha, hx, zx0, if_pos hf, ht, hH]
 show (if off + 1 ≤ cs.length then some (if false = true then _ else fr, H.set id (.var k (z98 cs off [.ptr j o]))) else none) = _
 rw [if_pos hb, hs]
 rfl
theorem qd5 {x y : Opd} {a b : Int} {k k' : IntKind} (hx : fr.rd x = .c (.int k a)) (hy : fr.rd y = .c (.int k' b)) (hq : Put fr dst (.c (.int k (min a b))) fr') (h : N fr' H) : OpP V (.mx false x y) dst fr H N := wz9 hx hy hq h
theorem w47 {n a b : Nat} {u v : CV} {r : WV} {Q : z16 → Prop} (h1 : fr.env a = .c u) (h2 : fr.env b = .c v) (hr : r = .tup [.c u, .c v]) (h : Q H) : finS n [.tmp a, .tmp b] r Q fr H := by
 subst hr
 refine ⟨[.c u, .c v], .tup [.c u, .c v], H, ?_, ?_, rfl, h⟩
 · simp only [ze8, h1, h2]; rfl
 · rfl
end
end Go.Proofs.Lz
namespace Go.Proofs.TryzL
open Go.Proofs.Lz
def bK : Option Nat := some 67108866
def BB (id : Nat) (l : List UInt8) (H : z16) : Prop := (l = [] ∧ ∃ a, (a = .c .nilp ∨ a = .ptr id 0) ∧ H[id]? = some (.var bK [a, .nils])) ∨ (l ≠ [] ∧ H[id]? = some (.var bK [.ptr id 0, .own true 5 none (bytesV l)]))
def KpH' (id : Nat) (H H' : z16) : Prop := KpH id H H'
theorem w69 {H : z16} {id : Nat} {sl : WV} (hH : H[id]? = some (.var bK [.c .nilp, sl])) : Shr Vv 78 [.ptr id 0] H (.tup []) (fun H' => H'[id]? = some (.var bK [.ptr id 0, sl]) ∧ KpH id H H') := by
 refine q67 wq0 ?_
 unfold ccA ccB
 repeat' first
  | apply z01
  | exact z17
  | exact z30 rfl
  | (apply z81; exact rfl; exact rfl)
  | (apply qn6; exact rfl)
  | (apply qs3; exact rfl; exact rfl; (assumption); exact rfl)
  | (apply qi7; exact rfl; assumption; exact rfl; exact rfl)
  | (apply q52; (iterate 3 exact rfl); assumption; exact rfl; intro H1 hH1 kH1)
  | apply z03
  | apply z00
  | apply z02
  | (apply z15; exact rfl)
  | (with_reducible apply zg9; intro hc)
 all_goals first
  | exact wm0 ⟨hH1, kH1⟩
  | (exfalso; simp at hc; done)
theorem w94 {H : z16} {id : Nat} {sl : WV} (hH : H[id]? = some (.var bK [.ptr id 0, sl])) : Shr Vv 78 [.ptr id 0] H (.tup []) (fun H' => H'[id]? = some (.var bK [.ptr id 0, sl]) ∧ KpH id H H') := by
 refine q67 wq0 ?_
 unfold ccA ccB
 repeat' first
  | apply z01
  | exact z17
  | exact z30 rfl
  | (apply z81; exact rfl; exact rfl)
  | (apply qn6; exact rfl)
  | (apply z91; exact rfl; exact rfl; (assumption); exact rfl)
  | (apply qi7; exact rfl; assumption; exact rfl; exact rfl)
  | (apply wj4; exact rfl; exact rfl)
  | (apply q52; (iterate 3 exact rfl); assumption; exact rfl; intro H1 hH1 kH1)
  | apply z03
  | apply z00
  | apply z02
  | apply z06
  | (apply z38; exact rfl; (with_reducible rfl))
  | (apply z15; exact rfl)
  | (with_reducible apply zg9; intro hc)
 all_goals first
  | exact wm0 ⟨hH, fun _ _ _ h => h⟩
  | (exfalso; simp at hc; done)
theorem qo1 {H : z16} {id : Nat} {a sl : WV} (ha : a = .c .nilp ∨ a = .ptr id 0) (hH : H[id]? = some (.var bK [a, sl])) : Shr Vv 78 [.ptr id 0] H (.tup []) (fun H' => H'[id]? = some (.var bK [.ptr id 0, sl]) ∧ KpH id H H') := by
 rcases ha with rfl | rfl
 · exact w69 hH
 · exact w94 hH
theorem jn9 {H : z16} {id : Nat} {l : List UInt8} {c : UInt8} (h : BB id l H) (hl : l.length < 2^40) : Shr Vv 41 [.ptr id 0, .c (bC c)] H (.c .nili) (fun H' => BB id (l ++ [c]) H' ∧ KpH id H H') := by
 refine q67 wv1 ?_
 rcases h with ⟨rfl, a, ha, hH⟩ | ⟨hne, hH⟩
 · repeat' first
    | apply z01
    | exact z17
    | exact z30 rfl
    | exact zd9 rfl rfl
    | (apply z12; exact rfl; exact rfl)
    | (apply qc8; (iterate 6 exact rfl))
    | (apply zi4; exact rfl; exact rfl)
    | (apply z81; exact rfl; exact rfl)
    | (apply zf4; exact rfl; exact rfl)
    | (apply qd0; exact rfl; exact rfl; (omega))
    | (apply z91; exact rfl; exact rfl; (assumption); exact rfl)
    | (apply zl6; (iterate 3 exact rfl); assumption; exact rfl; intro H1 hH1 kH1)
    | (apply zb4 (hc := ⟨(qo1 ha hH).run⟩); exact rfl; exact rfl; (exact rfl); exact rfl; (exact z30 rfl); rintro H1 ⟨r1, k1⟩)
    | apply z03
    | apply z00
    | apply z02
    | apply z07
   refine qu9 rfl rfl ⟨.inr ⟨by simp, hH1⟩, fun i o hi ho => kH1 i o hi (k1 i o hi ho)⟩
 · have hlen : (bytesV l).length < 2^40 := by simpa [bytesV] using hl
   repeat' first
    | apply z01
    | exact z17
    | exact z30 rfl
    | exact z68 rfl
    | (apply z12; exact rfl; exact rfl)
    | (apply qc8; (iterate 6 exact rfl))
    | (apply zi4; exact rfl; exact rfl)
    | (apply z81; exact rfl; exact rfl)
    | (apply zf4; exact rfl; exact rfl)
    | (apply z91; exact rfl; exact rfl; (assumption); exact rfl)
    | (apply qr1; exact rfl; exact rfl; (simp only [List.length_map, List.length_cons, List.length_nil, List.length_append, List.length_replicate]; omega); assumption; exact rfl; (exact j10 rfl); intro H1 hH1 kH1)
    | (apply zl6; (iterate 3 exact rfl); assumption; exact rfl; intro H1 hH1 kH1)
    | (apply zb4 (hc := ⟨(qo1 (.inr rfl) hH).run⟩); exact rfl; exact rfl; (exact rfl); exact rfl; (exact z30 rfl); rintro H1 ⟨r1, k1⟩)
    | apply z03
    | apply z00
    | apply z02
    | apply z07
   rename_i H3 H2 hH2 kH2
   refine qu9 rfl rfl ⟨.inr ⟨by simp, ?_⟩, ?_⟩
   · rw [zj3]; exact hH1
   · exact fun i o hi ho => kH1 i o hi (kH2 i o hi (k1 i o hi ho))
theorem zx6 {H : z16} {id : Nat} {l s : List UInt8} (h : BB id l H) (hl : l.length < 2^40) (hs : s.length < 2^40) : Shr Vv 42 [.ptr id 0, .c (.str s)] H (.tup [.c (.int .i64 s.length), .c .nili]) (fun H' => BB id (l ++ s) H' ∧ KpH id H H') := by
 refine q67 wr6 ?_
 have hls : (bytesV s).length < 2^40 := by simpa [bytesV] using hs
 rcases h with ⟨rfl, a, ha, hH⟩ | ⟨hne, hH⟩
 · cases s with
   | nil =>
     repeat' first
      | apply z01
      | exact z17
      | exact z30 rfl
      | (apply z12; exact rfl; exact rfl)
      | (apply z27; exact rfl)
      | (apply zi4; exact rfl; exact rfl)
      | (apply z81; exact rfl; exact rfl)
      | (apply zf4; exact rfl; exact rfl)
      | (apply qy1; exact rfl; exact rfl)
      | (apply z91; exact rfl; exact rfl; (assumption); exact rfl)
      | (apply qh9; (iterate 3 exact rfl); assumption; exact rfl; intro H1 hH1 kH1)
      | (apply zb4 (hc := ⟨(qo1 ha hH).run⟩); exact rfl; exact rfl; (exact rfl); exact rfl; (exact z30 rfl); rintro H1 ⟨r1, k1⟩)
      | apply z03
      | apply z00
      | apply z02
      | apply z07
     exact w47 rfl rfl rfl ⟨.inl ⟨rfl, _, .inr rfl, hH1⟩, fun i o hi ho => kH1 i o hi (k1 i o hi ho)⟩
   | cons x r =>
     have hr : r.length < 2^40 := by simp at hs; omega
     repeat' first
      | apply z01
      | exact z17
      | exact z30 rfl
      | exact zd9 rfl rfl
      | (apply z12; exact rfl; exact rfl)
      | (apply z27; exact rfl)
      | (apply zi4; exact rfl; exact rfl)
      | (apply z81; exact rfl; exact rfl)
      | (apply zf4; exact rfl; exact rfl)
      | (apply qd0; exact rfl; exact rfl; (simp only [List.length_map, List.length_cons, List.length_nil, List.length_append, List.length_replicate]; omega))
      | (apply z91; exact rfl; exact rfl; (assumption); exact rfl)
      | (apply zl6; (iterate 3 exact rfl); assumption; exact rfl; intro H1 hH1 kH1)
      | (apply zb4 (hc := ⟨(qo1 ha hH).run⟩); exact rfl; exact rfl; (exact rfl); exact rfl; (exact z30 rfl); rintro H1 ⟨r1, k1⟩)
      | apply z03
      | apply z00
      | apply z02
      | apply z07
     exact w47 rfl rfl rfl ⟨.inr ⟨by simp, hH1⟩, fun i o hi ho => kH1 i o hi (k1 i o hi ho)⟩
 · have hlen : (bytesV l).length < 2^40 := by simpa [bytesV] using hl
   repeat' first
    | apply z01
    | exact z17
    | exact z30 rfl
    | exact z68 rfl
    | (apply z12; exact rfl; exact rfl)
    | (apply z27; exact rfl)
    | (apply zi4; exact rfl; exact rfl)
    | (apply z81; exact rfl; exact rfl)
    | (apply zf4; exact rfl; exact rfl)
    | (apply z91; exact rfl; exact rfl; (assumption); exact rfl)
    | (apply qr1; exact rfl; exact rfl; (omega); assumption; exact rfl; (exact j10 rfl); intro H1 hH1 kH1)
    | (apply zl6; (iterate 3 exact rfl); assumption; exact rfl; intro H1 hH1 kH1)
    | (apply zb4 (hc := ⟨(qo1 (.inr rfl) hH).run⟩); exact rfl; exact rfl; (exact rfl); exact rfl; (exact z30 rfl); rintro H1 ⟨r1, k1⟩)
    | apply z03
    | apply z00
    | apply z02
    | apply z07
   rename_i H3 H2 hH2 kH2
   refine w47 rfl rfl rfl ⟨.inr ⟨by simp [hne], ?_⟩, fun i o hi ho => kH1 i o hi (kH2 i o hi (k1 i o hi ho))⟩
   rw [zj3]; exact hH1
theorem wc6 {H : z16} {id : Nat} {l : List UInt8} (h : BB id l H) : Shr Vv 45 [.ptr id 0] H (.c (.int .i64 l.length)) (fun H' => BB id l H' ∧ KpH id H H') := by
 have hb := h
 refine q67 wu8 ?_
 rcases h with ⟨rfl, a, ha, hH⟩ | ⟨hne, hH⟩
 · rcases ha with rfl | rfl
   · repeat' first
      | apply z01
      | exact z17
      | exact z30 rfl
      | (apply z12; exact rfl; exact rfl)
      | (apply q94; exact rfl)
      | (apply zi4; exact rfl; exact rfl)
      | (apply z81; exact rfl; exact rfl)
      | (apply zf4; exact rfl; exact rfl)
      | (apply z91; exact rfl; exact rfl; (assumption); exact rfl)
      | apply z03
      | apply z00
      | apply z02
      | apply z07
     exact qu9 rfl rfl ⟨hb, fun _ _ _ h => h⟩
   · repeat' first
      | apply z01
      | exact z17
      | exact z30 rfl
      | (apply z12; exact rfl; exact rfl)
      | (apply q94; exact rfl)
      | (apply zi4; exact rfl; exact rfl)
      | (apply z81; exact rfl; exact rfl)
      | (apply zf4; exact rfl; exact rfl)
      | (apply z91; exact rfl; exact rfl; (assumption); exact rfl)
      | apply z03
      | apply z00
      | apply z02
      | apply z07
     exact qu9 rfl rfl ⟨hb, fun _ _ _ h => h⟩
 · repeat' first
    | apply z01
    | exact z17
    | exact z30 rfl
    | (apply z12; exact rfl; exact rfl)
    | (apply qq0; exact rfl)
    | (apply zi4; exact rfl; exact rfl)
    | (apply z81; exact rfl; exact rfl)
    | (apply zf4; exact rfl; exact rfl)
    | (apply z91; exact rfl; exact rfl; (assumption); exact rfl)
    | apply z03
    | apply z00
    | apply z02
    | apply z07
   exact qu9 rfl (by simp [bytesV]) ⟨hb, fun _ _ _ h => h⟩
theorem jt3 : ∀ s : List UInt8, zr2 (bytesV s) = true := by
 intro s
 induction s with
 | nil => rfl
 | cons x r ih =>
   show (decide (0 ≤ (x.toNat : Int) ∧ (x.toNat : Int) < 256) && zr2 (bytesV r)) = true
   have := x.toNat_lt
   rw [ih]; simp; omega
theorem jp9 {H : z16} {id : Nat} {l : List UInt8} (h : BB id l H) : Shr Vv 46 [.ptr id 0] H (.c (.str l)) (fun H' => True ∧ True) := by
 refine q67 wv0 ?_
 unfold stA
 rcases h with ⟨rfl, a, ha, hH⟩ | ⟨hne, hH⟩
 · have hb0 : ze4 [] = some [] := rfl
   repeat' first
    | apply z01
    | exact z17
    | exact z30 rfl
    | (apply zz7; exact rfl; assumption)
    | (apply jo4; (iterate 3 exact rfl))
    | (apply z81; exact rfl; exact rfl)
    | (apply z91; exact rfl; exact rfl; (assumption); exact rfl)
    | (apply qi7; exact rfl; assumption; exact rfl; exact rfl)
    | (apply je3; exact rfl)
    | apply z00
    | apply z02
   exact qu9 rfl rfl ⟨trivial, trivial⟩
 · have hc : 0 < (bytesV l).length ∧ zr2 (bytesV l) = true := ⟨by cases l <;> simp_all [bytesV], jt3 l⟩
   have hb := zx1 l
   repeat' first
    | apply z01
    | exact z17
    | exact z30 rfl
    | (apply zz7; exact rfl; assumption)
    | (apply wd5; (iterate 3 exact rfl))
    | (apply z81; exact rfl; exact rfl)
    | (apply z91; exact rfl; exact rfl; (assumption); exact rfl)
    | (apply qi7; exact rfl; assumption; exact rfl; exact rfl)
    | (apply jy4; exact rfl; assumption)
    | apply z00
    | apply z02
   exact qu9 rfl rfl ⟨trivial, trivial⟩
end Go.Proofs.TryzL
namespace Go.Proofs.TryzL
open Go.Proofs.Lz
structure TokOk (t : Tok) : Prop where
 text : t.text.length < 2^20
 qual : t.qual.length < 2^20
 n : -9223372036854775808 ≤ t.n ∧ t.n ≤ 9223372036854775807
 line : -9223372036854775808 ≤ t.line ∧ t.line ≤ 9223372036854775807
 col : -9223372036854775808 ≤ t.col ∧ t.col ≤ 9223372036854775807
def tokT (t : Tok) : List UInt8 := textS t.op t.qual t.text t.n
structure RS where
 out : List UInt8
 line : Nat
 col : Nat
 first : Bool
def nlK (t : Tok) (s : RS) : Nat := min 200 (t.line - s.line).toNat
def rnl (t : Tok) (s : RS) : RS := if nlK t s = 0 then s else ⟨s.out ++ List.replicate (nlK t s) 10, s.line + nlK t s, 1, true⟩
def rsp (t : Tok) (s : RS) : RS := if (s.col : Int) < t.col ∧ t.col ≤ 1000 then { s with out := s.out ++ Lib.repeatL [32] (t.col - s.col).toNat, col := t.col.toNat } else if s.first then s else { s with out := s.out ++ [32], col := s.col + 1 }
def rtx (t : Tok) (s : RS) : RS := ⟨s.out ++ tokT t, s.line, s.col + (tokT t).length, false⟩
def z89 (t : Tok) (s : RS) : RS := rtx t (rsp t (rnl t s))
def rend : List Tok → RS → Option (List UInt8)
 | [], s => some s.out
 | t :: ts, s => if 65536 < (z89 t s).out.length then none else rend ts (z89 t s)
def rs0 : RS := ⟨[], 1, 1, true⟩
def qa9 (l : List Tok) : List UInt8 × Int := if l.all zt9 = false then ([], 1) else if 16384 < l.length then ([], 3) else match rend l rs0 with
 | none => ([], 3)
 | some o => (o, 0)
theorem j59 {t : Tok} (h : TokOk t) : (tokT t).length ≤ 2^23 := by
 have h1 := h.text
 have h2 := h.qual
 unfold tokT textS
 split
 · have := Lib.itoa_length_le t.n h.n.1 h.n.2
   omega
 · split
   · unfold qcS
     split
     · have := q86 (UInt8.ofNat t.n.toNat) 39
       simp; omega
     · simp
   · split
     · have := zw2 t.text 34
       simp; omega
     · split
       · omega
       · simp; omega
theorem jr1 (t : Tok) (h : TokOk t) : Rets Vv 40 [.c (tokC t)] (.c (.bool (zt9 t))) := qt8 t.op t.qual t.text t.n t.auto t.line t.col (by have := h.text; omega) (by have := h.qual; omega)
theorem qu6 (t : Tok) (h : TokOk t) : Rets Vv 44 [.c (tokC t)] (.c (.str (tokT t))) := wh7 t.op t.qual t.text t.n t.auto t.line t.col (by have := h.text; omega) (by have := h.qual; omega) h.n
structure RsOk (s : RS) : Prop where
 out : s.out.length ≤ 65536
 col : s.col ≤ 1000 + s.out.length
 line : s.line ≤ 9223372036854775807
theorem jg1 {t : Tok} {s : RS} (ht : TokOk t) (h : RsOk s) : (rnl t s).out.length ≤ 65736 ∧ (rnl t s).col ≤ 1000 + (rnl t s).out.length ∧ (rnl t s).line ≤ 9223372036854775807 := by
 have := h.out; have := h.col; have := h.line; have := ht.line
 unfold rnl
 split
 · omega
 · simp only [List.length_append, List.length_replicate]
   unfold nlK at *
   omega
theorem wp6 (n : Nat) : (Lib.repeatL [32] n).length = n := by rw [Lib.repeatL_length]; simp
theorem w04 {t : Tok} {s : RS} (h1 : s.out.length ≤ 65736) (h2 : s.col ≤ 1000 + s.out.length) (h3 : s.line ≤ 9223372036854775807) : (rsp t s).out.length ≤ 66736 ∧ (rsp t s).col ≤ 1000 + (rsp t s).out.length ∧ (rsp t s).line ≤ 9223372036854775807 := by
 unfold rsp
 split
 · simp only [List.length_append, wp6]
   omega
 · split
   · omega
   · simp only [List.length_append, List.length_singleton]
     omega
theorem q34 {t : Tok} {s : RS} (ht : TokOk t) (h : RsOk s) (hl : (z89 t s).out.length ≤ 65536) : RsOk (z89 t s) := by
 obtain ⟨a1, a2, a3⟩ := jg1 ht h
 obtain ⟨b1, b2, b3⟩ := w04 (t := t) a1 a2 a3
 refine ⟨hl, ?_, b3⟩
 unfold z89 rtx
 simp only [List.length_append]
 omega
end Go.Proofs.TryzL
