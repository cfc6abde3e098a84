/- Chapter 02: the law about Same. -/
import Derived.Test.YtencoceemejcnaaGreatDoorLzT30
import Derived.Test.YtencoceemejcnaaGreatDoorLzT2
set_option linter.unusedSimpArgs false
set_option linter.unusedVariables false
namespace Go.Proofs.TryzL
open Go.Proofs.Lz
set_option maxHeartbeats 4000000
def w03 : Option (WV × z01) → Bool
 | some (.c (.bool b), _) => b
 | _ => false
theorem jc4 {f : Nat} (n : Nat) (h : w03 (wF Vv n f [] []) = true) : Rets Vv f [] (.c (.bool true)) := by
 cases hw : wF Vv n f [] [] with
 | none => rw [hw] at h; cases h
 | some p =>
   obtain ⟨v, H⟩ := p
   rw [hw] at h
   have hv := js1 hw
   cases v with
   | c u =>
     cases u with
     | bool b =>
       have hb : b = true := h
       subst hb
       exact ⟨_, H, hv, rfl⟩
     | _ => cases h
   | _ => cases h
theorem zj8 : Rets Vv 10 [] (.c (.bool true)) := jc4 40 (by kernel_rfl)
def wc4 (t : Tok) : Bool := decide (t.text.length ≤ 300) && decide (t.qual.length ≤ 300)
def fewB (l : List Tok) : Bool := l.all wc4 && decide (l.length ≤ 300)
structure TokI (t : Tok) : Prop where
 n : -9223372036854775808 ≤ t.n ∧ t.n ≤ 9223372036854775807
 line : -9223372036854775808 ≤ t.line ∧ t.line ≤ 9223372036854775807
 col : -9223372036854775808 ≤ t.col ∧ t.col ≤ 9223372036854775807
end Go.Proofs.TryzL
set_option maxRecDepth 100000
namespace Go.Proofs.YtencoceemejcnaaGreatDoor
open Go.ChangeShapes Go.WideShapes Go.ChangeAt Go.RowKit Go.Proofs.Lz
open Go.Proofs.TryzL
abbrev TK := Go.Proofs.TryzL.Tok
theorem j74 {m : Int} (h : (Lit.int .i64 m).wf = true) : -9223372036854775808 ≤ m ∧ m ≤ 9223372036854775807 := by
 simpa [Lit.wf, IntKind.min, IntKind.max, IntKind.signed, IntKind.bits] using h
theorem wb7 {n : Nat} {zs : List CV} (h : zk0 Tryz.prog (n + 2) 38 zs) : ∃ t : TK, tokC t = .agg zs ∧ TokI t := by
 unfold zk0 at h
 rw [Tryz.underlying38] at h
 simp only [qn5, zk0, Tryz.underlying36, Tryz.underlying9, Tryz.underlying3, Tryz.underlying4] at h
 obtain ⟨_, _, rfl, ⟨a, rfl, _⟩, _, _, rfl, ⟨b, rfl, _⟩, _, _, rfl, ⟨c, rfl, _⟩, _, _, rfl, ⟨d, rfl, hd⟩, _, _, rfl, ⟨e, rfl⟩, _, _, rfl, ⟨f, rfl, hf⟩, _, _, rfl, ⟨g, rfl, hg⟩, rfl⟩ := h
 exact ⟨⟨a, b, c, d, e, f, g⟩, rfl, ⟨j74 hd, j74 hf, j74 hg⟩⟩
theorem jx6 {n : Nat} : ∀ (ys : List CV), (∀ y ∈ ys, ∃ zs, zk0 Tryz.prog (n + 2) 38 zs ∧ zs.length = z03 (some 7) ∧ z45 (some 7) zs = some y) → ∃ l : List TK, ys = l.map tokC ∧ ∀ t ∈ l, TokI t := by
 intro ys
 induction ys with
 | nil => intro _; exact ⟨[], rfl, by simp⟩
 | cons y ys ih =>
   intro h
   obtain ⟨zs, h1, _, h3⟩ := h y (by simp)
   obtain ⟨t, ht, hi⟩ := wb7 h1
   obtain ⟨l, rfl, hl⟩ := ih (fun y hy => h y (by simp [hy]))
   simp only [z45, Option.some.injEq] at h3
   exact ⟨t :: l, by rw [← h3, ← ht]; rfl, by intro x hx; rcases List.mem_cons.1 hx with rfl | hx; exact hi; exact hl x hx⟩
theorem wf2 : Tryz.prog.underlying 23 = some (.slice 38) := by kernel_rfl
theorem ek38 : ekOf Tryz.prog 38 = some (some 7) := by kernel_rfl
theorem ek23 : ekOf Tryz.prog 23 = some none := by kernel_rfl
theorem je8 {zs : List CV} {x : CV} (h2 : zk0 Tryz.prog 6 23 zs) (h4 : z45 none zs = some x) : ∃ l : List TK, x = tks l ∧ l.length ≤ 9223372036854775807 ∧ ∀ t ∈ l, TokI t := by
 unfold zk0 at h2
 rw [wf2] at h2
 obtain ⟨ek, ys, rfl, hlen, h5, h6⟩ := h2
 rw [ek38] at h5
 injection h5 with h5; subst h5
 obtain ⟨l, rfl, hl⟩ := jx6 (n := 3) ys h6
 simp only [z45, List.getElem?_cons_zero, Option.some.injEq] at h4
 exact ⟨l, by rw [← h4]; rfl, by simpa [maxLen] using hlen, hl⟩
end Go.Proofs.YtencoceemejcnaaGreatDoor
namespace Go.Proofs.Lz
section
variable {V : WEnv} {fr fr' : WFr} {H H' : z01} {N : Post} {dst : Option Nat}
def qb2 (p : Pl) : List (Nat × WV) → List (Nat × WV)
 | [] => []
 | (s, v) :: r => (s, blind p v) :: qb2 p r
theorem j32 (p : Pl) : ∀ l, frl (qb2 p l) = fun s => blind p (frl l s) := by
 intro l
 induction l with
 | nil => rfl
 | cons q r ih =>
   obtain ⟨t, v⟩ := q
   funext s
   show (bif Nat.beq s t then blind p v else frl (qb2 p r) s) = blind p (bif Nat.beq s t then v else frl r s)
   rw [zp5, zp5, ih]
   by_cases hs : s = t
   · subst hs; simp only [if_true]
   · simp only [if_neg hs]
theorem qt8 (p : Pl) (l : List (Nat × WV)) (a : List (Nat × Option (Nat × Nat))) : qn1 p (FL l a) = FL (qb2 p l) a := by
 unfold qn1 FL
 rw [j32]
theorem wf4 {l : List (Nat × WV)} {a : List (Nat × Option (Nat × Nat))} {b : Nat} {v : WV} : ({ FL l a with env := upd (FL l a).env b v } : WFr) = FL ((b, v) :: l) a := by
 have e : upd (frl l) b v = frl ((b, v) :: l) := by
  funext s
  show (if s = b then v else frl l s) = (bif Nat.beq s b then v else frl l s)
  rw [zp5]
 show (⟨upd (frl l) b v, lookA a⟩ : WFr) = ⟨frl ((b, v) :: l), lookA a⟩
 rw [e]
theorem zq3 {α : Type} {l : List (Nat × WV)} {al : List (Nat × Option (Nat × Nat))} {a x : Opd} {b i off e : Nat} {bb : Bool} {ek k : Option Nat} {xs : List α} {f : α → CV} {y y' : α} {xx u : CV} (hp : (FL l al).place a = none) (ha : (FL l al).rd a = .eptr (.sl b 0 0) i off ek xx) (hx : (FL l al).rd x = .c u)
 (ho : (FL l al).env b = .own bb e ek (xs.map f)) (hi : xs[i]? = some y) (hu : jx4 k u ek off (f y) = some (f y')) (h : N (FL (qb2 (.sl b 0 0) ((b, .own bb e ek ((xs.set i y').map f)) :: l)) al) H) : OpP V (.store k a x) none (FL l al) H N := by
 refine ⟨_, H, ?_, h⟩
 show wOp0 (.store k a x) none (FL l al) H = _
 have hg : (xs.map f)[i]? = some (f y) := by rw [List.getElem?_map, hi]; rfl
 have hset : (xs.map f).set i (f y') = (xs.set i y').map f := by rw [List.map_set]
 simp only [wOp0, hp, ha, hx, zx4, qg7, qm0, za6, qs0, ho, qs6, zo0, zo5, hg, hu, hset, wf4, qt8]
 simp only [if_true, qt8]
theorem jd8 {ek : Option Nat} {xs : List CV} : zr6 ek (.c (.frz ek xs)) = some xs := by
 cases xs with
 | nil => rfl
 | cons x xs => simp [zr6, qa9]
theorem zb8 {e : Nat} {ek : Option Nat} {bytes p : Nat} {s x : Opd} {xs new : List CV} {l : List (Nat × WV)} {a : List (Nat × Option (Nat × Nat))} (hs : (FL l a).rd s = .view (.sl p 0 0) true 0 e ek xs) (hx : (FL l a).rd x = .c (.frz ek new)) (hb : (xs.length + new.length) * bytes ≤ 140737488355328 ∧ xs.length + new.length ≤ 140737488355328)
 (hq : Put (FL (hitM (inK [.sl p 0 0]) false l) a) dst (.own true e ek (xs ++ new)) fr') (h : N fr' H) : OpP V (.app e ek bytes s x) dst (FL l a) H N :=
 z74 hs (by rw [hx]; exact jd8) hb hq h
end
end Go.Proofs.Lz
namespace Go.Proofs.TryzL
open Go.Proofs.Lz
def keyT (t : Tok) : Int × List UInt8 × List UInt8 × Int := (t.op, t.qual, t.text, t.n)
def qj6 (a b : List Tok) : Bool := decide (a.map keyT = b.map keyT)
theorem qy2 {a b : List Tok} (h : a.length ≠ b.length) : qj6 a b = false := by
 unfold qj6
 rw [decide_eq_false_iff_not]
 intro e
 exact h (by simpa using congrArg List.length e)
theorem j70 {a b : List Tok} {n : Nat} (ha : n < a.length) (hb : n < b.length) (h : keyT a[n] ≠ keyT b[n]) : qj6 a b = false := by
 unfold qj6
 rw [decide_eq_false_iff_not]
 intro e
 apply h
 have := congrArg (fun l => l[n]?) e
 simpa [ha, hb] using this
theorem jy8 {a b : List Tok} {n : Nat} (ha : n < a.length) (hb : n < b.length) (hall : (a.take n).map keyT = (b.take n).map keyT) (h : keyT a[n] = keyT b[n]) : (a.take (n + 1)).map keyT = (b.take (n + 1)).map keyT := by
 rw [List.take_add_one, List.take_add_one, List.map_append, List.map_append, hall, List.getElem?_eq_getElem ha, List.getElem?_eq_getElem hb]
 simp [h]
theorem jz2 {a b : List Tok} {n : Nat} (ha : a.length ≤ n) (hb : b.length ≤ n) (hall : (a.take n).map keyT = (b.take n).map keyT) : qj6 a b = true := by
 rw [List.take_of_length_le ha, List.take_of_length_le hb] at hall
 unfold qj6
 rw [decide_eq_true_iff]
 exact hall
theorem jy5 (a b : List Tok) (ha : a.length ≤ 9223372036854775807) (hb : b.length ≤ 9223372036854775807) : Rets Vv 17 [.c (tks a), .c (tks b)] (.c (.bool (qj6 a b))) := by
 refine j29 wn5 ?_
 unfold tks
 repeat' first
  | apply zg0
  | exact za5
  | exact z25
  | exact z14 rfl
  | exact z13 rfl
  | exact z04 rfl rfl
  | exact z04 rfl (by assumption)
  | exact z48 rfl
  | (apply zv5; exact rfl; exact rfl)
  | (apply zl7; exact rfl; exact rfl)
  | (apply zp8; (iterate 3 exact rfl))
  | (apply z66; (iterate 3 exact rfl))
  | (apply z68; (iterate 3 exact rfl))
  | (apply q39; exact rfl; exact rfl; omega)
  | (apply q36; exact rfl; exact rfl; omega)
  | (apply q32; exact rfl; exact rfl; omega)
  | (apply zs7; exact rfl; exact rfl; omega)
  | (apply zs9; exact rfl; exact rfl)
  | (apply zm2; exact rfl; exact rfl; omega)
  | (apply zk9; exact rfl; exact rfl)
  | (apply zu5; exact rfl; exact rfl; omega)
  | (apply zm3; exact rfl; exact rfl)
  | (apply zl9; exact rfl; exact rfl)
  | (apply zd6; (iterate 3 exact rfl); assumption)
  | (apply zt6; exact rfl; assumption)
  | (apply zk5; exact rfl; exact rfl)
  | (apply q45; exact rfl; exact rfl; (first | omega | (simp only [List.length_map, List.length_cons, List.length_nil, List.length_append, List.length_replicate]; omega)))
  | (apply ze7; (iterate 3 exact rfl))
  | (apply zl2; exact rfl; exact rfl)
  | (apply q50; exact rfl; exact rfl)
  | (apply zc5; exact rfl)
  | (apply zd5; exact rfl)
  | (apply zd9; exact rfl)
  | (apply z90; exact rfl)
  | (apply z60; exact rfl)
  | (apply z91; exact rfl)
  | (apply qr8; exact rfl; exact rfl)
  | (apply q58; exact rfl; exact rfl)
  | (apply q48; (iterate 3 exact rfl))
  | (apply zd0; exact rfl; (with_reducible rfl); exact rfl)
  | (apply ze0; exact rfl; (with_reducible rfl); exact rfl)
  | (apply z28; (iterate 3 exact rfl); assumption)
  | (apply z28; (iterate 3 exact rfl); exact List.getElem?_eq_getElem (by omega))
  | (apply zt8; (iterate 3 exact rfl); assumption)
  | (apply zt8; (iterate 4 exact rfl))
  | (apply zf0; (iterate 3 exact rfl); assumption)
  | (apply zf0; (iterate 3 exact rfl); exact List.getElem?_eq_getElem (by omega))
  | (apply zs4; exact rfl; exact rfl; omega; (first | exact rfl | assumption))
  | (apply zs1; exact rfl; exact rfl)
  | (apply q09; exact rfl; exact rfl)
  | (apply zk7; (iterate 3 exact rfl))
  | (apply zg6; (iterate 3 exact rfl))
  | (apply q30; (iterate 6 exact rfl))
  | (apply zr8; (iterate 6 exact rfl))
  | (apply zq1; (iterate 3 exact rfl))
  | (apply zr7; (iterate 3 exact rfl))
  | (apply zq2; (iterate 3 exact rfl))
  | (apply zd4; exact rfl; exact rfl)
  | (apply zb7; (iterate 3 exact rfl))
  | (apply zb4; (iterate 3 exact rfl))
  | (apply zb3; exact rfl; exact z79 rfl)
  | (apply z40; exact rfl; exact z79 rfl)
  | (apply z89; exact rfl; exact z79 rfl)
  | (apply zg9; (iterate 3 exact rfl))
  | (apply zc9; exact rfl; exact rfl)
  | (apply zf6; exact rfl; exact rfl)
  | (apply zg1; exact rfl; exact rfl)
  | (apply z58; exact rfl; exact rfl)
  | (apply zb5; exact rfl; exact rfl)
  | (apply zt0; exact rfl; exact rfl; first | exact zh1 (by first | exact rfl | assumption | exact z07 (by assumption)) | exact zn1 (by first | exact rfl | assumption | exact z07 (by assumption)))
  | (apply z57; (iterate 4 exact rfl); exact zc8 (by first | exact rfl | assumption | exact z07 (by assumption)))
  | (apply z43; (iterate 8 exact rfl); exact zh3 (by first | exact rfl | assumption | exact z07 (by assumption)))
  | (apply q75; exact rfl; exact rfl)
  | (apply q40; exact rfl)
  | (apply zu0; exact rfl; exact rfl)
  | (apply zk6; exact rfl; omega)
  | (apply q12; exact rfl)
  | (apply q53; exact rfl)
  | (apply q62; exact rfl; exact rfl)
  | (apply q67; exact rfl; exact rfl)
  | (apply qh0; exact rfl; exact rfl)
  | (apply z47; (iterate 3 exact rfl); omega)
  | (apply z61; exact rfl; exact rfl; omega)
  | (apply ze6; (iterate 3 exact rfl); omega)
  | (apply zd3; exact rfl; exact rfl; omega; omega)
  | (apply z56; exact rfl; exact rfl; omega; omega)
  | (apply za1; (iterate 5 exact rfl); omega)
  | (apply z65; (iterate 3 exact rfl); omega)
  | (apply zc0; (iterate 3 exact rfl); omega)
  | (apply zc4; exact rfl; exact rfl; (first | omega | (simp only [List.length_map, List.length_cons, List.length_nil, List.length_append, List.length_replicate]; omega)))
  | (apply zb8; exact rfl; exact rfl; (first | omega | (simp only [List.length_map, List.length_cons, List.length_nil, List.length_append, List.length_replicate]; omega)))
  | (apply z74; exact rfl; exact rfl; (first | omega | (simp only [List.length_map, List.length_cons, List.length_nil, List.length_append, List.length_replicate]; omega)))
  | (apply z82; exact rfl; exact rfl)
  | (apply q70; (iterate 4 exact rfl))
  | (apply z67; exact rfl; exact rfl; (first | assumption | exact rfl); exact rfl)
  | (apply z71; exact rfl; exact rfl; (first | assumption | exact rfl); exact rfl)
  | (apply z63; (iterate 4 exact rfl); (first | assumption | exact rfl); exact rfl; exact rfl; intro H1 hH1 kH1)
  | (apply z12; (iterate 3 exact rfl); assumption)
  | (apply z12; (iterate 3 exact rfl); exact List.getElem?_eq_getElem (by omega))
  | (apply za0; (iterate 3 exact rfl); assumption)
  | (apply zc7; exact rfl; exact rfl; assumption; omega)
  | (apply z64; exact rfl; exact rfl; assumption; omega)
  | (apply zv3; exact rfl; exact rfl; assumption; omega)
  | (apply z41; exact rfl; exact rfl)
  | (apply z55; (iterate 3 exact rfl))
  | (apply zf9; exact rfl; exact rfl; (first | omega | (simp only [List.length_map, List.length_cons, List.length_nil, List.length_append, List.length_replicate]; omega)); assumption; exact rfl; (first | exact z04 rfl rfl | exact z04 rfl (by assumption) | exact z48 rfl); intro H1 hH1 kH1)
  | (apply z62; (iterate 3 exact rfl); assumption; exact rfl; intro H1 hH1 kH1)
  | (apply zs5; exact rfl; assumption; exact rfl; exact rfl)
  | (apply q46; exact rfl; exact rfl)
  | (apply zf4; exact rfl)
  | (apply zk8; exact rfl; assumption)
  | (apply z93; (iterate 4 exact rfl); assumption; exact rfl)
  | (apply z92; (iterate 4 exact rfl); assumption; exact rfl)
  | (apply z84; (iterate 4 exact rfl); assumption; exact rfl)
  | (apply z87; (iterate 3 exact rfl); assumption; exact rfl; intro H1 hH1 kH1)
  | (apply z38; (iterate 3 exact rfl); assumption; exact rfl; intro H1 hH1 kH1)
  | (apply zv1; exact rfl; exact rfl)
  | (apply zl1; (iterate 4 exact rfl))
  | (apply zi5; (iterate 4 exact rfl))
  | (apply zg4; focus (repeat (first | exact zo7 | (apply kq_c; exact rfl) | (apply zt9; exact rfl) | (apply q59; exact rfl; exact rfl) | (apply q77; exact rfl) | (apply zm0; exact rfl) | (apply zl0; exact rfl) | (apply zs3; exact rfl) | (apply zs8; exact rfl) | (apply qp5; exact rfl) | (apply q68; exact rfl) | (apply zv4; exact rfl; exact rfl) | (apply zl3; exact rfl))))
  | apply zm7
  | apply z54
  | apply zm5
  | apply zd8
  | apply zh5
  | apply zm4
  | apply zg2
  | apply zc2
  | (apply zf3; exact rfl)
  | apply z42
  | apply zl6
  | (apply zh4; exact rfl; (with_reducible rfl))
  | (apply zf5; exact rfl; (with_reducible rfl))
  | (apply zm1; exact rfl)
  | (apply zu1; exact rfl)
  | (apply q38; exact rfl; (with_reducible rfl))
  | (apply zg7; exact rfl; (with_reducible rfl))
  | (apply zf8; exact rfl; (with_reducible rfl))
  | (apply zm6; exact rfl)
  | (apply zu3; exact rfl)
  | (apply qp6; (first | exact rfl | exact hnb _ (by decide) | exact z00 (hnb _ (by decide)) | exact z00 (z00 (hnb _ (by decide)))))
  | (apply zu7; (first | exact rfl | exact hnb _ (by decide) | exact z00 (hnb _ (by decide)) | exact z00 (z00 (hnb _ (by decide)))))
  | (apply q49; exact rfl; (with_reducible rfl); (first | exact rfl | exact hnb _ (by decide) | exact z00 (hnb _ (by decide)) | exact z00 (z00 (hnb _ (by decide)))))
  | (apply zg8; exact rfl; (with_reducible rfl); (first | exact rfl | exact hnb _ (by decide) | exact z00 (hnb _ (by decide)) | exact z00 (z00 (hnb _ (by decide)))); (first | exact z14 rfl | exact z13 rfl); exact rfl)
  | (apply zg5; exact rfl; (with_reducible rfl); (first | exact rfl | exact hnb _ (by decide) | exact z00 (hnb _ (by decide)) | exact z00 (z00 (hnb _ (by decide)))); (first | exact z14 rfl | exact z13 rfl); exact rfl)
  | (apply zm8; exact rfl; (first | exact rfl | exact hnb _ (by decide) | exact z00 (hnb _ (by decide)) | exact z00 (z00 (hnb _ (by decide)))); (first | exact z14 rfl | exact z13 rfl); exact rfl)
  | (apply zw1; exact rfl)
  | with_reducible exact q78
  | with_reducible exact q71
  | with_reducible apply q42
  | with_reducible apply q47
  | with_reducible apply q69
  | with_reducible apply q33
  | (with_reducible apply qq8; intro hc)
  | (with_reducible apply qq4; intro hc)
  | (with_reducible apply q63; intro hc)
  | (with_reducible apply q57; intro hc)
  | (with_reducible apply q73; intro hc)
  | (with_reducible apply q44; intro hc)
  | (with_reducible apply zt1; intro hc)
  | (with_reducible apply zr5; intro hc)
  | (with_reducible apply qo3; intro hc)
  | (with_reducible apply q74; intro hc)
  | (with_reducible apply qr9; intro hc)
  | (apply zl5; exact rfl)
  | (apply zl4; exact rfl)
  | (apply q31)
  | (apply zu4; exact rfl)
  | (apply zw0; exact rfl)
  | (apply zv0; exact rfl)
  | (apply zu9)
  | (apply zv6)
  | (apply zn0)
  | (apply zc1; exact rfl)
  | (apply zh6)
  | (apply zc3)
  | (apply zl8)
  | (apply zm9)
  | (apply dand; exact rfl)
  | (apply qq5; (first | exact ShI.c rfl | exact ShI.own rfl | exact ShI.nils rfl | exact ShI.cell rfl); (first | exact ShI.c rfl | exact ShI.own rfl | exact ShI.nils rfl | exact ShI.cell rfl); (exact by decide))
  | (apply qr4; (first | exact ShI.c rfl | exact ShI.own rfl | exact ShI.nils rfl | exact ShI.cell rfl); (first | exact ShI.c rfl | exact ShI.own rfl | exact ShI.nils rfl | exact ShI.cell rfl); (first | exact ShI.c rfl | exact ShI.own rfl | exact ShI.nils rfl | exact ShI.cell rfl); (exact by decide))
  | exact fin0
  | (apply qo5; exact rfl)
  | (apply qp7; exact rfl)
  | (apply qq9; exact rfl)
  | (apply qp9; exact rfl)
 · rw [qy2 (by omega)]
 refine qd5 (fun n : Nat => [(1, .c (.frz (some 7) (b.map tokC))), (13, .c (.frz (some 7) (a.map tokC))), (14, .c (.int .i64 a.length)), (15, .c (.int .i64 n))]) (fun n => n ≤ a.length ∧ (a.take n).map keyT = (b.take n).map keyT) (fun n => a.length - n) 0 ?_ ⟨Nat.zero_le _, rfl⟩ ?_
 · repeat' first
    | exact zo7
    | refine z44 rfl ?_
    | refine z44 ?_ ?_
 rintro n ⟨hn, hall⟩
 have hab : a.length = b.length := by omega
 by_cases hnl : n < a.length
 · have hnb : n < b.length := by omega
   repeat' first
    | apply zg0
    | exact za5
    | exact z25
    | exact z14 rfl
    | exact z13 rfl
    | exact z04 rfl rfl
    | exact z04 rfl (by assumption)
    | exact z48 rfl
    | (apply zv5; exact rfl; exact rfl)
    | (apply zl7; exact rfl; exact rfl)
    | (apply zp8; (iterate 3 exact rfl))
    | (apply z66; (iterate 3 exact rfl))
    | (apply z68; (iterate 3 exact rfl))
    | (apply q39; exact rfl; exact rfl; omega)
    | (apply q36; exact rfl; exact rfl; omega)
    | (apply q32; exact rfl; exact rfl; omega)
    | (apply zs7; exact rfl; exact rfl; omega)
    | (apply zs9; exact rfl; exact rfl)
    | (apply zm2; exact rfl; exact rfl; omega)
    | (apply zk9; exact rfl; exact rfl)
    | (apply zu5; exact rfl; exact rfl; omega)
    | (apply zm3; exact rfl; exact rfl)
    | (apply zl9; exact rfl; exact rfl)
    | (apply zd6; (iterate 3 exact rfl); assumption)
    | (apply zt6; exact rfl; assumption)
    | (apply zk5; exact rfl; exact rfl)
    | (apply q45; exact rfl; exact rfl; (first | omega | (simp only [List.length_map, List.length_cons, List.length_nil, List.length_append, List.length_replicate]; omega)))
    | (apply ze7; (iterate 3 exact rfl))
    | (apply zl2; exact rfl; exact rfl)
    | (apply q50; exact rfl; exact rfl)
    | (apply zc5; exact rfl)
    | (apply zd5; exact rfl)
    | (apply zd9; exact rfl)
    | (apply z90; exact rfl)
    | (apply z60; exact rfl)
    | (apply z91; exact rfl)
    | (apply qr8; exact rfl; exact rfl)
    | (apply q58; exact rfl; exact rfl)
    | (apply q48; (iterate 3 exact rfl))
    | (apply zd0; exact rfl; (with_reducible rfl); exact rfl)
    | (apply ze0; exact rfl; (with_reducible rfl); exact rfl)
    | (apply z28; (iterate 3 exact rfl); assumption)
    | (apply z28; (iterate 3 exact rfl); exact List.getElem?_eq_getElem (by omega))
    | (apply zt8; (iterate 3 exact rfl); assumption)
    | (apply zt8; (iterate 4 exact rfl))
    | (apply zf0; (iterate 3 exact rfl); assumption)
    | (apply zf0; (iterate 3 exact rfl); exact List.getElem?_eq_getElem (by omega))
    | (apply zs4; exact rfl; exact rfl; omega; (first | exact rfl | assumption))
    | (apply zs1; exact rfl; exact rfl)
    | (apply q09; exact rfl; exact rfl)
    | (apply zk7; (iterate 3 exact rfl))
    | (apply zg6; (iterate 3 exact rfl))
    | (apply q30; (iterate 6 exact rfl))
    | (apply zr8; (iterate 6 exact rfl))
    | (apply zq1; (iterate 3 exact rfl))
    | (apply zr7; (iterate 3 exact rfl))
    | (apply zq2; (iterate 3 exact rfl))
    | (apply zd4; exact rfl; exact rfl)
    | (apply zb7; (iterate 3 exact rfl))
    | (apply zb4; (iterate 3 exact rfl))
    | (apply zb3; exact rfl; exact z79 rfl)
    | (apply z40; exact rfl; exact z79 rfl)
    | (apply z89; exact rfl; exact z79 rfl)
    | (apply zg9; (iterate 3 exact rfl))
    | (apply zc9; exact rfl; exact rfl)
    | (apply zf6; exact rfl; exact rfl)
    | (apply zg1; exact rfl; exact rfl)
    | (apply z58; exact rfl; exact rfl)
    | (apply zb5; exact rfl; exact rfl)
    | (apply zt0; exact rfl; exact rfl; first | exact zh1 (by first | exact rfl | assumption | exact z07 (by assumption)) | exact zn1 (by first | exact rfl | assumption | exact z07 (by assumption)))
    | (apply z57; (iterate 4 exact rfl); exact zc8 (by first | exact rfl | assumption | exact z07 (by assumption)))
    | (apply z43; (iterate 8 exact rfl); exact zh3 (by first | exact rfl | assumption | exact z07 (by assumption)))
    | (apply q75; exact rfl; exact rfl)
    | (apply q40; exact rfl)
    | (apply zu0; exact rfl; exact rfl)
    | (apply zk6; exact rfl; omega)
    | (apply q12; exact rfl)
    | (apply q53; exact rfl)
    | (apply q62; exact rfl; exact rfl)
    | (apply q67; exact rfl; exact rfl)
    | (apply qh0; exact rfl; exact rfl)
    | (apply z47; (iterate 3 exact rfl); omega)
    | (apply z61; exact rfl; exact rfl; omega)
    | (apply ze6; (iterate 3 exact rfl); omega)
    | (apply zd3; exact rfl; exact rfl; omega; omega)
    | (apply z56; exact rfl; exact rfl; omega; omega)
    | (apply za1; (iterate 5 exact rfl); omega)
    | (apply z65; (iterate 3 exact rfl); omega)
    | (apply zc0; (iterate 3 exact rfl); omega)
    | (apply zc4; exact rfl; exact rfl; (first | omega | (simp only [List.length_map, List.length_cons, List.length_nil, List.length_append, List.length_replicate]; omega)))
    | (apply zb8; exact rfl; exact rfl; (first | omega | (simp only [List.length_map, List.length_cons, List.length_nil, List.length_append, List.length_replicate]; omega)))
    | (apply z74; exact rfl; exact rfl; (first | omega | (simp only [List.length_map, List.length_cons, List.length_nil, List.length_append, List.length_replicate]; omega)))
    | (apply z82; exact rfl; exact rfl)
    | (apply q70; (iterate 4 exact rfl))
    | (apply z67; exact rfl; exact rfl; (first | assumption | exact rfl); exact rfl)
    | (apply z71; exact rfl; exact rfl; (first | assumption | exact rfl); exact rfl)
    | (apply z63; (iterate 4 exact rfl); (first | assumption | exact rfl); exact rfl; exact rfl; intro H1 hH1 kH1)
    | (apply z12; (iterate 3 exact rfl); assumption)
    | (apply z12; (iterate 3 exact rfl); exact List.getElem?_eq_getElem (by omega))
    | (apply za0; (iterate 3 exact rfl); assumption)
    | (apply zc7; exact rfl; exact rfl; assumption; omega)
    | (apply z64; exact rfl; exact rfl; assumption; omega)
    | (apply zv3; exact rfl; exact rfl; assumption; omega)
    | (apply z41; exact rfl; exact rfl)
    | (apply z55; (iterate 3 exact rfl))
    | (apply zf9; exact rfl; exact rfl; (first | omega | (simp only [List.length_map, List.length_cons, List.length_nil, List.length_append, List.length_replicate]; omega)); assumption; exact rfl; (first | exact z04 rfl rfl | exact z04 rfl (by assumption) | exact z48 rfl); intro H1 hH1 kH1)
    | (apply z62; (iterate 3 exact rfl); assumption; exact rfl; intro H1 hH1 kH1)
    | (apply zs5; exact rfl; assumption; exact rfl; exact rfl)
    | (apply q46; exact rfl; exact rfl)
    | (apply zf4; exact rfl)
    | (apply zk8; exact rfl; assumption)
    | (apply z93; (iterate 4 exact rfl); assumption; exact rfl)
    | (apply z92; (iterate 4 exact rfl); assumption; exact rfl)
    | (apply z84; (iterate 4 exact rfl); assumption; exact rfl)
    | (apply z87; (iterate 3 exact rfl); assumption; exact rfl; intro H1 hH1 kH1)
    | (apply z38; (iterate 3 exact rfl); assumption; exact rfl; intro H1 hH1 kH1)
    | (apply zv1; exact rfl; exact rfl)
    | (apply zl1; (iterate 4 exact rfl))
    | (apply zi5; (iterate 4 exact rfl))
    | (apply zg4; focus (repeat (first | exact zo7 | (apply kq_c; exact rfl) | (apply zt9; exact rfl) | (apply q59; exact rfl; exact rfl) | (apply q77; exact rfl) | (apply zm0; exact rfl) | (apply zl0; exact rfl) | (apply zs3; exact rfl) | (apply zs8; exact rfl) | (apply qp5; exact rfl) | (apply q68; exact rfl) | (apply zv4; exact rfl; exact rfl) | (apply zl3; exact rfl))))
    | apply zm7
    | apply z54
    | apply zm5
    | apply zd8
    | apply zh5
    | apply zm4
    | apply zg2
    | apply zc2
    | (apply zf3; exact rfl)
    | apply z42
    | apply zl6
    | (apply zh4; exact rfl; (with_reducible rfl))
    | (apply zf5; exact rfl; (with_reducible rfl))
    | (apply zm1; exact rfl)
    | (apply zu1; exact rfl)
    | (apply q38; exact rfl; (with_reducible rfl))
    | (apply zg7; exact rfl; (with_reducible rfl))
    | (apply zf8; exact rfl; (with_reducible rfl))
    | (apply zm6; exact rfl)
    | (apply zu3; exact rfl)
    | (apply qp6; (first | exact rfl | exact hnb _ (by decide) | exact z00 (hnb _ (by decide)) | exact z00 (z00 (hnb _ (by decide)))))
    | (apply zu7; (first | exact rfl | exact hnb _ (by decide) | exact z00 (hnb _ (by decide)) | exact z00 (z00 (hnb _ (by decide)))))
    | (apply q49; exact rfl; (with_reducible rfl); (first | exact rfl | exact hnb _ (by decide) | exact z00 (hnb _ (by decide)) | exact z00 (z00 (hnb _ (by decide)))))
    | (apply zg8; exact rfl; (with_reducible rfl); (first | exact rfl | exact hnb _ (by decide) | exact z00 (hnb _ (by decide)) | exact z00 (z00 (hnb _ (by decide)))); (first | exact z14 rfl | exact z13 rfl); exact rfl)
    | (apply zg5; exact rfl; (with_reducible rfl); (first | exact rfl | exact hnb _ (by decide) | exact z00 (hnb _ (by decide)) | exact z00 (z00 (hnb _ (by decide)))); (first | exact z14 rfl | exact z13 rfl); exact rfl)
    | (apply zm8; exact rfl; (first | exact rfl | exact hnb _ (by decide) | exact z00 (hnb _ (by decide)) | exact z00 (z00 (hnb _ (by decide)))); (first | exact z14 rfl | exact z13 rfl); exact rfl)
    | (apply zw1; exact rfl)
    | with_reducible exact q78
    | with_reducible exact q71
    | with_reducible apply q42
    | with_reducible apply q47
    | with_reducible apply q69
    | with_reducible apply q33
    | (with_reducible apply qq8; intro hc)
    | (with_reducible apply qq4; intro hc)
    | (with_reducible apply q63; intro hc)
    | (with_reducible apply q57; intro hc)
    | (with_reducible apply q73; intro hc)
    | (with_reducible apply q44; intro hc)
    | (with_reducible apply zt1; intro hc)
    | (with_reducible apply zr5; intro hc)
    | (with_reducible apply qo3; intro hc)
    | (with_reducible apply q74; intro hc)
    | (with_reducible apply qr9; intro hc)
    | (apply zl5; exact rfl)
    | (apply zl4; exact rfl)
    | (apply q31)
    | (apply zu4; exact rfl)
    | (apply zw0; exact rfl)
    | (apply zv0; exact rfl)
    | (apply zu9)
    | (apply zv6)
    | (apply zn0)
    | (apply zc1; exact rfl)
    | (apply zh6)
    | (apply zc3)
    | (apply zl8)
    | (apply zm9)
    | (apply dand; exact rfl)
    | (apply qq5; (first | exact ShI.c rfl | exact ShI.own rfl | exact ShI.nils rfl | exact ShI.cell rfl); (first | exact ShI.c rfl | exact ShI.own rfl | exact ShI.nils rfl | exact ShI.cell rfl); (exact by decide))
    | (apply qr4; (first | exact ShI.c rfl | exact ShI.own rfl | exact ShI.nils rfl | exact ShI.cell rfl); (first | exact ShI.c rfl | exact ShI.own rfl | exact ShI.nils rfl | exact ShI.cell rfl); (first | exact ShI.c rfl | exact ShI.own rfl | exact ShI.nils rfl | exact ShI.cell rfl); (exact by decide))
    | exact fin0
    | (apply qo5; exact rfl)
    | (apply qp7; exact rfl)
    | (apply qq9; exact rfl)
    | (apply qp9; exact rfl)
   any_goals (exfalso; omega)
   any_goals rw [j70 hnl hnb (by unfold keyT; intro e; simp only [Prod.mk.injEq] at e; simp_all)]
   refine ⟨n + 1, ?_, rfl, ⟨by omega, jy8 hnl hnb hall (by unfold keyT; simp_all)⟩, by omega⟩
   repeat' first
    | exact zo7
    | refine z44 rfl ?_
    | refine z44 ?_ ?_
 · repeat' first
    | apply zg0
    | exact za5
    | exact z25
    | exact z14 rfl
    | exact z13 rfl
    | exact z04 rfl rfl
    | exact z04 rfl (by assumption)
    | exact z48 rfl
    | (apply zv5; exact rfl; exact rfl)
    | (apply zl7; exact rfl; exact rfl)
    | (apply zp8; (iterate 3 exact rfl))
    | (apply z66; (iterate 3 exact rfl))
    | (apply z68; (iterate 3 exact rfl))
    | (apply q39; exact rfl; exact rfl; omega)
    | (apply q36; exact rfl; exact rfl; omega)
    | (apply q32; exact rfl; exact rfl; omega)
    | (apply zs7; exact rfl; exact rfl; omega)
    | (apply zs9; exact rfl; exact rfl)
    | (apply zm2; exact rfl; exact rfl; omega)
    | (apply zk9; exact rfl; exact rfl)
    | (apply zu5; exact rfl; exact rfl; omega)
    | (apply zm3; exact rfl; exact rfl)
    | (apply zl9; exact rfl; exact rfl)
    | (apply zd6; (iterate 3 exact rfl); assumption)
    | (apply zt6; exact rfl; assumption)
    | (apply zk5; exact rfl; exact rfl)
    | (apply q45; exact rfl; exact rfl; (first | omega | (simp only [List.length_map, List.length_cons, List.length_nil, List.length_append, List.length_replicate]; omega)))
    | (apply ze7; (iterate 3 exact rfl))
    | (apply zl2; exact rfl; exact rfl)
    | (apply q50; exact rfl; exact rfl)
    | (apply zc5; exact rfl)
    | (apply zd5; exact rfl)
    | (apply zd9; exact rfl)
    | (apply z90; exact rfl)
    | (apply z60; exact rfl)
    | (apply z91; exact rfl)
    | (apply qr8; exact rfl; exact rfl)
    | (apply q58; exact rfl; exact rfl)
    | (apply q48; (iterate 3 exact rfl))
    | (apply zd0; exact rfl; (with_reducible rfl); exact rfl)
    | (apply ze0; exact rfl; (with_reducible rfl); exact rfl)
    | (apply z28; (iterate 3 exact rfl); assumption)
    | (apply z28; (iterate 3 exact rfl); exact List.getElem?_eq_getElem (by omega))
    | (apply zt8; (iterate 3 exact rfl); assumption)
    | (apply zt8; (iterate 4 exact rfl))
    | (apply zf0; (iterate 3 exact rfl); assumption)
    | (apply zf0; (iterate 3 exact rfl); exact List.getElem?_eq_getElem (by omega))
    | (apply zs4; exact rfl; exact rfl; omega; (first | exact rfl | assumption))
    | (apply zs1; exact rfl; exact rfl)
    | (apply q09; exact rfl; exact rfl)
    | (apply zk7; (iterate 3 exact rfl))
    | (apply zg6; (iterate 3 exact rfl))
    | (apply q30; (iterate 6 exact rfl))
    | (apply zr8; (iterate 6 exact rfl))
    | (apply zq1; (iterate 3 exact rfl))
    | (apply zr7; (iterate 3 exact rfl))
    | (apply zq2; (iterate 3 exact rfl))
    | (apply zd4; exact rfl; exact rfl)
    | (apply zb7; (iterate 3 exact rfl))
    | (apply zb4; (iterate 3 exact rfl))
    | (apply zb3; exact rfl; exact z79 rfl)
    | (apply z40; exact rfl; exact z79 rfl)
    | (apply z89; exact rfl; exact z79 rfl)
    | (apply zg9; (iterate 3 exact rfl))
    | (apply zc9; exact rfl; exact rfl)
    | (apply zf6; exact rfl; exact rfl)
    | (apply zg1; exact rfl; exact rfl)
    | (apply z58; exact rfl; exact rfl)
    | (apply zb5; exact rfl; exact rfl)
    | (apply zt0; exact rfl; exact rfl; first | exact zh1 (by first | exact rfl | assumption | exact z07 (by assumption)) | exact zn1 (by first | exact rfl | assumption | exact z07 (by assumption)))
    | (apply z57; (iterate 4 exact rfl); exact zc8 (by first | exact rfl | assumption | exact z07 (by assumption)))
    | (apply z43; (iterate 8 exact rfl); exact zh3 (by first | exact rfl | assumption | exact z07 (by assumption)))
    | (apply q75; exact rfl; exact rfl)
    | (apply q40; exact rfl)
    | (apply zu0; exact rfl; exact rfl)
    | (apply zk6; exact rfl; omega)
    | (apply q12; exact rfl)
    | (apply q53; exact rfl)
    | (apply q62; exact rfl; exact rfl)
    | (apply q67; exact rfl; exact rfl)
    | (apply qh0; exact rfl; exact rfl)
    | (apply z47; (iterate 3 exact rfl); omega)
    | (apply z61; exact rfl; exact rfl; omega)
    | (apply ze6; (iterate 3 exact rfl); omega)
    | (apply zd3; exact rfl; exact rfl; omega; omega)
    | (apply z56; exact rfl; exact rfl; omega; omega)
    | (apply za1; (iterate 5 exact rfl); omega)
    | (apply z65; (iterate 3 exact rfl); omega)
    | (apply zc0; (iterate 3 exact rfl); omega)
    | (apply zc4; exact rfl; exact rfl; (first | omega | (simp only [List.length_map, List.length_cons, List.length_nil, List.length_append, List.length_replicate]; omega)))
    | (apply zb8; exact rfl; exact rfl; (first | omega | (simp only [List.length_map, List.length_cons, List.length_nil, List.length_append, List.length_replicate]; omega)))
    | (apply z74; exact rfl; exact rfl; (first | omega | (simp only [List.length_map, List.length_cons, List.length_nil, List.length_append, List.length_replicate]; omega)))
    | (apply z82; exact rfl; exact rfl)
    | (apply q70; (iterate 4 exact rfl))
    | (apply z67; exact rfl; exact rfl; (first | assumption | exact rfl); exact rfl)
    | (apply z71; exact rfl; exact rfl; (first | assumption | exact rfl); exact rfl)
    | (apply z63; (iterate 4 exact rfl); (first | assumption | exact rfl); exact rfl; exact rfl; intro H1 hH1 kH1)
    | (apply z12; (iterate 3 exact rfl); assumption)
    | (apply z12; (iterate 3 exact rfl); exact List.getElem?_eq_getElem (by omega))
    | (apply za0; (iterate 3 exact rfl); assumption)
    | (apply zc7; exact rfl; exact rfl; assumption; omega)
    | (apply z64; exact rfl; exact rfl; assumption; omega)
    | (apply zv3; exact rfl; exact rfl; assumption; omega)
    | (apply z41; exact rfl; exact rfl)
    | (apply z55; (iterate 3 exact rfl))
    | (apply zf9; exact rfl; exact rfl; (first | omega | (simp only [List.length_map, List.length_cons, List.length_nil, List.length_append, List.length_replicate]; omega)); assumption; exact rfl; (first | exact z04 rfl rfl | exact z04 rfl (by assumption) | exact z48 rfl); intro H1 hH1 kH1)
    | (apply z62; (iterate 3 exact rfl); assumption; exact rfl; intro H1 hH1 kH1)
    | (apply zs5; exact rfl; assumption; exact rfl; exact rfl)
    | (apply q46; exact rfl; exact rfl)
    | (apply zf4; exact rfl)
    | (apply zk8; exact rfl; assumption)
    | (apply z93; (iterate 4 exact rfl); assumption; exact rfl)
    | (apply z92; (iterate 4 exact rfl); assumption; exact rfl)
    | (apply z84; (iterate 4 exact rfl); assumption; exact rfl)
    | (apply z87; (iterate 3 exact rfl); assumption; exact rfl; intro H1 hH1 kH1)
    | (apply z38; (iterate 3 exact rfl); assumption; exact rfl; intro H1 hH1 kH1)
    | (apply zv1; exact rfl; exact rfl)
    | (apply zl1; (iterate 4 exact rfl))
    | (apply zi5; (iterate 4 exact rfl))
    | (apply zg4; focus (repeat (first | exact zo7 | (apply kq_c; exact rfl) | (apply zt9; exact rfl) | (apply q59; exact rfl; exact rfl) | (apply q77; exact rfl) | (apply zm0; exact rfl) | (apply zl0; exact rfl) | (apply zs3; exact rfl) | (apply zs8; exact rfl) | (apply qp5; exact rfl) | (apply q68; exact rfl) | (apply zv4; exact rfl; exact rfl) | (apply zl3; exact rfl))))
    | apply zm7
    | apply z54
    | apply zm5
    | apply zd8
    | apply zh5
    | apply zm4
    | apply zg2
    | apply zc2
    | (apply zf3; exact rfl)
    | apply z42
    | apply zl6
    | (apply zh4; exact rfl; (with_reducible rfl))
    | (apply zf5; exact rfl; (with_reducible rfl))
    | (apply zm1; exact rfl)
    | (apply zu1; exact rfl)
    | (apply q38; exact rfl; (with_reducible rfl))
    | (apply zg7; exact rfl; (with_reducible rfl))
    | (apply zf8; exact rfl; (with_reducible rfl))
    | (apply zm6; exact rfl)
    | (apply zu3; exact rfl)
    | (apply qp6; (first | exact rfl | exact hnb _ (by decide) | exact z00 (hnb _ (by decide)) | exact z00 (z00 (hnb _ (by decide)))))
    | (apply zu7; (first | exact rfl | exact hnb _ (by decide) | exact z00 (hnb _ (by decide)) | exact z00 (z00 (hnb _ (by decide)))))
    | (apply q49; exact rfl; (with_reducible rfl); (first | exact rfl | exact hnb _ (by decide) | exact z00 (hnb _ (by decide)) | exact z00 (z00 (hnb _ (by decide)))))
    | (apply zg8; exact rfl; (with_reducible rfl); (first | exact rfl | exact hnb _ (by decide) | exact z00 (hnb _ (by decide)) | exact z00 (z00 (hnb _ (by decide)))); (first | exact z14 rfl | exact z13 rfl); exact rfl)
    | (apply zg5; exact rfl; (with_reducible rfl); (first | exact rfl | exact hnb _ (by decide) | exact z00 (hnb _ (by decide)) | exact z00 (z00 (hnb _ (by decide)))); (first | exact z14 rfl | exact z13 rfl); exact rfl)
    | (apply zm8; exact rfl; (first | exact rfl | exact hnb _ (by decide) | exact z00 (hnb _ (by decide)) | exact z00 (z00 (hnb _ (by decide)))); (first | exact z14 rfl | exact z13 rfl); exact rfl)
    | (apply zw1; exact rfl)
    | with_reducible exact q78
    | with_reducible exact q71
    | with_reducible apply q42
    | with_reducible apply q47
    | with_reducible apply q69
    | with_reducible apply q33
    | (with_reducible apply qq8; intro hc)
    | (with_reducible apply qq4; intro hc)
    | (with_reducible apply q63; intro hc)
    | (with_reducible apply q57; intro hc)
    | (with_reducible apply q73; intro hc)
    | (with_reducible apply q44; intro hc)
    | (with_reducible apply zt1; intro hc)
    | (with_reducible apply zr5; intro hc)
    | (with_reducible apply qo3; intro hc)
    | (with_reducible apply q74; intro hc)
    | (with_reducible apply qr9; intro hc)
    | (apply zl5; exact rfl)
    | (apply zl4; exact rfl)
    | (apply q31)
    | (apply zu4; exact rfl)
    | (apply zw0; exact rfl)
    | (apply zv0; exact rfl)
    | (apply zu9)
    | (apply zv6)
    | (apply zn0)
    | (apply zc1; exact rfl)
    | (apply zh6)
    | (apply zc3)
    | (apply zl8)
    | (apply zm9)
    | (apply dand; exact rfl)
    | (apply qq5; (first | exact ShI.c rfl | exact ShI.own rfl | exact ShI.nils rfl | exact ShI.cell rfl); (first | exact ShI.c rfl | exact ShI.own rfl | exact ShI.nils rfl | exact ShI.cell rfl); (exact by decide))
    | (apply qr4; (first | exact ShI.c rfl | exact ShI.own rfl | exact ShI.nils rfl | exact ShI.cell rfl); (first | exact ShI.c rfl | exact ShI.own rfl | exact ShI.nils rfl | exact ShI.cell rfl); (first | exact ShI.c rfl | exact ShI.own rfl | exact ShI.nils rfl | exact ShI.cell rfl); (exact by decide))
    | exact fin0
    | (apply qo5; exact rfl)
    | (apply qp7; exact rfl)
    | (apply qq9; exact rfl)
    | (apply qp9; exact rfl)
   any_goals (exfalso; omega)
   rw [jz2 (by omega) (by omega) hall]
theorem wm3 : Vv.fn 18 = some ic18 := rfl
theorem w94 (a b : List Tok) (ha : a.length ≤ 9223372036854775807) (hb : b.length ≤ 9223372036854775807) : Rets Vv 18 [.c (tks a), .c (tks b)] (.c (.bool (qj6 a b))) := by
 refine j29 wm3 ?_
 unfold tks
 repeat' first
  | apply zg0
  | exact za5
  | exact z25
  | exact z14 rfl
  | exact z13 rfl
  | exact z04 rfl rfl
  | exact z04 rfl (by assumption)
  | exact z48 rfl
  | (apply zv5; exact rfl; exact rfl)
  | (apply zl7; exact rfl; exact rfl)
  | (apply zp8; (iterate 3 exact rfl))
  | (apply z66; (iterate 3 exact rfl))
  | (apply z68; (iterate 3 exact rfl))
  | (apply q39; exact rfl; exact rfl; omega)
  | (apply q36; exact rfl; exact rfl; omega)
  | (apply q32; exact rfl; exact rfl; omega)
  | (apply zs7; exact rfl; exact rfl; omega)
  | (apply zs9; exact rfl; exact rfl)
  | (apply zm2; exact rfl; exact rfl; omega)
  | (apply zk9; exact rfl; exact rfl)
  | (apply zu5; exact rfl; exact rfl; omega)
  | (apply zm3; exact rfl; exact rfl)
  | (apply zl9; exact rfl; exact rfl)
  | (apply zd6; (iterate 3 exact rfl); assumption)
  | (apply zt6; exact rfl; assumption)
  | (apply zk5; exact rfl; exact rfl)
  | (apply q45; exact rfl; exact rfl; (first | omega | (simp only [List.length_map, List.length_cons, List.length_nil, List.length_append, List.length_replicate]; omega)))
  | (apply ze7; (iterate 3 exact rfl))
  | (apply zl2; exact rfl; exact rfl)
  | (apply q50; exact rfl; exact rfl)
  | (apply zc5; exact rfl)
  | (apply zd5; exact rfl)
  | (apply zd9; exact rfl)
  | (apply z90; exact rfl)
  | (apply z60; exact rfl)
  | (apply z91; exact rfl)
  | (apply qr8; exact rfl; exact rfl)
  | (apply q58; exact rfl; exact rfl)
  | (apply q48; (iterate 3 exact rfl))
  | (apply zd0; exact rfl; (with_reducible rfl); exact rfl)
  | (apply ze0; exact rfl; (with_reducible rfl); exact rfl)
  | (apply z28; (iterate 3 exact rfl); assumption)
  | (apply z28; (iterate 3 exact rfl); exact List.getElem?_eq_getElem (by omega))
  | (apply zt8; (iterate 3 exact rfl); assumption)
  | (apply zt8; (iterate 4 exact rfl))
  | (apply zf0; (iterate 3 exact rfl); assumption)
  | (apply zf0; (iterate 3 exact rfl); exact List.getElem?_eq_getElem (by omega))
  | (apply zs4; exact rfl; exact rfl; omega; (first | exact rfl | assumption))
  | (apply zs1; exact rfl; exact rfl)
  | (apply q09; exact rfl; exact rfl)
  | (apply zk7; (iterate 3 exact rfl))
  | (apply zg6; (iterate 3 exact rfl))
  | (apply q30; (iterate 6 exact rfl))
  | (apply zr8; (iterate 6 exact rfl))
  | (apply zq1; (iterate 3 exact rfl))
  | (apply zr7; (iterate 3 exact rfl))
  | (apply zq2; (iterate 3 exact rfl))
  | (apply zd4; exact rfl; exact rfl)
  | (apply zb7; (iterate 3 exact rfl))
  | (apply zb4; (iterate 3 exact rfl))
  | (apply zb3; exact rfl; exact z79 rfl)
  | (apply z40; exact rfl; exact z79 rfl)
  | (apply z89; exact rfl; exact z79 rfl)
  | (apply zg9; (iterate 3 exact rfl))
  | (apply zc9; exact rfl; exact rfl)
  | (apply zf6; exact rfl; exact rfl)
  | (apply zg1; exact rfl; exact rfl)
  | (apply z58; exact rfl; exact rfl)
  | (apply zb5; exact rfl; exact rfl)
  | (apply zt0; exact rfl; exact rfl; first | exact zh1 (by first | exact rfl | assumption | exact z07 (by assumption)) | exact zn1 (by first | exact rfl | assumption | exact z07 (by assumption)))
  | (apply z57; (iterate 4 exact rfl); exact zc8 (by first | exact rfl | assumption | exact z07 (by assumption)))
  | (apply z43; (iterate 8 exact rfl); exact zh3 (by first | exact rfl | assumption | exact z07 (by assumption)))
  | (apply q75; exact rfl; exact rfl)
  | (apply q40; exact rfl)
  | (apply zu0; exact rfl; exact rfl)
  | (apply zk6; exact rfl; omega)
  | (apply q12; exact rfl)
  | (apply q53; exact rfl)
  | (apply q62; exact rfl; exact rfl)
  | (apply q67; exact rfl; exact rfl)
  | (apply qh0; exact rfl; exact rfl)
  | (apply z47; (iterate 3 exact rfl); omega)
  | (apply z61; exact rfl; exact rfl; omega)
  | (apply ze6; (iterate 3 exact rfl); omega)
  | (apply zd3; exact rfl; exact rfl; omega; omega)
  | (apply z56; exact rfl; exact rfl; omega; omega)
  | (apply za1; (iterate 5 exact rfl); omega)
  | (apply z65; (iterate 3 exact rfl); omega)
  | (apply zc0; (iterate 3 exact rfl); omega)
  | (apply zc4; exact rfl; exact rfl; (first | omega | (simp only [List.length_map, List.length_cons, List.length_nil, List.length_append, List.length_replicate]; omega)))
  | (apply zb8; exact rfl; exact rfl; (first | omega | (simp only [List.length_map, List.length_cons, List.length_nil, List.length_append, List.length_replicate]; omega)))
  | (apply z74; exact rfl; exact rfl; (first | omega | (simp only [List.length_map, List.length_cons, List.length_nil, List.length_append, List.length_replicate]; omega)))
  | (apply z82; exact rfl; exact rfl)
  | (apply q70; (iterate 4 exact rfl))
  | (apply z67; exact rfl; exact rfl; (first | assumption | exact rfl); exact rfl)
  | (apply z71; exact rfl; exact rfl; (first | assumption | exact rfl); exact rfl)
  | (apply z63; (iterate 4 exact rfl); (first | assumption | exact rfl); exact rfl; exact rfl; intro H1 hH1 kH1)
  | (apply z12; (iterate 3 exact rfl); assumption)
  | (apply z12; (iterate 3 exact rfl); exact List.getElem?_eq_getElem (by omega))
  | (apply za0; (iterate 3 exact rfl); assumption)
  | (apply zc7; exact rfl; exact rfl; assumption; omega)
  | (apply z64; exact rfl; exact rfl; assumption; omega)
  | (apply zv3; exact rfl; exact rfl; assumption; omega)
  | (apply z41; exact rfl; exact rfl)
  | (apply z55; (iterate 3 exact rfl))
  | (apply zf9; exact rfl; exact rfl; (first | omega | (simp only [List.length_map, List.length_cons, List.length_nil, List.length_append, List.length_replicate]; omega)); assumption; exact rfl; (first | exact z04 rfl rfl | exact z04 rfl (by assumption) | exact z48 rfl); intro H1 hH1 kH1)
  | (apply z62; (iterate 3 exact rfl); assumption; exact rfl; intro H1 hH1 kH1)
  | (apply zs5; exact rfl; assumption; exact rfl; exact rfl)
  | (apply q46; exact rfl; exact rfl)
  | (apply zf4; exact rfl)
  | (apply zk8; exact rfl; assumption)
  | (apply z93; (iterate 4 exact rfl); assumption; exact rfl)
  | (apply z92; (iterate 4 exact rfl); assumption; exact rfl)
  | (apply z84; (iterate 4 exact rfl); assumption; exact rfl)
  | (apply z87; (iterate 3 exact rfl); assumption; exact rfl; intro H1 hH1 kH1)
  | (apply z38; (iterate 3 exact rfl); assumption; exact rfl; intro H1 hH1 kH1)
  | (apply zv1; exact rfl; exact rfl)
  | (apply zl1; (iterate 4 exact rfl))
  | (apply zi5; (iterate 4 exact rfl))
  | (apply zg4; focus (repeat (first | exact zo7 | (apply kq_c; exact rfl) | (apply zt9; exact rfl) | (apply q59; exact rfl; exact rfl) | (apply q77; exact rfl) | (apply zm0; exact rfl) | (apply zl0; exact rfl) | (apply zs3; exact rfl) | (apply zs8; exact rfl) | (apply qp5; exact rfl) | (apply q68; exact rfl) | (apply zv4; exact rfl; exact rfl) | (apply zl3; exact rfl))))
  | apply zm7
  | apply z54
  | apply zm5
  | apply zd8
  | apply zh5
  | apply zm4
  | apply zg2
  | apply zc2
  | (apply zf3; exact rfl)
  | apply z42
  | apply zl6
  | (apply zh4; exact rfl; (with_reducible rfl))
  | (apply zf5; exact rfl; (with_reducible rfl))
  | (apply zm1; exact rfl)
  | (apply zu1; exact rfl)
  | (apply q38; exact rfl; (with_reducible rfl))
  | (apply zg7; exact rfl; (with_reducible rfl))
  | (apply zf8; exact rfl; (with_reducible rfl))
  | (apply zm6; exact rfl)
  | (apply zu3; exact rfl)
  | (apply qp6; (first | exact rfl | exact hnb _ (by decide) | exact z00 (hnb _ (by decide)) | exact z00 (z00 (hnb _ (by decide)))))
  | (apply zu7; (first | exact rfl | exact hnb _ (by decide) | exact z00 (hnb _ (by decide)) | exact z00 (z00 (hnb _ (by decide)))))
  | (apply q49; exact rfl; (with_reducible rfl); (first | exact rfl | exact hnb _ (by decide) | exact z00 (hnb _ (by decide)) | exact z00 (z00 (hnb _ (by decide)))))
  | (apply zg8; exact rfl; (with_reducible rfl); (first | exact rfl | exact hnb _ (by decide) | exact z00 (hnb _ (by decide)) | exact z00 (z00 (hnb _ (by decide)))); (first | exact z14 rfl | exact z13 rfl); exact rfl)
  | (apply zg5; exact rfl; (with_reducible rfl); (first | exact rfl | exact hnb _ (by decide) | exact z00 (hnb _ (by decide)) | exact z00 (z00 (hnb _ (by decide)))); (first | exact z14 rfl | exact z13 rfl); exact rfl)
  | (apply zm8; exact rfl; (first | exact rfl | exact hnb _ (by decide) | exact z00 (hnb _ (by decide)) | exact z00 (z00 (hnb _ (by decide)))); (first | exact z14 rfl | exact z13 rfl); exact rfl)
  | (apply zw1; exact rfl)
  | with_reducible exact q78
  | with_reducible exact q71
  | with_reducible apply q42
  | with_reducible apply q47
  | with_reducible apply q69
  | with_reducible apply q33
  | (with_reducible apply qq8; intro hc)
  | (with_reducible apply qq4; intro hc)
  | (with_reducible apply q63; intro hc)
  | (with_reducible apply q57; intro hc)
  | (with_reducible apply q73; intro hc)
  | (with_reducible apply q44; intro hc)
  | (with_reducible apply zt1; intro hc)
  | (with_reducible apply zr5; intro hc)
  | (with_reducible apply qo3; intro hc)
  | (with_reducible apply q74; intro hc)
  | (with_reducible apply qr9; intro hc)
  | (apply zl5; exact rfl)
  | (apply zl4; exact rfl)
  | (apply q31)
  | (apply zu4; exact rfl)
  | (apply zw0; exact rfl)
  | (apply zv0; exact rfl)
  | (apply zu9)
  | (apply zv6)
  | (apply zn0)
  | (apply zc1; exact rfl)
  | (apply zh6)
  | (apply zc3)
  | (apply zl8)
  | (apply zm9)
  | (apply dand; exact rfl)
  | (apply qq5; (first | exact ShI.c rfl | exact ShI.own rfl | exact ShI.nils rfl | exact ShI.cell rfl); (first | exact ShI.c rfl | exact ShI.own rfl | exact ShI.nils rfl | exact ShI.cell rfl); (exact by decide))
  | (apply qr4; (first | exact ShI.c rfl | exact ShI.own rfl | exact ShI.nils rfl | exact ShI.cell rfl); (first | exact ShI.c rfl | exact ShI.own rfl | exact ShI.nils rfl | exact ShI.cell rfl); (first | exact ShI.c rfl | exact ShI.own rfl | exact ShI.nils rfl | exact ShI.cell rfl); (exact by decide))
  | exact fin0
  | (apply qo5; exact rfl)
  | (apply qp7; exact rfl)
  | (apply qq9; exact rfl)
  | (apply qp9; exact rfl)
 · rw [qy2 (by omega)]
 refine qd5 (fun n : Nat => [(0, .c (.frz (some 7) (a.map tokC))), (1, .c (.frz (some 7) (b.map tokC))), (5, .c (.int .i64 n))]) (fun n => n ≤ a.length ∧ (a.take n).map keyT = (b.take n).map keyT) (fun n => a.length - n) 0 ?_ ⟨Nat.zero_le _, rfl⟩ ?_
 · repeat' first
    | exact zo7
    | refine z44 rfl ?_
    | refine z44 ?_ ?_
 rintro n ⟨hn, hall⟩
 have hab : a.length = b.length := by omega
 by_cases hnl : n < a.length
 · have hnb : n < b.length := by omega
   repeat' first
    | apply zg0
    | exact za5
    | exact z25
    | exact z14 rfl
    | exact z13 rfl
    | exact z04 rfl rfl
    | exact z04 rfl (by assumption)
    | exact z48 rfl
    | (apply zv5; exact rfl; exact rfl)
    | (apply zl7; exact rfl; exact rfl)
    | (apply zp8; (iterate 3 exact rfl))
    | (apply z66; (iterate 3 exact rfl))
    | (apply z68; (iterate 3 exact rfl))
    | (apply q39; exact rfl; exact rfl; omega)
    | (apply q36; exact rfl; exact rfl; omega)
    | (apply q32; exact rfl; exact rfl; omega)
    | (apply zs7; exact rfl; exact rfl; omega)
    | (apply zs9; exact rfl; exact rfl)
    | (apply zm2; exact rfl; exact rfl; omega)
    | (apply zk9; exact rfl; exact rfl)
    | (apply zu5; exact rfl; exact rfl; omega)
    | (apply zm3; exact rfl; exact rfl)
    | (apply zl9; exact rfl; exact rfl)
    | (apply zd6; (iterate 3 exact rfl); assumption)
    | (apply zt6; exact rfl; assumption)
    | (apply zk5; exact rfl; exact rfl)
    | (apply q45; exact rfl; exact rfl; (first | omega | (simp only [List.length_map, List.length_cons, List.length_nil, List.length_append, List.length_replicate]; omega)))
    | (apply ze7; (iterate 3 exact rfl))
    | (apply zl2; exact rfl; exact rfl)
    | (apply q50; exact rfl; exact rfl)
    | (apply zc5; exact rfl)
    | (apply zd5; exact rfl)
    | (apply zd9; exact rfl)
    | (apply z90; exact rfl)
    | (apply z60; exact rfl)
    | (apply z91; exact rfl)
    | (apply qr8; exact rfl; exact rfl)
    | (apply q58; exact rfl; exact rfl)
    | (apply q48; (iterate 3 exact rfl))
    | (apply zd0; exact rfl; (with_reducible rfl); exact rfl)
    | (apply ze0; exact rfl; (with_reducible rfl); exact rfl)
    | (apply z28; (iterate 3 exact rfl); assumption)
    | (apply z28; (iterate 3 exact rfl); exact List.getElem?_eq_getElem (by omega))
    | (apply zt8; (iterate 3 exact rfl); assumption)
    | (apply zt8; (iterate 4 exact rfl))
    | (apply zf0; (iterate 3 exact rfl); assumption)
    | (apply zf0; (iterate 3 exact rfl); exact List.getElem?_eq_getElem (by omega))
    | (apply zs4; exact rfl; exact rfl; omega; (first | exact rfl | assumption))
    | (apply zs1; exact rfl; exact rfl)
    | (apply q09; exact rfl; exact rfl)
    | (apply zk7; (iterate 3 exact rfl))
    | (apply zg6; (iterate 3 exact rfl))
    | (apply q30; (iterate 6 exact rfl))
    | (apply zr8; (iterate 6 exact rfl))
    | (apply zq1; (iterate 3 exact rfl))
    | (apply zr7; (iterate 3 exact rfl))
    | (apply zq2; (iterate 3 exact rfl))
    | (apply zd4; exact rfl; exact rfl)
    | (apply zb7; (iterate 3 exact rfl))
    | (apply zb4; (iterate 3 exact rfl))
    | (apply zb3; exact rfl; exact z79 rfl)
    | (apply z40; exact rfl; exact z79 rfl)
    | (apply z89; exact rfl; exact z79 rfl)
    | (apply zg9; (iterate 3 exact rfl))
    | (apply zc9; exact rfl; exact rfl)
    | (apply zf6; exact rfl; exact rfl)
    | (apply zg1; exact rfl; exact rfl)
    | (apply z58; exact rfl; exact rfl)
    | (apply zb5; exact rfl; exact rfl)
    | (apply zt0; exact rfl; exact rfl; first | exact zh1 (by first | exact rfl | assumption | exact z07 (by assumption)) | exact zn1 (by first | exact rfl | assumption | exact z07 (by assumption)))
    | (apply z57; (iterate 4 exact rfl); exact zc8 (by first | exact rfl | assumption | exact z07 (by assumption)))
    | (apply z43; (iterate 8 exact rfl); exact zh3 (by first | exact rfl | assumption | exact z07 (by assumption)))
    | (apply q75; exact rfl; exact rfl)
    | (apply q40; exact rfl)
    | (apply zu0; exact rfl; exact rfl)
    | (apply zk6; exact rfl; omega)
    | (apply q12; exact rfl)
    | (apply q53; exact rfl)
    | (apply q62; exact rfl; exact rfl)
    | (apply q67; exact rfl; exact rfl)
    | (apply qh0; exact rfl; exact rfl)
    | (apply z47; (iterate 3 exact rfl); omega)
    | (apply z61; exact rfl; exact rfl; omega)
    | (apply ze6; (iterate 3 exact rfl); omega)
    | (apply zd3; exact rfl; exact rfl; omega; omega)
    | (apply z56; exact rfl; exact rfl; omega; omega)
    | (apply za1; (iterate 5 exact rfl); omega)
    | (apply z65; (iterate 3 exact rfl); omega)
    | (apply zc0; (iterate 3 exact rfl); omega)
    | (apply zc4; exact rfl; exact rfl; (first | omega | (simp only [List.length_map, List.length_cons, List.length_nil, List.length_append, List.length_replicate]; omega)))
    | (apply zb8; exact rfl; exact rfl; (first | omega | (simp only [List.length_map, List.length_cons, List.length_nil, List.length_append, List.length_replicate]; omega)))
    | (apply z74; exact rfl; exact rfl; (first | omega | (simp only [List.length_map, List.length_cons, List.length_nil, List.length_append, List.length_replicate]; omega)))
    | (apply z82; exact rfl; exact rfl)
    | (apply q70; (iterate 4 exact rfl))
    | (apply z67; exact rfl; exact rfl; (first | assumption | exact rfl); exact rfl)
    | (apply z71; exact rfl; exact rfl; (first | assumption | exact rfl); exact rfl)
    | (apply z63; (iterate 4 exact rfl); (first | assumption | exact rfl); exact rfl; exact rfl; intro H1 hH1 kH1)
    | (apply z12; (iterate 3 exact rfl); assumption)
    | (apply z12; (iterate 3 exact rfl); exact List.getElem?_eq_getElem (by omega))
    | (apply za0; (iterate 3 exact rfl); assumption)
    | (apply zc7; exact rfl; exact rfl; assumption; omega)
    | (apply z64; exact rfl; exact rfl; assumption; omega)
    | (apply zv3; exact rfl; exact rfl; assumption; omega)
    | (apply z41; exact rfl; exact rfl)
    | (apply z55; (iterate 3 exact rfl))
    | (apply zf9; exact rfl; exact rfl; (first | omega | (simp only [List.length_map, List.length_cons, List.length_nil, List.length_append, List.length_replicate]; omega)); assumption; exact rfl; (first | exact z04 rfl rfl | exact z04 rfl (by assumption) | exact z48 rfl); intro H1 hH1 kH1)
    | (apply z62; (iterate 3 exact rfl); assumption; exact rfl; intro H1 hH1 kH1)
    | (apply zs5; exact rfl; assumption; exact rfl; exact rfl)
    | (apply q46; exact rfl; exact rfl)
    | (apply zf4; exact rfl)
    | (apply zk8; exact rfl; assumption)
    | (apply z93; (iterate 4 exact rfl); assumption; exact rfl)
    | (apply z92; (iterate 4 exact rfl); assumption; exact rfl)
    | (apply z84; (iterate 4 exact rfl); assumption; exact rfl)
    | (apply z87; (iterate 3 exact rfl); assumption; exact rfl; intro H1 hH1 kH1)
    | (apply z38; (iterate 3 exact rfl); assumption; exact rfl; intro H1 hH1 kH1)
    | (apply zv1; exact rfl; exact rfl)
    | (apply zl1; (iterate 4 exact rfl))
    | (apply zi5; (iterate 4 exact rfl))
    | (apply zg4; focus (repeat (first | exact zo7 | (apply kq_c; exact rfl) | (apply zt9; exact rfl) | (apply q59; exact rfl; exact rfl) | (apply q77; exact rfl) | (apply zm0; exact rfl) | (apply zl0; exact rfl) | (apply zs3; exact rfl) | (apply zs8; exact rfl) | (apply qp5; exact rfl) | (apply q68; exact rfl) | (apply zv4; exact rfl; exact rfl) | (apply zl3; exact rfl))))
    | apply zm7
    | apply z54
    | apply zm5
    | apply zd8
    | apply zh5
    | apply zm4
    | apply zg2
    | apply zc2
    | (apply zf3; exact rfl)
    | apply z42
    | apply zl6
    | (apply zh4; exact rfl; (with_reducible rfl))
    | (apply zf5; exact rfl; (with_reducible rfl))
    | (apply zm1; exact rfl)
    | (apply zu1; exact rfl)
    | (apply q38; exact rfl; (with_reducible rfl))
    | (apply zg7; exact rfl; (with_reducible rfl))
    | (apply zf8; exact rfl; (with_reducible rfl))
    | (apply zm6; exact rfl)
    | (apply zu3; exact rfl)
    | (apply qp6; (first | exact rfl | exact hnb _ (by decide) | exact z00 (hnb _ (by decide)) | exact z00 (z00 (hnb _ (by decide)))))
    | (apply zu7; (first | exact rfl | exact hnb _ (by decide) | exact z00 (hnb _ (by decide)) | exact z00 (z00 (hnb _ (by decide)))))
    | (apply q49; exact rfl; (with_reducible rfl); (first | exact rfl | exact hnb _ (by decide) | exact z00 (hnb _ (by decide)) | exact z00 (z00 (hnb _ (by decide)))))
    | (apply zg8; exact rfl; (with_reducible rfl); (first | exact rfl | exact hnb _ (by decide) | exact z00 (hnb _ (by decide)) | exact z00 (z00 (hnb _ (by decide)))); (first | exact z14 rfl | exact z13 rfl); exact rfl)
    | (apply zg5; exact rfl; (with_reducible rfl); (first | exact rfl | exact hnb _ (by decide) | exact z00 (hnb _ (by decide)) | exact z00 (z00 (hnb _ (by decide)))); (first | exact z14 rfl | exact z13 rfl); exact rfl)
    | (apply zm8; exact rfl; (first | exact rfl | exact hnb _ (by decide) | exact z00 (hnb _ (by decide)) | exact z00 (z00 (hnb _ (by decide)))); (first | exact z14 rfl | exact z13 rfl); exact rfl)
    | (apply zw1; exact rfl)
    | with_reducible exact q78
    | with_reducible exact q71
    | with_reducible apply q42
    | with_reducible apply q47
    | with_reducible apply q69
    | with_reducible apply q33
    | (with_reducible apply qq8; intro hc)
    | (with_reducible apply qq4; intro hc)
    | (with_reducible apply q63; intro hc)
    | (with_reducible apply q57; intro hc)
    | (with_reducible apply q73; intro hc)
    | (with_reducible apply q44; intro hc)
    | (with_reducible apply zt1; intro hc)
    | (with_reducible apply zr5; intro hc)
    | (with_reducible apply qo3; intro hc)
    | (with_reducible apply q74; intro hc)
    | (with_reducible apply qr9; intro hc)
    | (apply zl5; exact rfl)
    | (apply zl4; exact rfl)
    | (apply q31)
    | (apply zu4; exact rfl)
    | (apply zw0; exact rfl)
    | (apply zv0; exact rfl)
    | (apply zu9)
    | (apply zv6)
    | (apply zn0)
    | (apply zc1; exact rfl)
    | (apply zh6)
    | (apply zc3)
    | (apply zl8)
    | (apply zm9)
    | (apply dand; exact rfl)
    | (apply qq5; (first | exact ShI.c rfl | exact ShI.own rfl | exact ShI.nils rfl | exact ShI.cell rfl); (first | exact ShI.c rfl | exact ShI.own rfl | exact ShI.nils rfl | exact ShI.cell rfl); (exact by decide))
    | (apply qr4; (first | exact ShI.c rfl | exact ShI.own rfl | exact ShI.nils rfl | exact ShI.cell rfl); (first | exact ShI.c rfl | exact ShI.own rfl | exact ShI.nils rfl | exact ShI.cell rfl); (first | exact ShI.c rfl | exact ShI.own rfl | exact ShI.nils rfl | exact ShI.cell rfl); (exact by decide))
    | exact fin0
    | (apply qo5; exact rfl)
    | (apply qp7; exact rfl)
    | (apply qq9; exact rfl)
    | (apply qp9; exact rfl)
   any_goals (exfalso; omega)
   any_goals rw [j70 hnl hnb (by unfold keyT; intro e; simp only [Prod.mk.injEq] at e; simp_all)]
   refine ⟨n + 1, ?_, rfl, ⟨by omega, jy8 hnl hnb hall (by unfold keyT; simp_all)⟩, by omega⟩
   repeat' first
    | exact zo7
    | refine z44 rfl ?_
    | refine z44 ?_ ?_
 · repeat' first
    | apply zg0
    | exact za5
    | exact z25
    | exact z14 rfl
    | exact z13 rfl
    | exact z04 rfl rfl
    | exact z04 rfl (by assumption)
    | exact z48 rfl
    | (apply zv5; exact rfl; exact rfl)
    | (apply zl7; exact rfl; exact rfl)
    | (apply zp8; (iterate 3 exact rfl))
    | (apply z66; (iterate 3 exact rfl))
    | (apply z68; (iterate 3 exact rfl))
    | (apply q39; exact rfl; exact rfl; omega)
    | (apply q36; exact rfl; exact rfl; omega)
    | (apply q32; exact rfl; exact rfl; omega)
    | (apply zs7; exact rfl; exact rfl; omega)
    | (apply zs9; exact rfl; exact rfl)
    | (apply zm2; exact rfl; exact rfl; omega)
    | (apply zk9; exact rfl; exact rfl)
    | (apply zu5; exact rfl; exact rfl; omega)
    | (apply zm3; exact rfl; exact rfl)
    | (apply zl9; exact rfl; exact rfl)
    | (apply zd6; (iterate 3 exact rfl); assumption)
    | (apply zt6; exact rfl; assumption)
    | (apply zk5; exact rfl; exact rfl)
    | (apply q45; exact rfl; exact rfl; (first | omega | (simp only [List.length_map, List.length_cons, List.length_nil, List.length_append, List.length_replicate]; omega)))
    | (apply ze7; (iterate 3 exact rfl))
    | (apply zl2; exact rfl; exact rfl)
    | (apply q50; exact rfl; exact rfl)
    | (apply zc5; exact rfl)
    | (apply zd5; exact rfl)
    | (apply zd9; exact rfl)
    | (apply z90; exact rfl)
    | (apply z60; exact rfl)
    | (apply z91; exact rfl)
    | (apply qr8; exact rfl; exact rfl)
    | (apply q58; exact rfl; exact rfl)
    | (apply q48; (iterate 3 exact rfl))
    | (apply zd0; exact rfl; (with_reducible rfl); exact rfl)
    | (apply ze0; exact rfl; (with_reducible rfl); exact rfl)
    | (apply z28; (iterate 3 exact rfl); assumption)
    | (apply z28; (iterate 3 exact rfl); exact List.getElem?_eq_getElem (by omega))
    | (apply zt8; (iterate 3 exact rfl); assumption)
    | (apply zt8; (iterate 4 exact rfl))
    | (apply zf0; (iterate 3 exact rfl); assumption)
    | (apply zf0; (iterate 3 exact rfl); exact List.getElem?_eq_getElem (by omega))
    | (apply zs4; exact rfl; exact rfl; omega; (first | exact rfl | assumption))
    | (apply zs1; exact rfl; exact rfl)
    | (apply q09; exact rfl; exact rfl)
    | (apply zk7; (iterate 3 exact rfl))
    | (apply zg6; (iterate 3 exact rfl))
    | (apply q30; (iterate 6 exact rfl))
    | (apply zr8; (iterate 6 exact rfl))
    | (apply zq1; (iterate 3 exact rfl))
    | (apply zr7; (iterate 3 exact rfl))
    | (apply zq2; (iterate 3 exact rfl))
    | (apply zd4; exact rfl; exact rfl)
    | (apply zb7; (iterate 3 exact rfl))
    | (apply zb4; (iterate 3 exact rfl))
    | (apply zb3; exact rfl; exact z79 rfl)
    | (apply z40; exact rfl; exact z79 rfl)
    | (apply z89; exact rfl; exact z79 rfl)
    | (apply zg9; (iterate 3 exact rfl))
    | (apply zc9; exact rfl; exact rfl)
    | (apply zf6; exact rfl; exact rfl)
    | (apply zg1; exact rfl; exact rfl)
    | (apply z58; exact rfl; exact rfl)
    | (apply zb5; exact rfl; exact rfl)
    | (apply zt0; exact rfl; exact rfl; first | exact zh1 (by first | exact rfl | assumption | exact z07 (by assumption)) | exact zn1 (by first | exact rfl | assumption | exact z07 (by assumption)))
    | (apply z57; (iterate 4 exact rfl); exact zc8 (by first | exact rfl | assumption | exact z07 (by assumption)))
    | (apply z43; (iterate 8 exact rfl); exact zh3 (by first | exact rfl | assumption | exact z07 (by assumption)))
    | (apply q75; exact rfl; exact rfl)
    | (apply q40; exact rfl)
    | (apply zu0; exact rfl; exact rfl)
    | (apply zk6; exact rfl; omega)
    | (apply q12; exact rfl)
    | (apply q53; exact rfl)
    | (apply q62; exact rfl; exact rfl)
    | (apply q67; exact rfl; exact rfl)
    | (apply qh0; exact rfl; exact rfl)
    | (apply z47; (iterate 3 exact rfl); omega)
    | (apply z61; exact rfl; exact rfl; omega)
    | (apply ze6; (iterate 3 exact rfl); omega)
    | (apply zd3; exact rfl; exact rfl; omega; omega)
    | (apply z56; exact rfl; exact rfl; omega; omega)
    | (apply za1; (iterate 5 exact rfl); omega)
    | (apply z65; (iterate 3 exact rfl); omega)
    | (apply zc0; (iterate 3 exact rfl); omega)
    | (apply zc4; exact rfl; exact rfl; (first | omega | (simp only [List.length_map, List.length_cons, List.length_nil, List.length_append, List.length_replicate]; omega)))
    | (apply zb8; exact rfl; exact rfl; (first | omega | (simp only [List.length_map, List.length_cons, List.length_nil, List.length_append, List.length_replicate]; omega)))
    | (apply z74; exact rfl; exact rfl; (first | omega | (simp only [List.length_map, List.length_cons, List.length_nil, List.length_append, List.length_replicate]; omega)))
    | (apply z82; exact rfl; exact rfl)
    | (apply q70; (iterate 4 exact rfl))
    | (apply z67; exact rfl; exact rfl; (first | assumption | exact rfl); exact rfl)
    | (apply z71; exact rfl; exact rfl; (first | assumption | exact rfl); exact rfl)
    | (apply z63; (iterate 4 exact rfl); (first | assumption | exact rfl); exact rfl; exact rfl; intro H1 hH1 kH1)
    | (apply z12; (iterate 3 exact rfl); assumption)
    | (apply z12; (iterate 3 exact rfl); exact List.getElem?_eq_getElem (by omega))
    | (apply za0; (iterate 3 exact rfl); assumption)
    | (apply zc7; exact rfl; exact rfl; assumption; omega)
    | (apply z64; exact rfl; exact rfl; assumption; omega)
    | (apply zv3; exact rfl; exact rfl; assumption; omega)
    | (apply z41; exact rfl; exact rfl)
    | (apply z55; (iterate 3 exact rfl))
    | (apply zf9; exact rfl; exact rfl; (first | omega | (simp only [List.length_map, List.length_cons, List.length_nil, List.length_append, List.length_replicate]; omega)); assumption; exact rfl; (first | exact z04 rfl rfl | exact z04 rfl (by assumption) | exact z48 rfl); intro H1 hH1 kH1)
    | (apply z62; (iterate 3 exact rfl); assumption; exact rfl; intro H1 hH1 kH1)
    | (apply zs5; exact rfl; assumption; exact rfl; exact rfl)
    | (apply q46; exact rfl; exact rfl)
    | (apply zf4; exact rfl)
    | (apply zk8; exact rfl; assumption)
    | (apply z93; (iterate 4 exact rfl); assumption; exact rfl)
    | (apply z92; (iterate 4 exact rfl); assumption; exact rfl)
    | (apply z84; (iterate 4 exact rfl); assumption; exact rfl)
    | (apply z87; (iterate 3 exact rfl); assumption; exact rfl; intro H1 hH1 kH1)
    | (apply z38; (iterate 3 exact rfl); assumption; exact rfl; intro H1 hH1 kH1)
    | (apply zv1; exact rfl; exact rfl)
    | (apply zl1; (iterate 4 exact rfl))
    | (apply zi5; (iterate 4 exact rfl))
    | (apply zg4; focus (repeat (first | exact zo7 | (apply kq_c; exact rfl) | (apply zt9; exact rfl) | (apply q59; exact rfl; exact rfl) | (apply q77; exact rfl) | (apply zm0; exact rfl) | (apply zl0; exact rfl) | (apply zs3; exact rfl) | (apply zs8; exact rfl) | (apply qp5; exact rfl) | (apply q68; exact rfl) | (apply zv4; exact rfl; exact rfl) | (apply zl3; exact rfl))))
    | apply zm7
    | apply z54
    | apply zm5
    | apply zd8
    | apply zh5
    | apply zm4
    | apply zg2
    | apply zc2
    | (apply zf3; exact rfl)
    | apply z42
    | apply zl6
    | (apply zh4; exact rfl; (with_reducible rfl))
    | (apply zf5; exact rfl; (with_reducible rfl))
    | (apply zm1; exact rfl)
    | (apply zu1; exact rfl)
    | (apply q38; exact rfl; (with_reducible rfl))
    | (apply zg7; exact rfl; (with_reducible rfl))
    | (apply zf8; exact rfl; (with_reducible rfl))
    | (apply zm6; exact rfl)
    | (apply zu3; exact rfl)
    | (apply qp6; (first | exact rfl | exact hnb _ (by decide) | exact z00 (hnb _ (by decide)) | exact z00 (z00 (hnb _ (by decide)))))
    | (apply zu7; (first | exact rfl | exact hnb _ (by decide) | exact z00 (hnb _ (by decide)) | exact z00 (z00 (hnb _ (by decide)))))
    | (apply q49; exact rfl; (with_reducible rfl); (first | exact rfl | exact hnb _ (by decide) | exact z00 (hnb _ (by decide)) | exact z00 (z00 (hnb _ (by decide)))))
    | (apply zg8; exact rfl; (with_reducible rfl); (first | exact rfl | exact hnb _ (by decide) | exact z00 (hnb _ (by decide)) | exact z00 (z00 (hnb _ (by decide)))); (first | exact z14 rfl | exact z13 rfl); exact rfl)
    | (apply zg5; exact rfl; (with_reducible rfl); (first | exact rfl | exact hnb _ (by decide) | exact z00 (hnb _ (by decide)) | exact z00 (z00 (hnb _ (by decide)))); (first | exact z14 rfl | exact z13 rfl); exact rfl)
    | (apply zm8; exact rfl; (first | exact rfl | exact hnb _ (by decide) | exact z00 (hnb _ (by decide)) | exact z00 (z00 (hnb _ (by decide)))); (first | exact z14 rfl | exact z13 rfl); exact rfl)
    | (apply zw1; exact rfl)
    | with_reducible exact q78
    | with_reducible exact q71
    | with_reducible apply q42
    | with_reducible apply q47
    | with_reducible apply q69
    | with_reducible apply q33
    | (with_reducible apply qq8; intro hc)
    | (with_reducible apply qq4; intro hc)
    | (with_reducible apply q63; intro hc)
    | (with_reducible apply q57; intro hc)
    | (with_reducible apply q73; intro hc)
    | (with_reducible apply q44; intro hc)
    | (with_reducible apply zt1; intro hc)
    | (with_reducible apply zr5; intro hc)
    | (with_reducible apply qo3; intro hc)
    | (with_reducible apply q74; intro hc)
    | (with_reducible apply qr9; intro hc)
    | (apply zl5; exact rfl)
    | (apply zl4; exact rfl)
    | (apply q31)
    | (apply zu4; exact rfl)
    | (apply zw0; exact rfl)
    | (apply zv0; exact rfl)
    | (apply zu9)
    | (apply zv6)
    | (apply zn0)
    | (apply zc1; exact rfl)
    | (apply zh6)
    | (apply zc3)
    | (apply zl8)
    | (apply zm9)
    | (apply dand; exact rfl)
    | (apply qq5; (first | exact ShI.c rfl | exact ShI.own rfl | exact ShI.nils rfl | exact ShI.cell rfl); (first | exact ShI.c rfl | exact ShI.own rfl | exact ShI.nils rfl | exact ShI.cell rfl); (exact by decide))
    | (apply qr4; (first | exact ShI.c rfl | exact ShI.own rfl | exact ShI.nils rfl | exact ShI.cell rfl); (first | exact ShI.c rfl | exact ShI.own rfl | exact ShI.nils rfl | exact ShI.cell rfl); (first | exact ShI.c rfl | exact ShI.own rfl | exact ShI.nils rfl | exact ShI.cell rfl); (exact by decide))
    | exact fin0
    | (apply qo5; exact rfl)
    | (apply qp7; exact rfl)
    | (apply qq9; exact rfl)
    | (apply qp9; exact rfl)
   any_goals (exfalso; omega)
   rw [jz2 (by omega) (by omega) hall]
end Go.Proofs.TryzL
