/- Chapter 02: the law about Same: the harness. -/
import Derived.Test.YtencoceemejcnaaGreatDoorLzT37
set_option linter.unusedSimpArgs false
set_option linter.unusedVariables false
namespace Go.Proofs.TryzL
open Go.Proofs.Lz
set_option maxHeartbeats 4000000
def qv6 (v : Int) (t : Tok) : Tok := ⟨t.op, t.qual, t.text, t.n, t.auto, v, t.col⟩
def tCol (v : Int) (t : Tok) : Tok := ⟨t.op, t.qual, t.text, t.n, t.auto, t.line, v⟩
def wc6 (v : Bool) (t : Tok) : Tok := ⟨t.op, t.qual, t.text, t.n, v, t.line, t.col⟩
section
variable {V : WEnv} {fr fr' : WFr} {H H' : z01} {N : Post} {dst : Option Nat}
theorem z93 {l : List (Nat × WV)} {al : List (Nat × Option (Nat × Nat))} {a x : Opd} {b i m e : Nat} {bb : Bool} {xs : List Tok} {y : Tok} {xx : CV} {v : Int} (hp : (FL l al).place a = none) (ha : (FL l al).rd a = .eptr (.sl b 0 0) i 5 (some 7) xx) (hx : (FL l al).rd x = .c (.int .i64 v))
 (ho : (FL l al).env b = .own bb e (some 7) (xs.map tokC)) (hi : xs[m]? = some y) (hn : i = m) (h : N (FL (qb2 (.sl b 0 0) ((b, .own bb e (some 7) ((xs.set m (qv6 v y)).map tokC)) :: l)) al) H) : OpP V (.store none a x) none (FL l al) H N := by subst hn; exact zq3 hp ha hx ho hi rfl h
theorem z92 {l : List (Nat × WV)} {al : List (Nat × Option (Nat × Nat))} {a x : Opd} {b i m e : Nat} {bb : Bool} {xs : List Tok} {y : Tok} {xx : CV} {v : Int} (hp : (FL l al).place a = none) (ha : (FL l al).rd a = .eptr (.sl b 0 0) i 6 (some 7) xx) (hx : (FL l al).rd x = .c (.int .i64 v))
 (ho : (FL l al).env b = .own bb e (some 7) (xs.map tokC)) (hi : xs[m]? = some y) (hn : i = m) (h : N (FL (qb2 (.sl b 0 0) ((b, .own bb e (some 7) ((xs.set m (tCol v y)).map tokC)) :: l)) al) H) : OpP V (.store none a x) none (FL l al) H N := by subst hn; exact zq3 hp ha hx ho hi rfl h
theorem z84 {l : List (Nat × WV)} {al : List (Nat × Option (Nat × Nat))} {a x : Opd} {b i m e : Nat} {bb : Bool} {xs : List Tok} {y : Tok} {xx : CV} {v : Bool} (hp : (FL l al).place a = none) (ha : (FL l al).rd a = .eptr (.sl b 0 0) i 4 (some 7) xx) (hx : (FL l al).rd x = .c (.bool v))
 (ho : (FL l al).env b = .own bb e (some 7) (xs.map tokC)) (hi : xs[m]? = some y) (hn : i = m) (h : N (FL (qb2 (.sl b 0 0) ((b, .own bb e (some 7) ((xs.set m (wc6 v y)).map tokC)) :: l)) al) H) : OpP V (.store none a x) none (FL l al) H N := by subst hn; exact zq3 hp ha hx ho hi rfl h
end
def redo (line col : Int) (t : Tok) : Tok := wc6 (!t.auto) (tCol col (qv6 line t))
def Mid (a : List Tok) (line col : Int) (n : Nat) (M : List Tok) : Prop := M.length = a.length ∧ ∀ j : Nat, M[j]? = if j < n then (a[j]?).map (redo line col) else a[j]?
theorem jy1 {l : List Tok} {i : Nat} {y z : Tok} (h : l[i]? = some y) : (l.set i z)[i]? = some z := by
 obtain ⟨hi, _⟩ := List.getElem?_eq_some_iff.1 h
 simp [hi]
theorem wp8 {a M : List Tok} {line col : Int} {n : Nat} (hm : Mid a line col n M) (hn : n < a.length) : Mid a line col (n + 1) (((M.set n (qv6 line a[n])).set n (tCol col (qv6 line a[n]))).set n (redo line col a[n])) := by
 obtain ⟨h1, h2⟩ := hm
 refine ⟨by simp [h1], fun j => ?_⟩
 by_cases hj : n = j
 · subst hj
   simp [h1, hn]
 · have : j < n + 1 ↔ j < n := by omega
   simp only [List.getElem?_set_ne hj, h2 j, this]
theorem wq4 {a M : List Tok} {line col : Int} {n : Nat} (hm : Mid a line col n M) (hn : a.length ≤ n) : M = a.map (redo line col) := by
 obtain ⟨h1, h2⟩ := hm
 apply List.ext_getElem?
 intro j
 rw [h2 j, List.getElem?_map]
 by_cases hj : j < n
 · rw [if_pos hj]
 · rw [if_neg hj, List.getElem?_eq_none (by omega)]
   rfl
theorem jq7 (a : List Tok) (line col : Int) : qj6 a (a.map (redo line col)) = true := by
 unfold qj6
 rw [decide_eq_true_iff, List.map_map]
 rfl
theorem law7 (a b : List Tok) (line col : Int) (ha : a.length ≤ 9223372036854775807) (hb : b.length ≤ 9223372036854775807) : Rets Vv 7 [.c (tks a), .c (tks b), .c (.int .i64 line), .c (.int .i64 col)] (.c (.bool true)) := by
 refine j29 vfn7 ?_
 have h17 := jy5 a b ha hb
 have h18 := w94 a b ha hb
 have h17' := jy5 a (a.map (redo line col)) ha (by simpa using ha)
 rw [jq7] at h17'
 unfold tks at *
 repeat' first
  | apply zg0
  | exact za5
  | exact z25
  | exact z14 rfl
  | exact z13 rfl
  | exact z04 rfl rfl
  | exact z04 rfl (by assumption)
  | exact z48 rfl
  | (apply zv5; exact rfl; exact rfl)
  | (apply zl7; exact rfl; exact rfl)
  | (apply zp8; (iterate 3 exact rfl))
  | (apply z66; (iterate 3 exact rfl))
  | (apply z68; (iterate 3 exact rfl))
  | (apply q39; exact rfl; exact rfl; omega)
  | (apply q36; exact rfl; exact rfl; omega)
  | (apply q32; exact rfl; exact rfl; omega)
  | (apply zs7; exact rfl; exact rfl; omega)
  | (apply zs9; exact rfl; exact rfl)
  | (apply zm2; exact rfl; exact rfl; omega)
  | (apply zk9; exact rfl; exact rfl)
  | (apply zu5; exact rfl; exact rfl; omega)
  | (apply zm3; exact rfl; exact rfl)
  | (apply zl9; exact rfl; exact rfl)
  | (apply zd6; (iterate 3 exact rfl); assumption)
  | (apply zt6; exact rfl; assumption)
  | (apply zk5; exact rfl; exact rfl)
  | (apply q45; exact rfl; exact rfl; (first | omega | (simp only [List.length_map, List.length_cons, List.length_nil, List.length_append, List.length_replicate]; omega)))
  | (apply ze7; (iterate 3 exact rfl))
  | (apply zl2; exact rfl; exact rfl)
  | (apply q50; exact rfl; exact rfl)
  | (apply zc5; exact rfl)
  | (apply zd5; exact rfl)
  | (apply zd9; exact rfl)
  | (apply z90; exact rfl)
  | (apply z60; exact rfl)
  | (apply z91; exact rfl)
  | (apply qr8; exact rfl; exact rfl)
  | (apply q58; exact rfl; exact rfl)
  | (apply q48; (iterate 3 exact rfl))
  | (apply zd0; exact rfl; (with_reducible rfl); exact rfl)
  | (apply ze0; exact rfl; (with_reducible rfl); exact rfl)
  | (apply z28; (iterate 3 exact rfl); assumption)
  | (apply z28; (iterate 3 exact rfl); exact List.getElem?_eq_getElem (by omega))
  | (apply zt8; (iterate 3 exact rfl); assumption)
  | (apply zt8; (iterate 4 exact rfl))
  | (apply zf0; (iterate 3 exact rfl); assumption)
  | (apply zf0; (iterate 3 exact rfl); exact List.getElem?_eq_getElem (by omega))
  | (apply zs4; exact rfl; exact rfl; omega; (first | exact rfl | assumption))
  | (apply zs1; exact rfl; exact rfl)
  | (apply q09; exact rfl; exact rfl)
  | (apply zk7; (iterate 3 exact rfl))
  | (apply zg6; (iterate 3 exact rfl))
  | (apply q30; (iterate 6 exact rfl))
  | (apply zr8; (iterate 6 exact rfl))
  | (apply zq1; (iterate 3 exact rfl))
  | (apply zr7; (iterate 3 exact rfl))
  | (apply zq2; (iterate 3 exact rfl))
  | (apply zd4; exact rfl; exact rfl)
  | (apply zb7; (iterate 3 exact rfl))
  | (apply zb4; (iterate 3 exact rfl))
  | (apply zb3; exact rfl; exact z79 rfl)
  | (apply z40; exact rfl; exact z79 rfl)
  | (apply z89; exact rfl; exact z79 rfl)
  | (apply zg9; (iterate 3 exact rfl))
  | (apply zc9; exact rfl; exact rfl)
  | (apply zf6; exact rfl; exact rfl)
  | (apply zg1; exact rfl; exact rfl)
  | (apply z58; exact rfl; exact rfl)
  | (apply zb5; exact rfl; exact rfl)
  | (apply zt0; exact rfl; exact rfl; first | exact zh1 (by first | exact rfl | assumption | exact z07 (by assumption)) | exact zn1 (by first | exact rfl | assumption | exact z07 (by assumption)))
  | (apply z57; (iterate 4 exact rfl); exact zc8 (by first | exact rfl | assumption | exact z07 (by assumption)))
  | (apply z43; (iterate 8 exact rfl); exact zh3 (by first | exact rfl | assumption | exact z07 (by assumption)))
  | (apply q75; exact rfl; exact rfl)
  | (apply q40; exact rfl)
  | (apply zu0; exact rfl; exact rfl)
  | (apply zk6; exact rfl; omega)
  | (apply q12; exact rfl)
  | (apply q53; exact rfl)
  | (apply q62; exact rfl; exact rfl)
  | (apply q67; exact rfl; exact rfl)
  | (apply qh0; exact rfl; exact rfl)
  | (apply z47; (iterate 3 exact rfl); omega)
  | (apply z61; exact rfl; exact rfl; omega)
  | (apply ze6; (iterate 3 exact rfl); omega)
  | (apply zd3; exact rfl; exact rfl; omega; omega)
  | (apply z56; exact rfl; exact rfl; omega; omega)
  | (apply za1; (iterate 5 exact rfl); omega)
  | (apply z65; (iterate 3 exact rfl); omega)
  | (apply zc0; (iterate 3 exact rfl); omega)
  | (apply zc4; exact rfl; exact rfl; (first | omega | (simp only [List.length_map, List.length_cons, List.length_nil, List.length_append, List.length_replicate]; omega)))
  | (apply zb8; exact rfl; exact rfl; (first | omega | (simp only [List.length_map, List.length_cons, List.length_nil, List.length_append, List.length_replicate]; omega)))
  | (apply z74; exact rfl; exact rfl; (first | omega | (simp only [List.length_map, List.length_cons, List.length_nil, List.length_append, List.length_replicate]; omega)))
  | (apply z82; exact rfl; exact rfl)
  | (apply q70; (iterate 4 exact rfl))
  | (apply z67; exact rfl; exact rfl; (first | assumption | exact rfl); exact rfl)
  | (apply z71; exact rfl; exact rfl; (first | assumption | exact rfl); exact rfl)
  | (apply z63; (iterate 4 exact rfl); (first | assumption | exact rfl); exact rfl; exact rfl; intro H1 hH1 kH1)
  | (apply z12; (iterate 3 exact rfl); assumption)
  | (apply z12; (iterate 3 exact rfl); exact List.getElem?_eq_getElem (by omega))
  | (apply za0; (iterate 3 exact rfl); assumption)
  | (apply zc7; exact rfl; exact rfl; assumption; omega)
  | (apply z64; exact rfl; exact rfl; assumption; omega)
  | (apply zv3; exact rfl; exact rfl; assumption; omega)
  | (apply z41; exact rfl; exact rfl)
  | (apply z55; (iterate 3 exact rfl))
  | (apply zf9; exact rfl; exact rfl; (first | omega | (simp only [List.length_map, List.length_cons, List.length_nil, List.length_append, List.length_replicate]; omega)); assumption; exact rfl; (first | exact z04 rfl rfl | exact z04 rfl (by assumption) | exact z48 rfl); intro H1 hH1 kH1)
  | (apply z62; (iterate 3 exact rfl); assumption; exact rfl; intro H1 hH1 kH1)
  | (apply zs5; exact rfl; assumption; exact rfl; exact rfl)
  | (apply q46; exact rfl; exact rfl)
  | (apply zf4; exact rfl)
  | (apply zk8; exact rfl; assumption)
  | (apply z93; (iterate 4 exact rfl); assumption; omega)
  | (apply z92; (iterate 4 exact rfl); assumption; omega)
  | (apply z84; (iterate 4 exact rfl); assumption; omega)
  | (apply z87; (iterate 3 exact rfl); assumption; exact rfl; intro H1 hH1 kH1)
  | (apply z38; (iterate 3 exact rfl); assumption; exact rfl; intro H1 hH1 kH1)
  | (apply zv1; exact rfl; exact rfl)
  | (apply zl1; (iterate 4 exact rfl))
  | (apply zi5; (iterate 4 exact rfl))
  | (apply qe1 (hc := zj8); exact rfl; exact rfl; exact rfl)
  | (apply q52 (hc := zj8); exact rfl; exact rfl; exact rfl; exact rfl)
  | (apply q29 (hc := ⟨zj8⟩); exact rfl; exact rfl; (first | exact rfl | assumption); exact rfl; (first | exact za5 | exact z25 | exact z14 rfl | exact z13 rfl); rintro H1 ⟨r1, k1⟩)
  | (apply zx9 (hc := ⟨zj8⟩); exact rfl; exact rfl; exact rfl; (first | exact za5 | exact z25 | exact z14 rfl | exact z13 rfl); rintro H1 ⟨r1, k1⟩)
  | (apply q51 (hc := ⟨zj8⟩); exact rfl; exact rfl; exact rfl; exact rfl; exact rfl; (first | exact za5 | exact z25 | exact z14 rfl | exact z13 rfl | exact z04 rfl rfl | exact z04 rfl (by assumption)); rintro H1 hQ1)
  | (apply zg4; focus (repeat (first | exact zo7 | (apply kq_c; exact rfl) | (apply zt9; exact rfl) | (apply q59; exact rfl; exact rfl) | (apply q77; exact rfl) | (apply zm0; exact rfl) | (apply zl0; exact rfl) | (apply zs3; exact rfl) | (apply zs8; exact rfl) | (apply qp5; exact rfl) | (apply q68; exact rfl) | (apply zv4; exact rfl; exact rfl) | (apply zl3; exact rfl))))
  | apply zm7
  | apply z54
  | apply zm5
  | apply zd8
  | apply zh5
  | apply zm4
  | apply zg2
  | apply zc2
  | (apply zf3; exact rfl)
  | apply z42
  | apply zl6
  | (apply zh4; exact rfl; (with_reducible rfl))
  | (apply zf5; exact rfl; (with_reducible rfl))
  | (apply zm1; exact rfl)
  | (apply zu1; exact rfl)
  | (apply q38; exact rfl; (with_reducible rfl))
  | (apply zg7; exact rfl; (with_reducible rfl))
  | (apply zf8; exact rfl; (with_reducible rfl))
  | (apply zm6; exact rfl)
  | (apply zu3; exact rfl)
  | (apply qp6; (first | exact rfl | exact hnb _ (by decide) | exact z00 (hnb _ (by decide)) | exact z00 (z00 (hnb _ (by decide)))))
  | (apply zu7; (first | exact rfl | exact hnb _ (by decide) | exact z00 (hnb _ (by decide)) | exact z00 (z00 (hnb _ (by decide)))))
  | (apply q49; exact rfl; (with_reducible rfl); (first | exact rfl | exact hnb _ (by decide) | exact z00 (hnb _ (by decide)) | exact z00 (z00 (hnb _ (by decide)))))
  | (apply zg8; exact rfl; (with_reducible rfl); (first | exact rfl | exact hnb _ (by decide) | exact z00 (hnb _ (by decide)) | exact z00 (z00 (hnb _ (by decide)))); (first | exact z14 rfl | exact z13 rfl); exact rfl)
  | (apply zg5; exact rfl; (with_reducible rfl); (first | exact rfl | exact hnb _ (by decide) | exact z00 (hnb _ (by decide)) | exact z00 (z00 (hnb _ (by decide)))); (first | exact z14 rfl | exact z13 rfl); exact rfl)
  | (apply zm8; exact rfl; (first | exact rfl | exact hnb _ (by decide) | exact z00 (hnb _ (by decide)) | exact z00 (z00 (hnb _ (by decide)))); (first | exact z14 rfl | exact z13 rfl); exact rfl)
  | (apply zw1; exact rfl)
  | with_reducible exact q78
  | with_reducible exact q71
  | with_reducible apply q42
  | with_reducible apply q47
  | with_reducible apply q69
  | with_reducible apply q33
  | (with_reducible apply qq8; intro hc)
  | (with_reducible apply qq4; intro hc)
  | (with_reducible apply q63; intro hc)
  | (with_reducible apply q57; intro hc)
  | (with_reducible apply q73; intro hc)
  | (with_reducible apply q44; intro hc)
  | (with_reducible apply zt1; intro hc)
  | (with_reducible apply zr5; intro hc)
  | (with_reducible apply qo3; intro hc)
  | (with_reducible apply q74; intro hc)
  | (with_reducible apply qr9; intro hc)
  | (apply zl5; exact rfl)
  | (apply zl4; exact rfl)
  | (apply q31)
  | (apply zu4; exact rfl)
  | (apply zw0; exact rfl)
  | (apply zv0; exact rfl)
  | (apply zu9)
  | (apply zv6)
  | (apply zn0)
  | (apply zc1; exact rfl)
  | (apply zh6)
  | (apply zc3)
  | (apply zl8)
  | (apply zm9)
  | (apply q55 (hc := zj8); exact rfl; exact rfl; exact rfl)
  | (apply dand; exact rfl)
  | (apply qq5; (first | exact ShI.c rfl | exact ShI.own rfl | exact ShI.nils rfl | exact ShI.cell rfl); (first | exact ShI.c rfl | exact ShI.own rfl | exact ShI.nils rfl | exact ShI.cell rfl); (exact by decide))
  | (apply qr4; (first | exact ShI.c rfl | exact ShI.own rfl | exact ShI.nils rfl | exact ShI.cell rfl); (first | exact ShI.c rfl | exact ShI.own rfl | exact ShI.nils rfl | exact ShI.cell rfl); (first | exact ShI.c rfl | exact ShI.own rfl | exact ShI.nils rfl | exact ShI.cell rfl); (exact by decide))
  | exact fin0
  | (apply qo5; exact rfl)
  | (apply qp7; exact rfl)
  | (apply qq9; exact rfl)
  | (apply qp9; exact rfl)
 any_goals rfl
 refine qd5 (fun p : Nat × List Tok => [(0, .c (.frz (some 7) (a.map tokC))), (1, .c (.frz (some 7) (b.map tokC))), (2, .c (.int .i64 line)), (3, .c (.int .i64 col)), (9, .own true 38 (some 7) (p.2.map tokC)), (24, .c (.int .i64 a.length)), (25, .c (.int .i64 p.1))]) (fun p => p.1 ≤ a.length ∧ Mid a line col p.1 p.2) (fun p => a.length - p.1) (0, a) ?_ ⟨Nat.zero_le _, rfl, fun j => by simp⟩ ?_
 · repeat' first
    | exact zo7
    | refine z44 rfl ?_
    | refine z44 ?_ ?_
 rintro ⟨n, M⟩ ⟨hn, hM⟩
 dsimp only at hn hM
 dsimp only
 by_cases hnl : n < a.length
 · have e0 : M[n]? = some a[n] := by rw [hM.2 n, if_neg (by omega), List.getElem?_eq_getElem hnl]
   have e1 := jy1 (z := qv6 line a[n]) e0
   have e2 := jy1 (z := tCol col (qv6 line a[n])) e1
   repeat' first
    | apply zg0
    | exact za5
    | exact z25
    | exact z14 rfl
    | exact z13 rfl
    | exact z04 rfl rfl
    | exact z04 rfl (by assumption)
    | exact z48 rfl
    | (apply zv5; exact rfl; exact rfl)
    | (apply zl7; exact rfl; exact rfl)
    | (apply zp8; (iterate 3 exact rfl))
    | (apply z66; (iterate 3 exact rfl))
    | (apply z68; (iterate 3 exact rfl))
    | (apply q39; exact rfl; exact rfl; omega)
    | (apply q36; exact rfl; exact rfl; omega)
    | (apply q32; exact rfl; exact rfl; omega)
    | (apply zs7; exact rfl; exact rfl; omega)
    | (apply zs9; exact rfl; exact rfl)
    | (apply zm2; exact rfl; exact rfl; omega)
    | (apply zk9; exact rfl; exact rfl)
    | (apply zu5; exact rfl; exact rfl; omega)
    | (apply zm3; exact rfl; exact rfl)
    | (apply zl9; exact rfl; exact rfl)
    | (apply zd6; (iterate 3 exact rfl); assumption)
    | (apply zt6; exact rfl; assumption)
    | (apply zk5; exact rfl; exact rfl)
    | (apply q45; exact rfl; exact rfl; (first | omega | (simp only [List.length_map, List.length_cons, List.length_nil, List.length_append, List.length_replicate]; omega)))
    | (apply ze7; (iterate 3 exact rfl))
    | (apply zl2; exact rfl; exact rfl)
    | (apply q50; exact rfl; exact rfl)
    | (apply zc5; exact rfl)
    | (apply zd5; exact rfl)
    | (apply zd9; exact rfl)
    | (apply z90; exact rfl)
    | (apply z60; exact rfl)
    | (apply z91; exact rfl)
    | (apply qr8; exact rfl; exact rfl)
    | (apply q58; exact rfl; exact rfl)
    | (apply q48; (iterate 3 exact rfl))
    | (apply zd0; exact rfl; (with_reducible rfl); exact rfl)
    | (apply ze0; exact rfl; (with_reducible rfl); exact rfl)
    | (apply z28; (iterate 3 exact rfl); assumption)
    | (apply z28; (iterate 3 exact rfl); exact List.getElem?_eq_getElem (by omega))
    | (apply zt8; (iterate 3 exact rfl); assumption)
    | (apply zt8; (iterate 4 exact rfl))
    | (apply zf0; (iterate 3 exact rfl); assumption)
    | (apply zf0; (iterate 3 exact rfl); exact List.getElem?_eq_getElem (by omega))
    | (apply zs4; exact rfl; exact rfl; omega; (first | exact rfl | assumption))
    | (apply zs1; exact rfl; exact rfl)
    | (apply q09; exact rfl; exact rfl)
    | (apply zk7; (iterate 3 exact rfl))
    | (apply zg6; (iterate 3 exact rfl))
    | (apply q30; (iterate 6 exact rfl))
    | (apply zr8; (iterate 6 exact rfl))
    | (apply zq1; (iterate 3 exact rfl))
    | (apply zr7; (iterate 3 exact rfl))
    | (apply zq2; (iterate 3 exact rfl))
    | (apply zd4; exact rfl; exact rfl)
    | (apply zb7; (iterate 3 exact rfl))
    | (apply zb4; (iterate 3 exact rfl))
    | (apply zb3; exact rfl; exact z79 rfl)
    | (apply z40; exact rfl; exact z79 rfl)
    | (apply z89; exact rfl; exact z79 rfl)
    | (apply zg9; (iterate 3 exact rfl))
    | (apply zc9; exact rfl; exact rfl)
    | (apply zf6; exact rfl; exact rfl)
    | (apply zg1; exact rfl; exact rfl)
    | (apply z58; exact rfl; exact rfl)
    | (apply zb5; exact rfl; exact rfl)
    | (apply zt0; exact rfl; exact rfl; first | exact zh1 (by first | exact rfl | assumption | exact z07 (by assumption)) | exact zn1 (by first | exact rfl | assumption | exact z07 (by assumption)))
    | (apply z57; (iterate 4 exact rfl); exact zc8 (by first | exact rfl | assumption | exact z07 (by assumption)))
    | (apply z43; (iterate 8 exact rfl); exact zh3 (by first | exact rfl | assumption | exact z07 (by assumption)))
    | (apply q75; exact rfl; exact rfl)
    | (apply q40; exact rfl)
    | (apply zu0; exact rfl; exact rfl)
    | (apply zk6; exact rfl; omega)
    | (apply q12; exact rfl)
    | (apply q53; exact rfl)
    | (apply q62; exact rfl; exact rfl)
    | (apply q67; exact rfl; exact rfl)
    | (apply qh0; exact rfl; exact rfl)
    | (apply z47; (iterate 3 exact rfl); omega)
    | (apply z61; exact rfl; exact rfl; omega)
    | (apply ze6; (iterate 3 exact rfl); omega)
    | (apply zd3; exact rfl; exact rfl; omega; omega)
    | (apply z56; exact rfl; exact rfl; omega; omega)
    | (apply za1; (iterate 5 exact rfl); omega)
    | (apply z65; (iterate 3 exact rfl); omega)
    | (apply zc0; (iterate 3 exact rfl); omega)
    | (apply zc4; exact rfl; exact rfl; (first | omega | (simp only [List.length_map, List.length_cons, List.length_nil, List.length_append, List.length_replicate]; omega)))
    | (apply zb8; exact rfl; exact rfl; (first | omega | (simp only [List.length_map, List.length_cons, List.length_nil, List.length_append, List.length_replicate]; omega)))
    | (apply z74; exact rfl; exact rfl; (first | omega | (simp only [List.length_map, List.length_cons, List.length_nil, List.length_append, List.length_replicate]; omega)))
    | (apply z82; exact rfl; exact rfl)
    | (apply q70; (iterate 4 exact rfl))
    | (apply z67; exact rfl; exact rfl; (first | assumption | exact rfl); exact rfl)
    | (apply z71; exact rfl; exact rfl; (first | assumption | exact rfl); exact rfl)
    | (apply z63; (iterate 4 exact rfl); (first | assumption | exact rfl); exact rfl; exact rfl; intro H1 hH1 kH1)
    | (apply z12; (iterate 3 exact rfl); assumption)
    | (apply z12; (iterate 3 exact rfl); exact List.getElem?_eq_getElem (by omega))
    | (apply za0; (iterate 3 exact rfl); assumption)
    | (apply zc7; exact rfl; exact rfl; assumption; omega)
    | (apply z64; exact rfl; exact rfl; assumption; omega)
    | (apply zv3; exact rfl; exact rfl; assumption; omega)
    | (apply z41; exact rfl; exact rfl)
    | (apply z55; (iterate 3 exact rfl))
    | (apply zf9; exact rfl; exact rfl; (first | omega | (simp only [List.length_map, List.length_cons, List.length_nil, List.length_append, List.length_replicate]; omega)); assumption; exact rfl; (first | exact z04 rfl rfl | exact z04 rfl (by assumption) | exact z48 rfl); intro H1 hH1 kH1)
    | (apply z62; (iterate 3 exact rfl); assumption; exact rfl; intro H1 hH1 kH1)
    | (apply zs5; exact rfl; assumption; exact rfl; exact rfl)
    | (apply q46; exact rfl; exact rfl)
    | (apply zf4; exact rfl)
    | (apply zk8; exact rfl; assumption)
    | (apply z93; (iterate 4 exact rfl); assumption; omega)
    | (apply z92; (iterate 4 exact rfl); assumption; omega)
    | (apply z84; (iterate 4 exact rfl); assumption; omega)
    | (apply z87; (iterate 3 exact rfl); assumption; exact rfl; intro H1 hH1 kH1)
    | (apply z38; (iterate 3 exact rfl); assumption; exact rfl; intro H1 hH1 kH1)
    | (apply zv1; exact rfl; exact rfl)
    | (apply zl1; (iterate 4 exact rfl))
    | (apply zi5; (iterate 4 exact rfl))
    | (apply zg4; focus (repeat (first | exact zo7 | (apply kq_c; exact rfl) | (apply zt9; exact rfl) | (apply q59; exact rfl; exact rfl) | (apply q77; exact rfl) | (apply zm0; exact rfl) | (apply zl0; exact rfl) | (apply zs3; exact rfl) | (apply zs8; exact rfl) | (apply qp5; exact rfl) | (apply q68; exact rfl) | (apply zv4; exact rfl; exact rfl) | (apply zl3; exact rfl))))
    | apply zm7
    | apply z54
    | apply zm5
    | apply zd8
    | apply zh5
    | apply zm4
    | apply zg2
    | apply zc2
    | (apply zf3; exact rfl)
    | apply z42
    | apply zl6
    | (apply zh4; exact rfl; (with_reducible rfl))
    | (apply zf5; exact rfl; (with_reducible rfl))
    | (apply zm1; exact rfl)
    | (apply zu1; exact rfl)
    | (apply q38; exact rfl; (with_reducible rfl))
    | (apply zg7; exact rfl; (with_reducible rfl))
    | (apply zf8; exact rfl; (with_reducible rfl))
    | (apply zm6; exact rfl)
    | (apply zu3; exact rfl)
    | (apply qp6; (first | exact rfl | exact hnb _ (by decide) | exact z00 (hnb _ (by decide)) | exact z00 (z00 (hnb _ (by decide)))))
    | (apply zu7; (first | exact rfl | exact hnb _ (by decide) | exact z00 (hnb _ (by decide)) | exact z00 (z00 (hnb _ (by decide)))))
    | (apply q49; exact rfl; (with_reducible rfl); (first | exact rfl | exact hnb _ (by decide) | exact z00 (hnb _ (by decide)) | exact z00 (z00 (hnb _ (by decide)))))
    | (apply zg8; exact rfl; (with_reducible rfl); (first | exact rfl | exact hnb _ (by decide) | exact z00 (hnb _ (by decide)) | exact z00 (z00 (hnb _ (by decide)))); (first | exact z14 rfl | exact z13 rfl); exact rfl)
    | (apply zg5; exact rfl; (with_reducible rfl); (first | exact rfl | exact hnb _ (by decide) | exact z00 (hnb _ (by decide)) | exact z00 (z00 (hnb _ (by decide)))); (first | exact z14 rfl | exact z13 rfl); exact rfl)
    | (apply zm8; exact rfl; (first | exact rfl | exact hnb _ (by decide) | exact z00 (hnb _ (by decide)) | exact z00 (z00 (hnb _ (by decide)))); (first | exact z14 rfl | exact z13 rfl); exact rfl)
    | (apply zw1; exact rfl)
    | with_reducible exact q78
    | with_reducible exact q71
    | with_reducible apply q42
    | with_reducible apply q47
    | with_reducible apply q69
    | with_reducible apply q33
    | (with_reducible apply qq8; intro hc)
    | (with_reducible apply qq4; intro hc)
    | (with_reducible apply q63; intro hc)
    | (with_reducible apply q57; intro hc)
    | (with_reducible apply q73; intro hc)
    | (with_reducible apply q44; intro hc)
    | (with_reducible apply zt1; intro hc)
    | (with_reducible apply zr5; intro hc)
    | (with_reducible apply qo3; intro hc)
    | (with_reducible apply q74; intro hc)
    | (with_reducible apply qr9; intro hc)
    | (apply zl5; exact rfl)
    | (apply zl4; exact rfl)
    | (apply q31)
    | (apply zu4; exact rfl)
    | (apply zw0; exact rfl)
    | (apply zv0; exact rfl)
    | (apply zu9)
    | (apply zv6)
    | (apply zn0)
    | (apply zc1; exact rfl)
    | (apply zh6)
    | (apply zc3)
    | (apply zl8)
    | (apply zm9)
    | (apply dand; exact rfl)
    | (apply qq5; (first | exact ShI.c rfl | exact ShI.own rfl | exact ShI.nils rfl | exact ShI.cell rfl); (first | exact ShI.c rfl | exact ShI.own rfl | exact ShI.nils rfl | exact ShI.cell rfl); (exact by decide))
    | (apply qr4; (first | exact ShI.c rfl | exact ShI.own rfl | exact ShI.nils rfl | exact ShI.cell rfl); (first | exact ShI.c rfl | exact ShI.own rfl | exact ShI.nils rfl | exact ShI.cell rfl); (first | exact ShI.c rfl | exact ShI.own rfl | exact ShI.nils rfl | exact ShI.cell rfl); (exact by decide))
    | exact fin0
    | (apply qo5; exact rfl)
    | (apply qp7; exact rfl)
    | (apply qq9; exact rfl)
    | (apply qp9; exact rfl)
   any_goals (exfalso; omega)
   refine ⟨(n + 1, ((M.set n (qv6 line a[n])).set n (tCol col (qv6 line a[n]))).set n (redo line col a[n])), ?_, rfl, ⟨by dsimp only; omega, wp8 hM hnl⟩, by dsimp only; omega⟩
   repeat' first
    | exact zo7
    | refine z44 rfl ?_
    | refine z44 ?_ ?_
 · have := wq4 hM (by omega)
   subst this
   repeat' first
    | apply zg0
    | exact za5
    | exact z25
    | exact z14 rfl
    | exact z13 rfl
    | exact z04 rfl rfl
    | exact z04 rfl (by assumption)
    | exact z48 rfl
    | (apply zv5; exact rfl; exact rfl)
    | (apply zl7; exact rfl; exact rfl)
    | (apply zp8; (iterate 3 exact rfl))
    | (apply z66; (iterate 3 exact rfl))
    | (apply z68; (iterate 3 exact rfl))
    | (apply q39; exact rfl; exact rfl; omega)
    | (apply q36; exact rfl; exact rfl; omega)
    | (apply q32; exact rfl; exact rfl; omega)
    | (apply zs7; exact rfl; exact rfl; omega)
    | (apply zs9; exact rfl; exact rfl)
    | (apply zm2; exact rfl; exact rfl; omega)
    | (apply zk9; exact rfl; exact rfl)
    | (apply zu5; exact rfl; exact rfl; omega)
    | (apply zm3; exact rfl; exact rfl)
    | (apply zl9; exact rfl; exact rfl)
    | (apply zd6; (iterate 3 exact rfl); assumption)
    | (apply zt6; exact rfl; assumption)
    | (apply zk5; exact rfl; exact rfl)
    | (apply q45; exact rfl; exact rfl; (first | omega | (simp only [List.length_map, List.length_cons, List.length_nil, List.length_append, List.length_replicate]; omega)))
    | (apply ze7; (iterate 3 exact rfl))
    | (apply zl2; exact rfl; exact rfl)
    | (apply q50; exact rfl; exact rfl)
    | (apply zc5; exact rfl)
    | (apply zd5; exact rfl)
    | (apply zd9; exact rfl)
    | (apply z90; exact rfl)
    | (apply z60; exact rfl)
    | (apply z91; exact rfl)
    | (apply qr8; exact rfl; exact rfl)
    | (apply q58; exact rfl; exact rfl)
    | (apply q48; (iterate 3 exact rfl))
    | (apply zd0; exact rfl; (with_reducible rfl); exact rfl)
    | (apply ze0; exact rfl; (with_reducible rfl); exact rfl)
    | (apply z28; (iterate 3 exact rfl); assumption)
    | (apply z28; (iterate 3 exact rfl); exact List.getElem?_eq_getElem (by omega))
    | (apply zt8; (iterate 3 exact rfl); assumption)
    | (apply zt8; (iterate 4 exact rfl))
    | (apply zf0; (iterate 3 exact rfl); assumption)
    | (apply zf0; (iterate 3 exact rfl); exact List.getElem?_eq_getElem (by omega))
    | (apply zs4; exact rfl; exact rfl; omega; (first | exact rfl | assumption))
    | (apply zs1; exact rfl; exact rfl)
    | (apply q09; exact rfl; exact rfl)
    | (apply zk7; (iterate 3 exact rfl))
    | (apply zg6; (iterate 3 exact rfl))
    | (apply q30; (iterate 6 exact rfl))
    | (apply zr8; (iterate 6 exact rfl))
    | (apply zq1; (iterate 3 exact rfl))
    | (apply zr7; (iterate 3 exact rfl))
    | (apply zq2; (iterate 3 exact rfl))
    | (apply zd4; exact rfl; exact rfl)
    | (apply zb7; (iterate 3 exact rfl))
    | (apply zb4; (iterate 3 exact rfl))
    | (apply zb3; exact rfl; exact z79 rfl)
    | (apply z40; exact rfl; exact z79 rfl)
    | (apply z89; exact rfl; exact z79 rfl)
    | (apply zg9; (iterate 3 exact rfl))
    | (apply zc9; exact rfl; exact rfl)
    | (apply zf6; exact rfl; exact rfl)
    | (apply zg1; exact rfl; exact rfl)
    | (apply z58; exact rfl; exact rfl)
    | (apply zb5; exact rfl; exact rfl)
    | (apply zt0; exact rfl; exact rfl; first | exact zh1 (by first | exact rfl | assumption | exact z07 (by assumption)) | exact zn1 (by first | exact rfl | assumption | exact z07 (by assumption)))
    | (apply z57; (iterate 4 exact rfl); exact zc8 (by first | exact rfl | assumption | exact z07 (by assumption)))
    | (apply z43; (iterate 8 exact rfl); exact zh3 (by first | exact rfl | assumption | exact z07 (by assumption)))
    | (apply q75; exact rfl; exact rfl)
    | (apply q40; exact rfl)
    | (apply zu0; exact rfl; exact rfl)
    | (apply zk6; exact rfl; omega)
    | (apply q12; exact rfl)
    | (apply q53; exact rfl)
    | (apply q62; exact rfl; exact rfl)
    | (apply q67; exact rfl; exact rfl)
    | (apply qh0; exact rfl; exact rfl)
    | (apply z47; (iterate 3 exact rfl); omega)
    | (apply z61; exact rfl; exact rfl; omega)
    | (apply ze6; (iterate 3 exact rfl); omega)
    | (apply zd3; exact rfl; exact rfl; omega; omega)
    | (apply z56; exact rfl; exact rfl; omega; omega)
    | (apply za1; (iterate 5 exact rfl); omega)
    | (apply z65; (iterate 3 exact rfl); omega)
    | (apply zc0; (iterate 3 exact rfl); omega)
    | (apply zc4; exact rfl; exact rfl; (first | omega | (simp only [List.length_map, List.length_cons, List.length_nil, List.length_append, List.length_replicate]; omega)))
    | (apply zb8; exact rfl; exact rfl; (first | omega | (simp only [List.length_map, List.length_cons, List.length_nil, List.length_append, List.length_replicate]; omega)))
    | (apply z74; exact rfl; exact rfl; (first | omega | (simp only [List.length_map, List.length_cons, List.length_nil, List.length_append, List.length_replicate]; omega)))
    | (apply z82; exact rfl; exact rfl)
    | (apply q70; (iterate 4 exact rfl))
    | (apply z67; exact rfl; exact rfl; (first | assumption | exact rfl); exact rfl)
    | (apply z71; exact rfl; exact rfl; (first | assumption | exact rfl); exact rfl)
    | (apply z63; (iterate 4 exact rfl); (first | assumption | exact rfl); exact rfl; exact rfl; intro H1 hH1 kH1)
    | (apply z12; (iterate 3 exact rfl); assumption)
    | (apply z12; (iterate 3 exact rfl); exact List.getElem?_eq_getElem (by omega))
    | (apply za0; (iterate 3 exact rfl); assumption)
    | (apply zc7; exact rfl; exact rfl; assumption; omega)
    | (apply z64; exact rfl; exact rfl; assumption; omega)
    | (apply zv3; exact rfl; exact rfl; assumption; omega)
    | (apply z41; exact rfl; exact rfl)
    | (apply z55; (iterate 3 exact rfl))
    | (apply zf9; exact rfl; exact rfl; (first | omega | (simp only [List.length_map, List.length_cons, List.length_nil, List.length_append, List.length_replicate]; omega)); assumption; exact rfl; (first | exact z04 rfl rfl | exact z04 rfl (by assumption) | exact z48 rfl); intro H1 hH1 kH1)
    | (apply z62; (iterate 3 exact rfl); assumption; exact rfl; intro H1 hH1 kH1)
    | (apply zs5; exact rfl; assumption; exact rfl; exact rfl)
    | (apply q46; exact rfl; exact rfl)
    | (apply zf4; exact rfl)
    | (apply zk8; exact rfl; assumption)
    | (apply z93; (iterate 4 exact rfl); assumption; omega)
    | (apply z92; (iterate 4 exact rfl); assumption; omega)
    | (apply z84; (iterate 4 exact rfl); assumption; omega)
    | (apply z87; (iterate 3 exact rfl); assumption; exact rfl; intro H1 hH1 kH1)
    | (apply z38; (iterate 3 exact rfl); assumption; exact rfl; intro H1 hH1 kH1)
    | (apply zv1; exact rfl; exact rfl)
    | (apply zl1; (iterate 4 exact rfl))
    | (apply zi5; (iterate 4 exact rfl))
    | (apply qe1 (hc := h17); exact rfl; exact rfl; exact rfl)
    | (apply q52 (hc := h17); exact rfl; exact rfl; exact rfl; exact rfl)
    | (apply q29 (hc := ⟨h17⟩); exact rfl; exact rfl; (first | exact rfl | assumption); exact rfl; (first | exact za5 | exact z25 | exact z14 rfl | exact z13 rfl); rintro H1 ⟨r1, k1⟩)
    | (apply zx9 (hc := ⟨h17⟩); exact rfl; exact rfl; exact rfl; (first | exact za5 | exact z25 | exact z14 rfl | exact z13 rfl); rintro H1 ⟨r1, k1⟩)
    | (apply qe1 (hc := h18); exact rfl; exact rfl; exact rfl)
    | (apply q52 (hc := h18); exact rfl; exact rfl; exact rfl; exact rfl)
    | (apply q29 (hc := ⟨h18⟩); exact rfl; exact rfl; (first | exact rfl | assumption); exact rfl; (first | exact za5 | exact z25 | exact z14 rfl | exact z13 rfl); rintro H1 ⟨r1, k1⟩)
    | (apply zx9 (hc := ⟨h18⟩); exact rfl; exact rfl; exact rfl; (first | exact za5 | exact z25 | exact z14 rfl | exact z13 rfl); rintro H1 ⟨r1, k1⟩)
    | (apply qe1 (hc := h17'); exact rfl; exact rfl; exact rfl)
    | (apply q52 (hc := h17'); exact rfl; exact rfl; exact rfl; exact rfl)
    | (apply q29 (hc := ⟨h17'⟩); exact rfl; exact rfl; (first | exact rfl | assumption); exact rfl; (first | exact za5 | exact z25 | exact z14 rfl | exact z13 rfl); rintro H1 ⟨r1, k1⟩)
    | (apply zx9 (hc := ⟨h17'⟩); exact rfl; exact rfl; exact rfl; (first | exact za5 | exact z25 | exact z14 rfl | exact z13 rfl); rintro H1 ⟨r1, k1⟩)
    | (apply qe1 (hc := zj8); exact rfl; exact rfl; exact rfl)
    | (apply q52 (hc := zj8); exact rfl; exact rfl; exact rfl; exact rfl)
    | (apply q29 (hc := ⟨zj8⟩); exact rfl; exact rfl; (first | exact rfl | assumption); exact rfl; (first | exact za5 | exact z25 | exact z14 rfl | exact z13 rfl); rintro H1 ⟨r1, k1⟩)
    | (apply zx9 (hc := ⟨zj8⟩); exact rfl; exact rfl; exact rfl; (first | exact za5 | exact z25 | exact z14 rfl | exact z13 rfl); rintro H1 ⟨r1, k1⟩)
    | (apply q51 (hc := ⟨h17⟩); exact rfl; exact rfl; exact rfl; exact rfl; exact rfl; (first | exact za5 | exact z25 | exact z14 rfl | exact z13 rfl | exact z04 rfl rfl | exact z04 rfl (by assumption)); rintro H1 hQ1)
    | (apply q51 (hc := ⟨h18⟩); exact rfl; exact rfl; exact rfl; exact rfl; exact rfl; (first | exact za5 | exact z25 | exact z14 rfl | exact z13 rfl | exact z04 rfl rfl | exact z04 rfl (by assumption)); rintro H1 hQ1)
    | (apply q51 (hc := ⟨h17'⟩); exact rfl; exact rfl; exact rfl; exact rfl; exact rfl; (first | exact za5 | exact z25 | exact z14 rfl | exact z13 rfl | exact z04 rfl rfl | exact z04 rfl (by assumption)); rintro H1 hQ1)
    | (apply q51 (hc := ⟨zj8⟩); exact rfl; exact rfl; exact rfl; exact rfl; exact rfl; (first | exact za5 | exact z25 | exact z14 rfl | exact z13 rfl | exact z04 rfl rfl | exact z04 rfl (by assumption)); rintro H1 hQ1)
    | (apply zg4; focus (repeat (first | exact zo7 | (apply kq_c; exact rfl) | (apply zt9; exact rfl) | (apply q59; exact rfl; exact rfl) | (apply q77; exact rfl) | (apply zm0; exact rfl) | (apply zl0; exact rfl) | (apply zs3; exact rfl) | (apply zs8; exact rfl) | (apply qp5; exact rfl) | (apply q68; exact rfl) | (apply zv4; exact rfl; exact rfl) | (apply zl3; exact rfl))))
    | apply zm7
    | apply z54
    | apply zm5
    | apply zd8
    | apply zh5
    | apply zm4
    | apply zg2
    | apply zc2
    | (apply zf3; exact rfl)
    | apply z42
    | apply zl6
    | (apply zh4; exact rfl; (with_reducible rfl))
    | (apply zf5; exact rfl; (with_reducible rfl))
    | (apply zm1; exact rfl)
    | (apply zu1; exact rfl)
    | (apply q38; exact rfl; (with_reducible rfl))
    | (apply zg7; exact rfl; (with_reducible rfl))
    | (apply zf8; exact rfl; (with_reducible rfl))
    | (apply zm6; exact rfl)
    | (apply zu3; exact rfl)
    | (apply qp6; (first | exact rfl | exact hnb _ (by decide) | exact z00 (hnb _ (by decide)) | exact z00 (z00 (hnb _ (by decide)))))
    | (apply zu7; (first | exact rfl | exact hnb _ (by decide) | exact z00 (hnb _ (by decide)) | exact z00 (z00 (hnb _ (by decide)))))
    | (apply q49; exact rfl; (with_reducible rfl); (first | exact rfl | exact hnb _ (by decide) | exact z00 (hnb _ (by decide)) | exact z00 (z00 (hnb _ (by decide)))))
    | (apply zg8; exact rfl; (with_reducible rfl); (first | exact rfl | exact hnb _ (by decide) | exact z00 (hnb _ (by decide)) | exact z00 (z00 (hnb _ (by decide)))); (first | exact z14 rfl | exact z13 rfl); exact rfl)
    | (apply zg5; exact rfl; (with_reducible rfl); (first | exact rfl | exact hnb _ (by decide) | exact z00 (hnb _ (by decide)) | exact z00 (z00 (hnb _ (by decide)))); (first | exact z14 rfl | exact z13 rfl); exact rfl)
    | (apply zm8; exact rfl; (first | exact rfl | exact hnb _ (by decide) | exact z00 (hnb _ (by decide)) | exact z00 (z00 (hnb _ (by decide)))); (first | exact z14 rfl | exact z13 rfl); exact rfl)
    | (apply zw1; exact rfl)
    | with_reducible exact q78
    | with_reducible exact q71
    | with_reducible apply q42
    | with_reducible apply q47
    | with_reducible apply q69
    | with_reducible apply q33
    | (with_reducible apply qq8; intro hc)
    | (with_reducible apply qq4; intro hc)
    | (with_reducible apply q63; intro hc)
    | (with_reducible apply q57; intro hc)
    | (with_reducible apply q73; intro hc)
    | (with_reducible apply q44; intro hc)
    | (with_reducible apply zt1; intro hc)
    | (with_reducible apply zr5; intro hc)
    | (with_reducible apply qo3; intro hc)
    | (with_reducible apply q74; intro hc)
    | (with_reducible apply qr9; intro hc)
    | (apply zl5; exact rfl)
    | (apply zl4; exact rfl)
    | (apply q31)
    | (apply zu4; exact rfl)
    | (apply zw0; exact rfl)
    | (apply zv0; exact rfl)
    | (apply zu9)
    | (apply zv6)
    | (apply zn0)
    | (apply zc1; exact rfl)
    | (apply zh6)
    | (apply zc3)
    | (apply zl8)
    | (apply zm9)
    | (apply q55 (hc := h17); exact rfl; exact rfl; exact rfl)
    | (apply q55 (hc := h18); exact rfl; exact rfl; exact rfl)
    | (apply q55 (hc := h17'); exact rfl; exact rfl; exact rfl)
    | (apply q55 (hc := zj8); exact rfl; exact rfl; exact rfl)
    | (apply dand; exact rfl)
    | (apply qq5; (first | exact ShI.c rfl | exact ShI.own rfl | exact ShI.nils rfl | exact ShI.cell rfl); (first | exact ShI.c rfl | exact ShI.own rfl | exact ShI.nils rfl | exact ShI.cell rfl); (exact by decide))
    | (apply qr4; (first | exact ShI.c rfl | exact ShI.own rfl | exact ShI.nils rfl | exact ShI.cell rfl); (first | exact ShI.c rfl | exact ShI.own rfl | exact ShI.nils rfl | exact ShI.cell rfl); (first | exact ShI.c rfl | exact ShI.own rfl | exact ShI.nils rfl | exact ShI.cell rfl); (exact by decide))
    | exact fin0
    | (apply qo5; exact rfl)
    | (apply qp7; exact rfl)
    | (apply qq9; exact rfl)
    | (apply qp9; exact rfl)
   any_goals (exfalso; omega)
   all_goals first | rfl | (exfalso; simp_all; done)
end Go.Proofs.TryzL
