/- Chapter 02: the reference's Render. -/
import Derived.Test.YtencoceemejcnaaGreatDoorLzT25
import Derived.Test.YtencoceemejcnaaGreatDoorLzT27
import Derived.Test.YtencoceemejcnaaGreatDoorLzT28
set_option linter.unusedSimpArgs false
set_option linter.unusedVariables false
namespace Go.Proofs.TryzL
open Go.Proofs.Lz
set_option maxHeartbeats 4000000
theorem wx5 (op : Int) (h : op < 1 ∨ 10 < op) (qual text : List UInt8) (n : Int) (auto : Bool) (line col : Int) (hl : text.length < 2^31) (hq : qual.length < 2^31) : Rets Vv 47 [.c (tokA op qual text n auto line col)] (.c (.bool (z63 op qual text n))) := by
 refine z35 qb0 ?_
 have hb := wp7 h text n
 repeat' first
  | apply z01
  | exact z17
  | exact z68 rfl
  | (apply z12; exact rfl; exact rfl)
  | (apply z22; (iterate 3 exact rfl))
  | (apply z23; (iterate 3 exact rfl))
  | (apply z09; exact rfl; (with_reducible rfl); exact rfl)
  | (apply z13; exact rfl; (with_reducible rfl); exact rfl)
  | (apply z19; exact rfl; exact z74 rfl)
  | (apply z58; exact rfl; exact rfl; first | exact z41 (by first | exact rfl | assumption | exact z14 (by assumption)) | exact z45 (by first | exact rfl | assumption | exact z14 (by assumption)))
  | (apply z08 (hc := z54 qual hq); exact rfl; exact rfl; exact rfl)
  | (apply z08 (hc := z54 text hl); exact rfl; exact rfl; exact rfl)
  | (apply z04; focus (repeat (first | exact z18 | (apply kq_c; exact rfl) | (apply z48; exact rfl))))
  | apply z03
  | apply z00
  | apply z02
  | apply z05
  | apply z06
  | apply z07
  | (apply z34; exact rfl; (with_reducible rfl))
  | (apply z15; exact rfl)
  | (apply z39; exact rfl; (with_reducible rfl))
  | (apply z29; exact rfl; (with_reducible rfl))
  | (apply z28; exact rfl)
  | with_reducible apply z50
  | with_reducible apply z52
  | (with_reducible apply z96; intro hc; try (exfalso; omega))
  | (with_reducible apply zb1; intro hc)
  | (with_reducible apply z62; intro hc; try (exfalso; omega))
  | (with_reducible apply z69; intro hc)
  | (with_reducible apply zc9; intro hc; try (exfalso; omega))
  | (with_reducible apply z97; intro hc; try (exfalso; omega))
  | (apply z49; exact rfl)
 all_goals (refine cb ?_; simp [z63, hb])
theorem qt3 (op : Int) (qual text : List UInt8) (n : Int) (auto : Bool) (line col : Int) (hl : text.length < 2^31) (hq : qual.length < 2^31) : Rets Vv 47 [.c (tokA op qual text n auto line col)] (.c (.bool (z63 op qual text n))) := by
 by_cases h : op < 1 ∨ 10 < op
 · exact wx5 op h qual text n auto line col hl hq
 · have : op = 1 ∨ op = 2 ∨ op = 3 ∨ op = 4 ∨ op = 5 ∨ op = 6 ∨ op = 7 ∨ op = 8 ∨ op = 9 ∨ op = 10 := by omega
   rcases this with rfl | rfl | rfl | rfl | rfl | rfl | rfl | rfl | rfl | rfl
   · exact ws0 qual text n auto line col hl hq
   · exact wt1 qual text n auto line col hl hq
   · exact wx4 qual text n auto line col hl hq
   · exact wz4 qual text n auto line col hl hq
   · exact ww1 qual text n auto line col hl hq
   · exact wz7 qual text n auto line col hl hq
   · exact wy4 qual text n auto line col hl hq
   · exact wx9 qual text n auto line col hl hq
   · exact wv7 qual text n auto line col hl hq
   · exact wk1 qual text n auto line col hl hq
theorem jq9 (t : Tok) (h : TokOk t) : Rets Vv 47 [.c (tokC t)] (.c (.bool (zt9 t))) := qt3 t.op t.qual t.text t.n t.auto t.line t.col (by have := h.text; omega) (by have := h.qual; omega)
theorem jn5 {t : Tok} (h : zt9 t = true) : t.op = 5 → 0 ≤ t.n := by
 intro h5
 unfold zt9 zg8 at h
 simp [h5] at h
 omega
theorem qa1 (t : Tok) (h : TokOk t) (hp : zt9 t = true) : Rets Vv 49 [.c (tokC t)] (.c (.str (tokT t))) := wi7 t.op t.qual t.text t.n t.auto t.line t.col (by have := h.text; omega) (by have := h.qual; omega) h.n (jn5 hp)
theorem je4 (c : UInt8) : ∀ n, Lib.repeatL [c] n = List.replicate n c := by
 intro n
 induction n with
 | zero => rfl
 | succ n ih => rw [zp7, ih, List.replicate_succ']
theorem qf7 (c : UInt8) (m : Nat) {n : Int} (h : n = m) (hn : m ≤ 2^30) : Rets Vv 48 [.c (.str [c]), .c (.int .i64 n)] (.c (.str (List.replicate m c))) := by
 have := ju4 [c] m (by simp) (by omega)
 rwa [← h, je4] at this
def after16 (l : List Tok) (i : Nat) (p : Nat × RS) : Prop := p.1 ≤ l.length ∧ ((RsOk p.2 ∧ rend (l.drop p.1) p.2 = rend l rs0 ∧ p.2.first = decide (p.1 = 0)) ∨ (65536 < p.2.out.length ∧ rend l rs0 = none))
theorem w50 {t : Tok} {s : RS} (h : (s.line : Int) < t.line) : rnl t s = ⟨s.out ++ List.replicate (nlK t s) 10, s.line + nlK t s, 1, true⟩ := by
 unfold rnl
 rw [if_neg (by unfold nlK; omega)]
theorem wm2 {t : Tok} {s : RS} (h : ¬ (s.line : Int) < t.line) : rnl t s = s := by
 unfold rnl
 rw [if_pos (by unfold nlK; omega)]
theorem wm7 {t : Tok} {y : RS} (h : (y.col : Int) < t.col ∧ t.col ≤ 1000) : rsp t y = { y with out := y.out ++ List.replicate (t.col - y.col).toNat 32, col := t.col.toNat } := by
 unfold rsp
 rw [if_pos h, je4]
theorem wf7 {t : Tok} {y : RS} (h : ¬ ((y.col : Int) < t.col ∧ t.col ≤ 1000)) (hf : y.first = true) : rsp t y = y := by
 unfold rsp
 rw [if_neg h, if_pos hf]
theorem wy8 {t : Tok} {y : RS} (h : ¬ ((y.col : Int) < t.col ∧ t.col ≤ 1000)) (hf : y.first = false) : rsp t y = { y with out := y.out ++ [32], col := y.col + 1 } := by
 unfold rsp
 rw [if_neg h, if_neg (by rw [hf]; simp)]
def k16 (l : List Tok) (p : Nat × RS) : List (Nat × WV) := [(0, .c (.frz (some 7) (l.map tokC))), (5, .c (.str p.2.out)), (6, .c (.int .i64 p.2.line)), (7, .c (.int .i64 p.2.col)), (8, .c (.int .i64 p.1))]
theorem w51 {l : List Tok} (hl : l.length < 2^40) {i : Nat} {s : RS} (hil : i < l.length) (hso : s.out.length ≤ 65536) (hs : RsOk s) (hfi : s.first = decide (i = 0)) (ht : TokOk l[i]) (hpt : zt9 l[i] = true) {N : Post} {B : Hs} {R : RP} {H : z16}
 (hN : ∀ fr, KpL [0, 5, 6, 7, 8] fr [0, 5, 6, 7, 8] (k16 l (i + 1, z89 l[i] s)) → N fr H) : WP Vv jd4 (FL (k16 l (i, s)) []) H N B R := by
 have htl := j59 ht
 have htc := ht.col
 have hti := ht.line
 obtain ⟨a1, a2, a3⟩ := jg1 ht hs
 obtain ⟨b1, b2, b3⟩ := w04 (t := l[i]) a1 a2 a3
 have hs1 := hs.col
 have hs2 := hs.line
 have es : z89 l[i] s = rtx l[i] (rsp l[i] (rnl l[i] s)) := rfl
 unfold k16
 dsimp only
 have hL : nlK l[i] s ≤ 200 := by unfold nlK; omega
 by_cases hln : (s.line : Int) < l[i].line
 · have eK : min (l[i].line - s.line) 200 = (nlK l[i] s : Nat) := by unfold nlK; omega
   rw [w50 hln] at es
   by_cases hA : ((1 : Nat) : Int) < l[i].col ∧ l[i].col ≤ 1000
   · rw [wm7 (by exact hA)] at es
     dsimp only at es
     repeat' first
      | apply z01
      | exact z17
      | exact z30 rfl
      | exact z68 rfl
      | (apply z12; exact rfl; exact rfl)
      | (apply zc5; exact rfl; exact rfl)
      | (apply z22; (iterate 3 exact rfl))
      | (apply z88; exact rfl; exact rfl; omega)
      | (apply zp5; exact rfl; exact rfl; omega)
      | (apply zg3; exact rfl; exact rfl; (first | omega | (simp only [List.length_map, List.length_cons, List.length_nil, List.length_append, List.length_replicate]; omega)))
      | (apply z23; (iterate 3 exact rfl))
      | (apply z84; exact rfl)
      | (apply z27; exact rfl)
      | (apply za8; exact rfl; exact rfl)
      | (apply z09; exact rfl; (with_reducible rfl); exact rfl)
      | (apply z13; exact rfl; (with_reducible rfl); exact rfl)
      | (apply za3; (iterate 3 exact rfl); exact List.getElem?_eq_getElem (by omega))
      | (apply z19; exact rfl; exact z74 rfl)
      | (apply z58; exact rfl; exact rfl; first | exact z41 (by first | exact rfl | assumption | exact z14 (by assumption)) | exact z45 (by first | exact rfl | assumption | exact z14 (by assumption)))
      | (apply z82; (iterate 4 exact rfl); exact za0 (by first | exact rfl | assumption | exact z14 (by assumption)))
      | (apply qd5; exact rfl; exact rfl)
      | (apply z08 (hc := qf7 10 (nlK l[i] s) (by exact eK) (by omega)); exact rfl; exact rfl; exact rfl)
      | (apply z08 (hc := qf7 32 (l[i].col - (1 : Nat)).toNat (n := l[i].col - 1) (by omega) (by omega)); exact rfl; exact rfl; exact rfl)
      | (apply z08 (hc := qa1 l[i] ht hpt); exact rfl; exact rfl; exact rfl)
      | (apply z04; focus (repeat (first | exact z18 | (apply kq_c; exact rfl) | (apply z48; exact rfl))))
      | apply z03
      | apply z00
      | apply z02
      | apply z05
      | apply z06
      | apply z42
      | (apply z34; exact rfl; (with_reducible rfl))
      | (apply z15; exact rfl)
      | (apply z39; exact rfl; (with_reducible rfl))
      | (apply z29; exact rfl; (with_reducible rfl))
      | (apply z28; exact rfl)
      | with_reducible exact q48
      | with_reducible apply q74
      | with_reducible apply z50
      | with_reducible apply z52
      | (with_reducible apply z96; intro hc)
      | (with_reducible apply z62; intro hc)
      | (with_reducible apply z56; intro hc)
      | (with_reducible apply z40; intro hc)
     any_goals (exfalso; omega)
     have eo : (z89 l[i] s).out = s.out ++ List.replicate (nlK l[i] s) 10 ++ List.replicate (l[i].col - (1 : Nat)).toNat 32 ++ tokT l[i] := by rw [es]; simp [rtx]
     have ec : (((z89 l[i] s).col : Nat) : Int) = l[i].col + (tokT l[i]).length := by rw [es]; simp only [rtx]; omega
     have el : (((z89 l[i] s).line : Nat) : Int) = s.line + min (l[i].line - s.line) 200 := by rw [es]; simp only [rtx]; omega
     refine hN _ ?_
     unfold k16
     dsimp only
     rw [eo, ec, el]
     repeat' first
      | exact z18
      | refine z47 rfl ?_
   · rw [wf7 (by exact hA) rfl] at es
     repeat' first
      | apply z01
      | exact z17
      | exact z30 rfl
      | exact z68 rfl
      | (apply z12; exact rfl; exact rfl)
      | (apply zc5; exact rfl; exact rfl)
      | (apply z22; (iterate 3 exact rfl))
      | (apply z88; exact rfl; exact rfl; omega)
      | (apply zp5; exact rfl; exact rfl; omega)
      | (apply zg3; exact rfl; exact rfl; (first | omega | (simp only [List.length_map, List.length_cons, List.length_nil, List.length_append, List.length_replicate]; omega)))
      | (apply z23; (iterate 3 exact rfl))
      | (apply z84; exact rfl)
      | (apply z27; exact rfl)
      | (apply za8; exact rfl; exact rfl)
      | (apply z09; exact rfl; (with_reducible rfl); exact rfl)
      | (apply z13; exact rfl; (with_reducible rfl); exact rfl)
      | (apply za3; (iterate 3 exact rfl); exact List.getElem?_eq_getElem (by omega))
      | (apply z19; exact rfl; exact z74 rfl)
      | (apply z58; exact rfl; exact rfl; first | exact z41 (by first | exact rfl | assumption | exact z14 (by assumption)) | exact z45 (by first | exact rfl | assumption | exact z14 (by assumption)))
      | (apply z82; (iterate 4 exact rfl); exact za0 (by first | exact rfl | assumption | exact z14 (by assumption)))
      | (apply qd5; exact rfl; exact rfl)
      | (apply z08 (hc := qf7 10 (nlK l[i] s) (by exact eK) (by omega)); exact rfl; exact rfl; exact rfl)
      | (apply z08 (hc := qa1 l[i] ht hpt); exact rfl; exact rfl; exact rfl)
      | (apply z04; focus (repeat (first | exact z18 | (apply kq_c; exact rfl) | (apply z48; exact rfl))))
      | apply z03
      | apply z00
      | apply z02
      | apply z05
      | apply z06
      | apply z42
      | (apply z34; exact rfl; (with_reducible rfl))
      | (apply z15; exact rfl)
      | (apply z39; exact rfl; (with_reducible rfl))
      | (apply z29; exact rfl; (with_reducible rfl))
      | (apply z28; exact rfl)
      | with_reducible exact q48
      | with_reducible apply q74
      | with_reducible apply z50
      | with_reducible apply z52
      | (with_reducible apply z96; intro hc)
      | (with_reducible apply z62; intro hc)
      | (with_reducible apply z56; intro hc)
      | (with_reducible apply z40; intro hc)
     any_goals (exfalso; omega)
     all_goals (have eo : (z89 l[i] s).out = s.out ++ List.replicate (nlK l[i] s) 10 ++ tokT l[i] := by rw [es]; simp [rtx])
     all_goals (have ec : (((z89 l[i] s).col : Nat) : Int) = 1 + (tokT l[i]).length := by rw [es]; simp only [rtx]; omega)
     all_goals (have el : (((z89 l[i] s).line : Nat) : Int) = s.line + min (l[i].line - s.line) 200 := by rw [es]; simp only [rtx]; omega)
     all_goals (refine hN _ ?_; unfold k16; dsimp only; rw [eo, ec, el])
     repeat' first
      | exact z18
      | refine z47 rfl ?_
 · rw [wm2 hln] at es
   by_cases hA : (s.col : Int) < l[i].col ∧ l[i].col ≤ 1000
   · rw [wm7 hA] at es
     repeat' first
      | apply z01
      | exact z17
      | exact z30 rfl
      | exact z68 rfl
      | (apply z12; exact rfl; exact rfl)
      | (apply zc5; exact rfl; exact rfl)
      | (apply z22; (iterate 3 exact rfl))
      | (apply z88; exact rfl; exact rfl; omega)
      | (apply zp5; exact rfl; exact rfl; omega)
      | (apply zg3; exact rfl; exact rfl; (first | omega | (simp only [List.length_map, List.length_cons, List.length_nil, List.length_append, List.length_replicate]; omega)))
      | (apply z23; (iterate 3 exact rfl))
      | (apply z84; exact rfl)
      | (apply z27; exact rfl)
      | (apply za8; exact rfl; exact rfl)
      | (apply z09; exact rfl; (with_reducible rfl); exact rfl)
      | (apply z13; exact rfl; (with_reducible rfl); exact rfl)
      | (apply za3; (iterate 3 exact rfl); exact List.getElem?_eq_getElem (by omega))
      | (apply z19; exact rfl; exact z74 rfl)
      | (apply z58; exact rfl; exact rfl; first | exact z41 (by first | exact rfl | assumption | exact z14 (by assumption)) | exact z45 (by first | exact rfl | assumption | exact z14 (by assumption)))
      | (apply z82; (iterate 4 exact rfl); exact za0 (by first | exact rfl | assumption | exact z14 (by assumption)))
      | (apply qd5; exact rfl; exact rfl)
      | (apply z08 (hc := qf7 32 (l[i].col - s.col).toNat (n := l[i].col - s.col) (by omega) (by omega)); exact rfl; exact rfl; exact rfl)
      | (apply z08 (hc := qa1 l[i] ht hpt); exact rfl; exact rfl; exact rfl)
      | (apply z04; focus (repeat (first | exact z18 | (apply kq_c; exact rfl) | (apply z48; exact rfl))))
      | apply z03
      | apply z00
      | apply z02
      | apply z05
      | apply z06
      | apply z42
      | (apply z34; exact rfl; (with_reducible rfl))
      | (apply z15; exact rfl)
      | (apply z39; exact rfl; (with_reducible rfl))
      | (apply z29; exact rfl; (with_reducible rfl))
      | (apply z28; exact rfl)
      | with_reducible apply z50
      | with_reducible apply z52
      | (with_reducible apply z96; intro hc)
      | (with_reducible apply z62; intro hc)
      | (with_reducible apply z56; intro hc)
      | (with_reducible apply z40; intro hc)
     any_goals (exfalso; omega)
     have eo : (z89 l[i] s).out = s.out ++ List.replicate (l[i].col - s.col).toNat 32 ++ tokT l[i] := by rw [es]; simp [rtx]
     have ec : (((z89 l[i] s).col : Nat) : Int) = l[i].col + (tokT l[i]).length := by rw [es]; simp only [rtx]; omega
     have el : (((z89 l[i] s).line : Nat) : Int) = s.line := by rw [es]; simp only [rtx]
     refine hN _ ?_
     unfold k16
     dsimp only
     rw [eo, ec, el]
     repeat' first
      | exact z18
      | refine z47 rfl ?_
   · cases hf : s.first
     rotate_left
     · have hi0 : (i : Int) = 0 := by rw [hfi] at hf; simp at hf; omega
       rw [wf7 hA hf] at es
       repeat' first
        | apply z01
        | exact z17
        | exact z30 rfl
        | exact z68 rfl
        | (apply z12; exact rfl; exact rfl)
        | (apply zc5; exact rfl; exact rfl)
        | (apply z22; (iterate 3 exact rfl))
        | (apply z88; exact rfl; exact rfl; omega)
        | (apply zp5; exact rfl; exact rfl; omega)
        | (apply zg3; exact rfl; exact rfl; (omega))
        | (apply z23; (iterate 3 exact rfl))
        | (apply z84; exact rfl)
        | (apply z27; exact rfl)
        | (apply za8; exact rfl; exact rfl)
        | (apply z09; exact rfl; (with_reducible rfl); exact rfl)
        | (apply z13; exact rfl; (with_reducible rfl); exact rfl)
        | (apply za3; (iterate 3 exact rfl); exact List.getElem?_eq_getElem (by omega))
        | (apply z19; exact rfl; exact z74 rfl)
        | (apply z58; exact rfl; exact rfl; first | exact z41 (by first | exact rfl | assumption | exact z14 (by assumption)) | exact z45 (by first | exact rfl | assumption | exact z14 (by assumption)))
        | (apply z82; (iterate 4 exact rfl); exact za0 (by first | exact rfl | assumption | exact z14 (by assumption)))
        | (apply qd5; exact rfl; exact rfl)
        | (apply z08 (hc := qa1 l[i] ht hpt); exact rfl; exact rfl; exact rfl)
        | (apply z04; focus (repeat (first | exact z18 | (apply kq_c; exact rfl) | (apply z48; exact rfl))))
        | apply z03
        | apply z00
        | apply z02
        | apply z05
        | apply z06
        | apply z42
        | (apply z34; exact rfl; (with_reducible rfl))
        | (apply z15; exact rfl)
        | (apply z39; exact rfl; (with_reducible rfl))
        | (apply z29; exact rfl; (with_reducible rfl))
        | (apply z28; exact rfl)
        | with_reducible apply z50
        | with_reducible apply z52
        | (with_reducible apply z96; intro hc)
        | (with_reducible apply z62; intro hc)
        | (with_reducible apply z56; intro hc)
        | (with_reducible apply z40; intro hc)
       any_goals (exfalso; omega)
       all_goals (have eo : (z89 l[i] s).out = s.out ++ tokT l[i] := by rw [es]; simp [rtx])
       all_goals (have ec : (((z89 l[i] s).col : Nat) : Int) = s.col + (tokT l[i]).length := by rw [es]; simp only [rtx]; omega)
       all_goals (have el : (((z89 l[i] s).line : Nat) : Int) = s.line := by rw [es]; simp only [rtx])
       all_goals (refine hN _ ?_; unfold k16; dsimp only; rw [eo, ec, el])
       repeat' first
        | exact z18
        | refine z47 rfl ?_
     · have hi0 : ¬ (i : Int) = 0 := by rw [hfi] at hf; simp at hf; omega
       rw [wy8 hA hf] at es
       repeat' first
        | apply z01
        | exact z17
        | exact z30 rfl
        | exact z68 rfl
        | (apply z12; exact rfl; exact rfl)
        | (apply zc5; exact rfl; exact rfl)
        | (apply z22; (iterate 3 exact rfl))
        | (apply z88; exact rfl; exact rfl; omega)
        | (apply zp5; exact rfl; exact rfl; omega)
        | (apply zg3; exact rfl; exact rfl; (first | omega | (simp only [List.length_map, List.length_cons, List.length_nil, List.length_append, List.length_replicate]; omega)))
        | (apply z23; (iterate 3 exact rfl))
        | (apply z84; exact rfl)
        | (apply z27; exact rfl)
        | (apply za8; exact rfl; exact rfl)
        | (apply z09; exact rfl; (with_reducible rfl); exact rfl)
        | (apply z13; exact rfl; (with_reducible rfl); exact rfl)
        | (apply za3; (iterate 3 exact rfl); exact List.getElem?_eq_getElem (by omega))
        | (apply z19; exact rfl; exact z74 rfl)
        | (apply z58; exact rfl; exact rfl; first | exact z41 (by first | exact rfl | assumption | exact z14 (by assumption)) | exact z45 (by first | exact rfl | assumption | exact z14 (by assumption)))
        | (apply z82; (iterate 4 exact rfl); exact za0 (by first | exact rfl | assumption | exact z14 (by assumption)))
        | (apply qd5; exact rfl; exact rfl)
        | (apply z08 (hc := qa1 l[i] ht hpt); exact rfl; exact rfl; exact rfl)
        | (apply z04; focus (repeat (first | exact z18 | (apply kq_c; exact rfl) | (apply z48; exact rfl))))
        | apply z03
        | apply z00
        | apply z02
        | apply z05
        | apply z06
        | apply z42
        | (apply z34; exact rfl; (with_reducible rfl))
        | (apply z15; exact rfl)
        | (apply z39; exact rfl; (with_reducible rfl))
        | (apply z29; exact rfl; (with_reducible rfl))
        | (apply z28; exact rfl)
        | with_reducible apply z50
        | with_reducible apply z52
        | (with_reducible apply z96; intro hc)
        | (with_reducible apply z62; intro hc)
        | (with_reducible apply z56; intro hc)
        | (with_reducible apply z40; intro hc)
       any_goals (exfalso; omega)
       all_goals (have eo : (z89 l[i] s).out = s.out ++ [32] ++ tokT l[i] := by rw [es]; simp [rtx])
       all_goals (have ec : (((z89 l[i] s).col : Nat) : Int) = s.col + 1 + (tokT l[i]).length := by rw [es]; simp only [rtx]; omega)
       all_goals (have el : (((z89 l[i] s).line : Nat) : Int) = s.line := by rw [es]; simp only [rtx])
       all_goals (refine hN _ ?_; unfold k16; dsimp only; rw [eo, ec, el])
       repeat' first
        | exact z18
        | refine z47 rfl ?_
end Go.Proofs.TryzL
namespace Go.Proofs.TryzL
open Go.Proofs.Lz
theorem jr7 (l : List Tok) (hl : l.length < 2^40) (hk : ∀ t ∈ l, TokOk t) : Rets Vv 16 [.c (tks l)] (rcv (qa9 l)) := by
 refine z35 ww9 ?_
 unfold tks
 repeat' first
  | apply z01
  | exact z17
  | (apply z12; exact rfl; exact rfl)
  | apply z03
  | apply z00
  | apply z02
  | apply z05
 refine z93 (fun n : Nat => [(0, .c (.frz (some 7) (l.map tokC))), (4, .c (.int .i64 n))]) (fun n => n ≤ l.length ∧ (l.take n).all zt9 = true) (fun n => l.length - n) 0 ?_ ⟨Nat.zero_le _, tk0⟩ ?_
 · repeat' first
    | exact z18
    | refine z47 rfl ?_
 rintro n ⟨hn, hall⟩
 by_cases hnl : n < l.length
 · have ht := hk l[n] (List.getElem_mem _)
   repeat' first
    | apply z01
    | exact z17
    | (apply z12; exact rfl; exact rfl)
    | (apply zc5; exact rfl; exact rfl)
    | (apply z88; exact rfl; exact rfl; omega)
    | (apply z23; (iterate 3 exact rfl))
    | (apply z84; exact rfl)
    | (apply za8; exact rfl; exact rfl)
    | (apply za3; (iterate 3 exact rfl); exact List.getElem?_eq_getElem (by omega))
    | (apply z08 (hc := jq9 l[n] ht); exact rfl; exact rfl; exact rfl)
    | (apply z04; focus (repeat (first | exact z18 | (apply kq_c; exact rfl))))
    | apply z03
    | apply z00
    | apply z02
    | apply z05
    | apply z06
    | apply z07
    | apply z42
    | (apply z15; exact rfl)
    | with_reducible apply z50
    | with_reducible apply z52
    | (with_reducible apply z56; intro hc)
    | (with_reducible apply z40; intro hc)
    | (with_reducible apply zg9; intro hc)
    | (apply zx8; (exact ShI.c rfl); (exact ShI.c rfl); (exact by decide))
   any_goals (exfalso; omega)
   · unfold qa9
     rw [if_pos (tkF hnl (by simpa using hc))]
     rfl
   · refine ⟨n + 1, ?_, rfl, ⟨by omega, tkS hnl hall hc⟩, by omega⟩
     repeat' first
      | exact z18
      | refine z47 rfl ?_
 · have hall := tkE (by omega) hall
   have hR0 : qa9 l = if 16384 < l.length then (([], 3) : List UInt8 × Int) else (match rend l rs0 with
    | none => (([], 3) : List UInt8 × Int)
    | some o => (o, 0)) := by
    unfold qa9
    rw [if_neg (by rw [hall]; simp)]
    rfl
   repeat' first
    | apply z01
    | exact z17
    | (apply z12; exact rfl; exact rfl)
    | (apply zc5; exact rfl; exact rfl)
    | (apply z23; (iterate 3 exact rfl))
    | (apply z84; exact rfl)
    | (apply za3; (iterate 3 exact rfl); exact List.getElem?_eq_getElem (by omega))
    | (apply z04; focus (repeat (first | exact z18 | (apply kq_c; exact rfl))))
    | apply z03
    | apply z00
    | apply z02
    | apply z05
    | apply z06
    | apply z42
    | (apply z15; exact rfl)
    | (with_reducible apply z56; intro hc)
    | (with_reducible apply z40; intro hc)
   any_goals (exfalso; omega)
   refine z93 (k16 l)
    (fun p => p.1 ≤ l.length ∧ ((RsOk p.2 ∧ rend (l.drop p.1) p.2 = rend l rs0 ∧ p.2.first = decide (p.1 = 0)) ∨ (65536 < p.2.out.length ∧ rend l rs0 = none))) (fun p => l.length - p.1) (0, rs0) ?_ ⟨Nat.zero_le _, .inl ⟨⟨by decide, by decide, by decide⟩, by simp, rfl⟩⟩ ?_
   · repeat' first
      | exact z18
      | refine z47 rfl ?_
   rintro ⟨i, s⟩ ⟨hi, hor⟩
   dsimp only at hi hor
   dsimp only
   by_cases hil : i < l.length ∧ s.out.length ≤ 65536
   · obtain ⟨hil, hso⟩ := hil
     obtain ⟨hs, hR, hfi⟩ := hor.resolve_right (fun h => by omega)
     have ht := hk l[i] (List.getElem_mem _)
     have hpt : zt9 l[i] = true := (List.all_eq_true.1 hall) _ (List.getElem_mem _)
     generalize htt : l[i] = t at ht hpt
     have hov : 65536 < (z89 t s).out.length → rend l rs0 = none := fun h => by
      rw [← hR, qo6 hil (by rw [htt]; exact h)]
     have hnx : ¬ 65536 < (z89 t s).out.length → rend (l.drop (i + 1)) (z89 t s) = rend l rs0 := fun h => by
      rw [← hR, qs0 hil (by rw [htt]; exact h), htt]
     have hfin : ((RsOk (z89 t s) ∧ rend (l.drop (i + 1)) (z89 t s) = rend l rs0 ∧ (z89 t s).first = decide (i + 1 = 0)) ∨ (65536 < (z89 t s).out.length ∧ rend l rs0 = none)) := by
      by_cases h : 65536 < (z89 t s).out.length
      · exact .inr ⟨h, hov h⟩
      · exact .inl ⟨q34 ht hs (by omega), hnx h, rfl⟩
     subst htt
     exact w51 hl hil hso hs hfi ht hpt fun fr hk => ⟨(i + 1, z89 l[i] s), hk, rfl, ⟨by dsimp only; omega, hfin⟩, by dsimp only; omega⟩
   · have key : ∀ {N K : Post} {B : Hs} {R : RP} {H : z16}, K (FL [(0, .c (.frz (some 7) (l.map tokC))), (5, .c (.str s.out))] []) H → WP Vv jd4 (FL (k16 l (i, s)) []) H N ((2, K) :: B) R := by
      intro N K B R H h
      unfold k16
      dsimp only
      repeat' first
       | apply z01
       | exact z17
       | exact z30 rfl
       | exact z68 rfl
       | (apply z12; exact rfl; exact rfl)
       | (apply zc5; exact rfl; exact rfl)
       | (apply z22; (iterate 3 exact rfl))
       | (apply z88; exact rfl; exact rfl; omega)
       | (apply zp5; exact rfl; exact rfl; omega)
       | (apply zg3; exact rfl; exact rfl; (omega))
       | (apply z23; (iterate 3 exact rfl))
       | (apply z84; exact rfl)
       | (apply z27; exact rfl)
       | (apply za8; exact rfl; exact rfl)
       | (apply z09; exact rfl; (with_reducible rfl); exact rfl)
       | (apply z13; exact rfl; (with_reducible rfl); exact rfl)
       | (apply za3; (iterate 3 exact rfl); exact List.getElem?_eq_getElem (by omega))
       | (apply z19; exact rfl; exact z74 rfl)
       | (apply z58; exact rfl; exact rfl; first | exact z41 (by first | exact rfl | assumption | exact z14 (by assumption)) | exact z45 (by first | exact rfl | assumption | exact z14 (by assumption)))
       | (apply z82; (iterate 4 exact rfl); exact za0 (by first | exact rfl | assumption | exact z14 (by assumption)))
       | (apply qd5; exact rfl; exact rfl)
       | (apply z04; focus (repeat (first | exact z18 | (apply kq_c; exact rfl) | (apply z48; exact rfl))))
       | apply z03
       | apply z00
       | apply z02
       | apply z05
       | apply z06
       | apply z42
       | (apply qa8; exact rfl)
       | (apply z34; exact rfl; (with_reducible rfl))
       | (apply z15; exact rfl)
       | (apply z39; exact rfl; (with_reducible rfl))
       | (apply z29; exact rfl; (with_reducible rfl))
       | (apply z28; exact rfl)
       | with_reducible apply z50
       | with_reducible apply z52
       | (with_reducible apply z96; intro hc)
       | (with_reducible apply z62; intro hc)
       | (with_reducible apply z56; intro hc)
       | (with_reducible apply z40; intro hc)
      any_goals (exfalso; omega)
      all_goals exact h
     refine key ?_
     have hge : 65536 < s.out.length ∨ (s.out.length ≤ 65536 ∧ rend l rs0 = some s.out) := by
      rcases hor with ⟨h1, h2, h3⟩ | ⟨h1, h2⟩
      · right
        have ho := h1.out
        have : i = l.length := by omega
        subst this
        rw [List.drop_length, rend] at h2
        exact ⟨h1.out, h2.symm⟩
      · exact .inl h1
     have hno : 65536 < s.out.length → rend l rs0 = none := fun h => by
      rcases hor with ⟨h1, h2, h3⟩ | ⟨h1, h2⟩
      · have := h1.out; omega
      · exact h2
     repeat' first
      | apply z01
      | exact z17
      | exact z30 rfl
      | (apply z12; exact rfl; exact rfl)
      | (apply z23; (iterate 3 exact rfl))
      | (apply z84; exact rfl)
      | (apply z27; exact rfl)
      | (apply z09; exact rfl; (with_reducible rfl); exact rfl)
      | (apply z13; exact rfl; (with_reducible rfl); exact rfl)
      | (apply z04; focus (repeat (first | exact z18 | (apply kq_c; exact rfl))))
      | apply z03
      | apply z00
      | apply z02
      | apply z06
      | apply z07
      | (apply z38; exact rfl; (with_reducible rfl))
      | (apply z15; exact rfl)
      | (apply z39; exact rfl; (with_reducible rfl))
      | (apply z32; exact rfl; (with_reducible rfl))
      | (apply z28; exact rfl)
      | (with_reducible apply z56; intro hc)
      | (with_reducible apply z40; intro hc)
      | (apply zx8; (exact ShI.c rfl); (exact ShI.c rfl); (exact by decide))
     all_goals rw [hR0]
     all_goals by_cases h16 : 16384 < l.length
     trace_state
     all_goals first
      | (exfalso; omega)
      | (rw [if_pos h16]; rfl)
      | (rw [if_neg h16, hno (by omega)]; rfl)
      | (rw [if_neg h16, (hge.resolve_left (by omega)).2]; rfl)
end Go.Proofs.TryzL
