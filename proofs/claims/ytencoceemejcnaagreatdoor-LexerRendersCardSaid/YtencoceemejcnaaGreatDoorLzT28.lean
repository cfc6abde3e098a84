/- Chapter 02: Render. -/
import Derived.Test.YtencoceemejcnaaGreatDoorLzT27
set_option linter.unusedSimpArgs false
set_option linter.unusedVariables false
namespace Go.Proofs.TryzL
open Go.Proofs.Lz
set_option maxHeartbeats 4000000
theorem rep1 (n : Nat) (hn : n ≤ 2^40) : Rets Vv 43 [.c (.str [32]), .c (.int .i64 n)] (.c (.str (Lib.repeatL [32] n))) := by
 have h := zr1 (V := Vv) (f := 43) (xs := [.str [32], .int .i64 n]) (u := .str (Lib.repeatL [32] (n : Int).toNat)) (g := repG) rfl rfl (by
  simp only [repG]
  rw [if_pos ⟨by omega, by omega, by simp; omega⟩])
 simpa using h
theorem wy6 {n : Int} (h0 : 0 ≤ n) (hn : n ≤ 2^40) : Rets Vv 43 [.c (.str [32]), .c (.int .i64 n)] (.c (.str (Lib.repeatL [32] n.toNat))) := by
 have := rep1 n.toNat (by omega)
 rwa [Int.toNat_of_nonneg h0] at this
def tks (l : List Tok) : CV := .frz (some 7) (l.map tokC)
def rcv (r : List UInt8 × Int) : WV := .tup [.c (.str r.1), .c (.int .i64 r.2)]
theorem KpH.trans {id : Nat} {H H1 H2 : z16} (h : KpH id H H1) (k : KpH id H1 H2) : KpH id H H2 := fun i o hi ho => k i o hi (h i o hi ho)
theorem qo6 {l : List Tok} {s : RS} {i : Nat} (h : i < l.length) (ho : 65536 < (z89 l[i] s).out.length) : rend (l.drop i) s = none := by
 rw [List.drop_eq_getElem_cons h, rend, if_pos ho]
theorem qs0 {l : List Tok} {s : RS} {i : Nat} (h : i < l.length) (ho : ¬ 65536 < (z89 l[i] s).out.length) : rend (l.drop i) s = rend (l.drop (i + 1)) (z89 l[i] s) := by
 rw [List.drop_eq_getElem_cons h, rend, if_neg ho]
def nlS (s : RS) (n : Nat) : RS := if n = 0 then s else ⟨s.out ++ List.replicate n 10, s.line + n, 1, true⟩
theorem w83 (t : Tok) (s : RS) : nlS s (nlK t s) = rnl t s := by unfold nlS rnl; rfl
theorem qt7 (s : RS) (n : Nat) : (nlS s n).out = s.out ++ List.replicate n 10 := by
 unfold nlS; split
 · rename_i h; subst h; simp
 · rfl
theorem j56 (s : RS) (n : Nat) : (nlS s n).line = s.line + n := by
 unfold nlS; split
 · rename_i h; subst h; rfl
 · rfl
theorem jw3 (s : RS) (n : Nat) : nlS s (n + 1) = ⟨(nlS s n).out ++ [10], (nlS s n).line + 1, 1, true⟩ := by
 rw [qt7, j56]
 unfold nlS
 rw [if_neg (by omega), List.replicate_succ', List.append_assoc]
 simp; omega
theorem wm8 {t : Tok} {s : RS} {n : Nat} (h : n < nlK t s) : n < 200 ∧ ((s.line + n : Nat) : Int) < t.line := by unfold nlK at h; omega
theorem wf4 {t : Tok} {s : RS} {n : Nat} (h : n = nlK t s) : ¬ ((n : Int) < 200) ∨ ¬ ((s.line + n : Nat) : Int) < t.line := by unfold nlK at h; omega
def kIn (l : List Tok) (t : Tok) (i : Nat) (x : RS) (n : Nat) : List (Nat × WV) := [(6, .ptr 0 0), (7, .c (.int .i64 x.line)), (8, .c (.int .i64 x.col)), (9, .c (.bool x.first)), (11, .lbox (some 7) (.c (tokC t))), (12, .c (.int .i64 n)), (27, .c (.frz (some 7) (l.map tokC))), (28, .c (.int .i64 l.length)), (29, .c (.int .i64 i))]
theorem wb2 {l : List Tok} {t : Tok} {i : Nat} {s : RS} {H : z16} {N : Post} {B : Hs} {R : RP} {fr : WFr} (ht : TokOk t) (hs : RsOk s) (hB : BB 0 s.out H) (h0 : KpL [6, 7, 8, 9, 11, 12, 27, 28, 29] fr [6, 7, 8, 9, 11, 12, 27, 28, 29] (kIn l t i s 0))
 (h : ∀ H', BB 0 (rnl t s).out H' → N (FL [(6, .ptr 0 0), (7, .c (.int .i64 (rnl t s).line)), (8, .c (.int .i64 (rnl t s).col)), (9, .c (.bool (rnl t s).first)), (11, .lbox (some 7) (.c (tokC t))), (27, .c (.frz (some 7) (l.map tokC))), (28, .c (.int .i64 l.length)), (29, .c (.int .i64 i))] []) H') :
 WP Vv (.loop [6, 7, 8, 9, 11, 12, 27, 28, 29] w00) fr H N ((4, N) :: B) R := by
 refine qd7 (fun n : Nat => kIn l t i (nlS s n) n) (fun n H' => n ≤ nlK t s ∧ BB 0 (nlS s n).out H') (fun n => nlK t s - n) 0 h0 ⟨Nat.zero_le _, by rw [qt7]; simpa using hB⟩ ?_
 rintro n H1 ⟨hn, hB1⟩
 have e1 := j56 s n
 have e2 := jw3 s n
 have e3 : (nlS s n).out.length ≤ 65536 + 200 := by have := hs.out; rw [qt7]; simp; unfold nlK at hn; omega
 have e4 := ht.line
 have e5 := hs.line
 by_cases hnk : n < nlK t s
 · obtain ⟨c1, c2⟩ := wm8 hnk
   generalize nlS s n = x at *
   unfold kIn
   repeat' first
    | apply z01
    | exact z17
    | exact z30 rfl
    | exact z68 rfl
    | (apply z12; exact rfl; exact rfl)
    | (apply z22; (iterate 3 exact rfl))
    | (apply z88; exact rfl; exact rfl; omega)
    | (apply z23; (iterate 3 exact rfl))
    | (apply z09; exact rfl; (with_reducible rfl); exact rfl)
    | (apply z13; exact rfl; (with_reducible rfl); exact rfl)
    | (apply z19; exact rfl; exact z74 rfl)
    | (apply zb4 (hc := ⟨(jn9 hB1 (c := 10) (by omega)).run⟩); exact rfl; exact rfl; (exact rfl); exact rfl; (exact z17); rintro H1 ⟨r1, k1⟩)
    | (apply z04; focus (repeat (first | exact z18 | (apply kq_c; exact rfl) | (apply q49; exact rfl) | (apply z48; exact rfl))))
    | apply z03
    | apply z00
    | apply z02
    | apply z05
    | apply z06
    | apply z42
    | (apply qa8; exact rfl)
    | (apply z34; exact rfl; (with_reducible rfl))
    | (apply z15; exact rfl)
    | (apply z39; exact rfl; (with_reducible rfl))
    | (apply z29; exact rfl; (with_reducible rfl))
    | (apply z28; exact rfl)
    | (with_reducible apply z56; intro hc)
    | (with_reducible apply z40; intro hc)
   any_goals (exfalso; omega)
   refine ⟨n + 1, ?_, ⟨by omega, by rw [e2]; exact r1⟩, by omega⟩
   rw [e2]
   repeat' first
    | exact z18
    | refine z47 rfl ?_
 · have hn' : n = nlK t s := by omega
   have hg := wf4 hn'
   rw [← w83, ← hn'] at h
   generalize nlS s n = x at *
   unfold kIn
   repeat' first
    | apply z01
    | exact z17
    | exact z30 rfl
    | exact z68 rfl
    | (apply z12; exact rfl; exact rfl)
    | (apply z22; (iterate 3 exact rfl))
    | (apply z23; (iterate 3 exact rfl))
    | (apply z09; exact rfl; (with_reducible rfl); exact rfl)
    | (apply z13; exact rfl; (with_reducible rfl); exact rfl)
    | (apply z19; exact rfl; exact z74 rfl)
    | (apply z04; focus (repeat (first | exact z18 | (apply kq_c; exact rfl) | (apply q49; exact rfl) | (apply z48; exact rfl))))
    | apply z03
    | apply z00
    | apply z02
    | apply z05
    | apply z06
    | apply z42
    | (apply qa8; exact rfl)
    | (apply z34; exact rfl; (with_reducible rfl))
    | (apply z15; exact rfl)
    | (apply z39; exact rfl; (with_reducible rfl))
    | (apply z29; exact rfl; (with_reducible rfl))
    | (apply z28; exact rfl)
    | (with_reducible apply z56; intro hc)
    | (with_reducible apply z40; intro hc)
   any_goals (exfalso; omega)
   all_goals exact h _ hB1
theorem jr5 (l : List Tok) (hl : l.length < 2^40) (hk : ∀ t ∈ l, TokOk t) : Rets Vv 15 [.c (tks l)] (rcv (qa9 l)) := by
 refine z35 v04 ?_
 unfold tks
 repeat' first
  | apply z01
  | exact z17
  | (apply z12; exact rfl; exact rfl)
  | (apply z84; exact rfl)
  | apply z03
  | apply z00
  | apply z02
  | apply z05
 refine z93 (fun n : Nat => [(0, .c (.frz (some 7) (l.map tokC))), (14, .c (.frz (some 7) (l.map tokC))), (15, .c (.int .i64 l.length)), (16, .c (.int .i64 n))]) (fun n => n ≤ l.length ∧ (l.take n).all zt9 = true) (fun n => l.length - n) 0 ?_ ⟨Nat.zero_le _, tk0⟩ ?_
 · repeat' first
    | exact z18
    | refine z47 rfl ?_
 rintro n ⟨hn, hall⟩
 by_cases hnl : n < l.length
 · have ht := hk l[n] (List.getElem_mem _)
   repeat' first
    | apply z01
    | exact z17
    | exact z30 rfl
    | (apply z12; exact rfl; exact rfl)
    | (apply zc5; exact rfl; exact rfl)
    | (apply z22; (iterate 3 exact rfl))
    | (apply z88; exact rfl; exact rfl; omega)
    | (apply z23; (iterate 3 exact rfl))
    | (apply z84; exact rfl)
    | (apply za8; exact rfl; exact rfl)
    | (apply za3; (iterate 3 exact rfl); exact List.getElem?_eq_getElem (by omega))
    | (apply z58; exact rfl; exact rfl; first | exact z41 (by first | exact rfl | assumption | exact z14 (by assumption)) | exact z45 (by first | exact rfl | assumption | exact z14 (by assumption)))
    | (apply z82; (iterate 4 exact rfl); exact za0 (by first | exact rfl | assumption | exact z14 (by assumption)))
    | (apply j18; (iterate 4 exact rfl))
    | (apply z08 (hc := jr1 l[n] ht); exact rfl; exact rfl; exact rfl)
    | (apply z04; focus (repeat (first | exact z18 | (apply kq_c; exact rfl))))
    | apply z03
    | apply z00
    | apply z02
    | apply z05
    | apply z06
    | apply z07
    | apply z42
    | (apply z15; exact rfl)
    | with_reducible apply z50
    | with_reducible apply z52
    | (with_reducible apply z56; intro hc)
    | (with_reducible apply z40; intro hc)
    | (with_reducible apply zg9; intro hc)
    | (apply zx8; (exact ShI.c rfl); (exact ShI.c rfl); (exact by decide))
   any_goals (exfalso; omega)
   · unfold qa9
     rw [if_pos (tkF hnl (by simpa using hc))]
     rfl
   · refine ⟨n + 1, ?_, rfl, ⟨by omega, tkS hnl hall hc⟩, by omega⟩
     repeat' first
      | exact z18
      | refine z47 rfl ?_
 · have hall := tkE (by omega) hall
   repeat' first
    | apply z01
    | exact z17
    | exact z30 rfl
    | (apply z12; exact rfl; exact rfl)
    | (apply zc5; exact rfl; exact rfl)
    | (apply z22; (iterate 3 exact rfl))
    | (apply z23; (iterate 3 exact rfl))
    | (apply z84; exact rfl)
    | (apply za3; (iterate 3 exact rfl); exact List.getElem?_eq_getElem (by omega))
    | (apply z58; exact rfl; exact rfl; first | exact z41 (by first | exact rfl | assumption | exact z14 (by assumption)) | exact z45 (by first | exact rfl | assumption | exact z14 (by assumption)))
    | (apply z82; (iterate 4 exact rfl); exact za0 (by first | exact rfl | assumption | exact z14 (by assumption)))
    | (apply j18; (iterate 4 exact rfl))
    | (apply z04; focus (repeat (first | exact z18 | (apply kq_c; exact rfl))))
    | apply z03
    | apply z00
    | apply z02
    | apply z05
    | apply z06
    | apply z07
    | apply z42
    | (apply z15; exact rfl)
    | (with_reducible apply z56; intro hc)
    | (with_reducible apply z40; intro hc)
    | (apply zx8; (exact ShI.c rfl); (exact ShI.c rfl); (exact by decide))
   any_goals (exfalso; omega)
   · unfold qa9
     rw [if_neg (by rw [hall]; simp), if_pos (by omega)]
     rfl
   · have hR0 : qa9 l = match rend l rs0 with
      | none => ([], 3)
      | some o => (o, 0) := by
      unfold qa9
      rw [if_neg (by rw [hall]; simp), if_neg (by omega)]
      rfl
     refine qd7 (fun p : Nat × RS => [(6, .ptr 0 0), (7, .c (.int .i64 p.2.line)), (8, .c (.int .i64 p.2.col)), (9, .c (.bool p.2.first)), (27, .c (.frz (some 7) (l.map tokC))), (28, .c (.int .i64 l.length)), (29, .c (.int .i64 p.1))])
      (fun p H' => p.1 ≤ l.length ∧ BB 0 p.2.out H' ∧ RsOk p.2 ∧ rend (l.drop p.1) p.2 = rend l rs0) (fun p => l.length - p.1) (0, rs0) ?_ ⟨Nat.zero_le _, .inl ⟨rfl, _, .inl rfl, rfl⟩, ⟨by decide, by decide, by decide⟩, by simp⟩ ?_
     · repeat' first
        | exact z18
        | refine z47 rfl ?_
     rintro ⟨i, s⟩ H1 ⟨hi, hB, hs, hR⟩
     dsimp only at hi hB hs hR
     dsimp only
     by_cases hil : i < l.length
     · have ht := hk l[i] (List.getElem_mem _)
       generalize htt : l[i] = t at ht
       have htl := j59 ht
       have htc := ht.col
       obtain ⟨a1, a2, a3⟩ := jg1 ht hs
       have hov : 65536 < (z89 t s).out.length → rcv (qa9 l) = .tup [.c (.str []), .c (.int .i64 3)] := fun h => by
        rw [hR0, ← hR, qo6 hil (by rw [htt]; exact h)]
        rfl
       have hnx : ¬ 65536 < (z89 t s).out.length → rend (l.drop (i + 1)) (z89 t s) = rend l rs0 := fun h => by
        rw [← hR, qs0 hil (by rw [htt]; exact h), htt]
       repeat' first
        | apply z01
        | exact z17
        | (apply z12; exact rfl; exact rfl)
        | (apply zc5; exact rfl; exact rfl)
        | (apply z23; (iterate 3 exact rfl))
        | (apply za3; (iterate 3 exact rfl); exact List.getElem?_eq_getElem (by omega))
        | (apply z58; exact rfl; exact rfl; first | exact z41 (by first | exact rfl | assumption | exact z14 (by assumption)) | exact z45 (by first | exact rfl | assumption | exact z14 (by assumption)))
        | (apply z82; (iterate 4 exact rfl); exact za0 (by first | exact rfl | assumption | exact z14 (by assumption)))
        | (apply z04; focus (repeat (first | exact z18 | (apply kq_c; exact rfl) | (apply q49; exact rfl))))
        | apply z03
        | apply z00
        | apply z02
        | apply z05
        | apply z06
        | apply z42
        | (apply z15; exact rfl)
        | (with_reducible apply z56; intro hc)
        | (with_reducible apply z40; intro hc)
       any_goals (exfalso; omega)
       refine wb2 (l := l) (t := t) (i := i) (s := s) ht hs hB ?_ ?_
       · subst htt
         unfold kIn
         repeat' first
          | exact z18
          | refine z47 rfl ?_
       · intro H2 hB2
         have es : z89 t s = rtx t (rsp t (rnl t s)) := rfl
         generalize rnl t s = y at *
         by_cases hA : (y.col : Int) < t.col ∧ t.col ≤ 1000
         · have ez : rsp t y = { y with out := y.out ++ Lib.repeatL [32] (t.col - y.col).toNat, col := t.col.toNat } := by unfold rsp; rw [if_pos hA]
           rw [ez] at es
           have hr := wp6 (t.col - y.col).toNat
           have hz1 : (y.out ++ Lib.repeatL [32] (t.col - y.col).toNat).length < 2^40 := by simp only [List.length_append]; omega
           repeat' first
            | apply z01
            | exact z17
            | exact z68 rfl
            | (apply z12; exact rfl; exact rfl)
            | (apply z22; (iterate 3 exact rfl))
            | (apply z88; exact rfl; exact rfl; omega)
            | (apply zp5; exact rfl; exact rfl; omega)
            | (apply z23; (iterate 3 exact rfl))
            | (apply z27; exact rfl)
            | (apply za8; exact rfl; exact rfl)
            | (apply z09; exact rfl; (with_reducible rfl); exact rfl)
            | (apply z13; exact rfl; (with_reducible rfl); exact rfl)
            | (apply z19; exact rfl; exact z74 rfl)
            | (apply z08 (hc := wy6 (n := t.col - y.col) (by omega) (by omega)); exact rfl; exact rfl; exact rfl)
            | (apply z08 (hc := qu6 t ht); exact rfl; exact rfl; exact rfl)
            | (apply zb4 (hc := ⟨(zx6 (s := Lib.repeatL [32] (t.col - y.col).toNat) hB2 (by omega) (by omega)).run⟩); exact rfl; exact rfl; (exact rfl); exact rfl; (exact z68 rfl); rintro H1 ⟨r1, k1⟩)
            | (apply zb4 (hc := ⟨(zx6 (s := tokT t) r1 hz1 (by omega)).run⟩); exact rfl; exact rfl; (exact rfl); exact rfl; (exact z30 rfl); rintro H1 ⟨r1, k1⟩)
            | (apply zb4 (hc := ⟨(wc6 r1).run⟩); exact rfl; exact rfl; (exact rfl); exact rfl; (exact z17); rintro H1 ⟨r1, k1⟩)
            | (apply z04; focus (repeat (first | exact z18 | (apply kq_c; exact rfl) | (apply q49; exact rfl) | (apply z48; exact rfl))))
            | apply z03
            | apply z00
            | apply z02
            | apply z06
            | apply z07
            | (apply z34; exact rfl; (with_reducible rfl))
            | (apply z15; exact rfl)
            | (apply z39; exact rfl; (with_reducible rfl))
            | (apply z29; exact rfl; (with_reducible rfl))
            | (apply z28; exact rfl)
            | with_reducible apply z50
            | with_reducible apply z52
            | (with_reducible apply z56; intro hc)
            | (with_reducible apply z40; intro hc)
            | (with_reducible apply zg9; intro hc)
            | (apply zx8; (exact ShI.c rfl); (exact ShI.c rfl); (exact by decide))
           any_goals (exfalso; omega)
           all_goals (have eo : (z89 t s).out = y.out ++ Lib.repeatL [32] (t.col - y.col).toNat ++ tokT t := by rw [es]; rfl)
           any_goals exact hov (by rw [eo]; omega)
           all_goals (have ec : (((z89 t s).col : Nat) : Int) = t.col + (tokT t).length := by rw [es]; simp only [rtx]; omega
                      have el : (z89 t s).line = y.line := by rw [es]; rfl
                      have ef : (z89 t s).first = false := by rw [es]; rfl
                      refine ⟨(i + 1, z89 t s), ?_, ⟨by dsimp only; omega, by dsimp only; rw [eo]; exact r1, q34 ht hs (by rw [eo]; omega), hnx (by rw [eo]; omega)⟩, by dsimp only; omega⟩
                      dsimp only
                      rw [ec, el, ef])
           repeat' first
            | exact z18
            | refine z47 rfl ?_
         · have hr1 := y.first
           cases hf : y.first
           rotate_left
           ·
            have ez : rsp t y = y := by unfold rsp; rw [if_neg hA, if_pos hf]
            rw [ez] at es
            repeat' first
             | apply z01
             | exact z17
             | exact z68 rfl
             | (apply z12; exact rfl; exact rfl)
             | (apply z22; (iterate 3 exact rfl))
             | (apply z88; exact rfl; exact rfl; omega)
             | (apply zp5; exact rfl; exact rfl; omega)
             | (apply z23; (iterate 3 exact rfl))
             | (apply z27; exact rfl)
             | (apply za8; exact rfl; exact rfl)
             | (apply z09; exact rfl; (with_reducible rfl); exact rfl)
             | (apply z13; exact rfl; (with_reducible rfl); exact rfl)
             | (apply z19; exact rfl; exact z74 rfl)
             | (apply z08 (hc := qu6 t ht); exact rfl; exact rfl; exact rfl)
             | (apply zb4 (hc := ⟨(zx6 (s := tokT t) hB2 (by omega) (by omega)).run⟩); exact rfl; exact rfl; (exact rfl); exact rfl; (exact z30 rfl); rintro H1 ⟨r1, k1⟩)
             | (apply zb4 (hc := ⟨(wc6 r1).run⟩); exact rfl; exact rfl; (exact rfl); exact rfl; (exact z17); rintro H1 ⟨r1, k1⟩)
             | (apply z04; focus (repeat (first | exact z18 | (apply kq_c; exact rfl) | (apply q49; exact rfl) | (apply z48; exact rfl))))
             | apply z03
             | apply z00
             | apply z02
             | apply z06
             | apply z07
             | (apply z34; exact rfl; (with_reducible rfl))
             | (apply z15; exact rfl)
             | (apply z39; exact rfl; (with_reducible rfl))
             | (apply z29; exact rfl; (with_reducible rfl))
             | (apply z28; exact rfl)
             | with_reducible exact q48
             | with_reducible apply q74
             | with_reducible apply z50
             | with_reducible apply z52
             | (with_reducible apply z56; intro hc)
             | (with_reducible apply z40; intro hc)
             | (apply zx8; (exact ShI.c rfl); (exact ShI.c rfl); (exact by decide))
            any_goals (exfalso; omega)
            all_goals (have eo : (z89 t s).out = y.out ++ tokT t := by rw [es]; rfl)
            any_goals exact hov (by rw [eo]; omega)
            all_goals (have ec : (((z89 t s).col : Nat) : Int) = y.col + (tokT t).length := by rw [es]; simp only [rtx]; omega
                       have el : (z89 t s).line = y.line := by rw [es]; rfl
                       have ef : (z89 t s).first = false := by rw [es]; rfl
                       refine ⟨(i + 1, z89 t s), ?_, ⟨by dsimp only; omega, by dsimp only; rw [eo]; exact r1, q34 ht hs (by rw [eo]; omega), hnx (by rw [eo]; omega)⟩, by dsimp only; omega⟩
                       dsimp only
                       rw [ec, el, ef])
            repeat' first
             | exact z18
             | refine z47 rfl ?_
           ·
            have ez : rsp t y = { y with out := y.out ++ [32], col := y.col + 1 } := by unfold rsp; rw [if_neg hA, if_neg (by rw [hf]; simp)]
            rw [ez] at es
            have hz1 : (y.out ++ [32]).length < 2^40 := by simp only [List.length_append, List.length_singleton]; omega
            repeat' first
             | apply z01
             | exact z17
             | exact z68 rfl
             | (apply z12; exact rfl; exact rfl)
             | (apply z22; (iterate 3 exact rfl))
             | (apply z88; exact rfl; exact rfl; omega)
             | (apply zp5; exact rfl; exact rfl; omega)
             | (apply z23; (iterate 3 exact rfl))
             | (apply z27; exact rfl)
             | (apply za8; exact rfl; exact rfl)
             | (apply z09; exact rfl; (with_reducible rfl); exact rfl)
             | (apply z13; exact rfl; (with_reducible rfl); exact rfl)
             | (apply z19; exact rfl; exact z74 rfl)
             | (apply z08 (hc := qu6 t ht); exact rfl; exact rfl; exact rfl)
             | (apply zb4 (hc := ⟨(jn9 (c := 32) hB2 (by omega)).run⟩); exact rfl; exact rfl; (exact rfl); exact rfl; (exact z17); rintro H1 ⟨r1, k1⟩)
             | (apply zb4 (hc := ⟨(zx6 (s := tokT t) r1 hz1 (by omega)).run⟩); exact rfl; exact rfl; (exact rfl); exact rfl; (exact z30 rfl); rintro H1 ⟨r1, k1⟩)
             | (apply zb4 (hc := ⟨(wc6 r1).run⟩); exact rfl; exact rfl; (exact rfl); exact rfl; (exact z17); rintro H1 ⟨r1, k1⟩)
             | (apply z04; focus (repeat (first | exact z18 | (apply kq_c; exact rfl) | (apply q49; exact rfl) | (apply z48; exact rfl))))
             | apply z03
             | apply z00
             | apply z02
             | apply z06
             | apply z07
             | (apply z34; exact rfl; (with_reducible rfl))
             | (apply z15; exact rfl)
             | (apply z39; exact rfl; (with_reducible rfl))
             | (apply z29; exact rfl; (with_reducible rfl))
             | (apply z28; exact rfl)
             | with_reducible exact qm3
             | with_reducible apply qp5
             | with_reducible apply z50
             | with_reducible apply z52
             | (with_reducible apply z56; intro hc)
             | (with_reducible apply z40; intro hc)
             | (apply zx8; (exact ShI.c rfl); (exact ShI.c rfl); (exact by decide))
            any_goals (exfalso; omega)
            all_goals (have eo : (z89 t s).out = y.out ++ [32] ++ tokT t := by rw [es]; rfl)
            any_goals exact hov (by rw [eo]; omega)
            all_goals (have ec : (((z89 t s).col : Nat) : Int) = (y.col + 1) + (tokT t).length := by rw [es]; simp only [rtx]; omega
                       have el : (z89 t s).line = y.line := by rw [es]; rfl
                       have ef : (z89 t s).first = false := by rw [es]; rfl
                       refine ⟨(i + 1, z89 t s), ?_, ⟨by dsimp only; omega, by dsimp only; rw [eo]; exact r1, q34 ht hs (by rw [eo]; omega), hnx (by rw [eo]; omega)⟩, by dsimp only; omega⟩
                       dsimp only
                       rw [ec, el, ef])
            repeat' first
             | exact z18
             | refine z47 rfl ?_
     · have hie : i = l.length := by omega
       subst hie
       rw [List.drop_length, rend] at hR
       repeat' first
        | apply z01
        | exact z17
        | (apply z12; exact rfl; exact rfl)
        | (apply zc5; exact rfl; exact rfl)
        | (apply z23; (iterate 3 exact rfl))
        | (apply za3; (iterate 3 exact rfl); exact List.getElem?_eq_getElem (by omega))
        | (apply z58; exact rfl; exact rfl; first | exact z41 (by first | exact rfl | assumption | exact z14 (by assumption)) | exact z45 (by first | exact rfl | assumption | exact z14 (by assumption)))
        | (apply z82; (iterate 4 exact rfl); exact za0 (by first | exact rfl | assumption | exact z14 (by assumption)))
        | (apply zb4 (hc := ⟨(jp9 hB).run⟩); exact rfl; exact rfl; (exact rfl); exact rfl; (exact z17); rintro H1 ⟨r1, k1⟩)
        | (apply z04; focus (repeat (first | exact z18 | (apply kq_c; exact rfl) | (apply q49; exact rfl))))
        | apply z03
        | apply z00
        | apply z02
        | apply z05
        | apply z06
        | apply z07
        | apply z42
        | (apply z15; exact rfl)
        | (with_reducible apply z56; intro hc)
        | (with_reducible apply z40; intro hc)
        | (apply zx8; (exact ShI.c rfl); (exact ShI.c rfl); (exact by decide))
       any_goals (exfalso; omega)
       rw [hR0, ← hR]
       rfl
end Go.Proofs.TryzL
