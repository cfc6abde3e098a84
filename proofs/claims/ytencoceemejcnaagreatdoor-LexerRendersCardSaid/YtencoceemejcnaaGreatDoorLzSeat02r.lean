/- Chapter 02: the row and the card about Render. Render returns the reference's result for any tokens (at most 300 tokens with at most 300 bytes each). -/
import Derived.Test.YtencoceemejcnaaGreatDoorLzT30
import Derived.Test.YtencoceemejcnaaGreatDoorLzSeat02
set_option linter.unusedSimpArgs false
set_option linter.unusedVariables false
namespace Go.Proofs.TryzL
open Go.Proofs.Lz
set_option maxHeartbeats 4000000
def w78 : Option (WV × z16) → Bool
 | some (.c (.bool b), _) => b
 | _ => false
theorem ja0 {f : Nat} (n : Nat) (h : w78 (wF Vv n f [] []) = true) : Rets Vv f [] (.c (.bool true)) := by
 cases hw : wF Vv n f [] [] with
 | none => rw [hw] at h; cases h
 | some p =>
   obtain ⟨v, H⟩ := p
   rw [hw] at h
   have hv := jq1 hw
   cases v with
   | c u =>
     cases u with
     | bool b =>
       have hb : b = true := h
       subst hb
       exact ⟨_, H, hv, rfl⟩
     | _ => cases h
   | _ => cases h
theorem jh7 : Rets Vv 10 [] (.c (.bool true)) := ja0 40 (by kernel_rfl)
def qf1 (t : Tok) : Bool := decide (t.text.length ≤ 300) && decide (t.qual.length ≤ 300)
def fewB (l : List Tok) : Bool := l.all qf1 && decide (l.length ≤ 300)
theorem ww5 (l : List Tok) (hl : l.length ≤ 9223372036854775807) : Rets Vv 14 [.c (tks l)] (.c (.bool (fewB l))) := by
 refine z35 wu2 ?_
 unfold tks
 repeat' first
  | apply z01
  | exact z17
  | (apply z12; exact rfl; exact rfl)
  | (apply z84; exact rfl)
  | apply z03
  | apply z00
  | apply z02
  | apply z05
 refine z93 (fun n : Nat => [(0, .c (.frz (some 7) (l.map tokC))), (5, .c (.frz (some 7) (l.map tokC))), (6, .c (.int .i64 l.length)), (7, .c (.int .i64 n))]) (fun n => n ≤ l.length ∧ (l.take n).all qf1 = true) (fun n => l.length - n) 0 ?_ ⟨Nat.zero_le _, tk0⟩ ?_
 · repeat' first
    | exact z18
    | refine z47 rfl ?_
 rintro n ⟨hn, hall⟩
 by_cases hnl : n < l.length
 · repeat' first
    | apply z01
    | exact z17
    | exact z68 rfl
    | (apply z12; exact rfl; exact rfl)
    | (apply zc5; exact rfl; exact rfl)
    | (apply z22; (iterate 3 exact rfl))
    | (apply z88; exact rfl; exact rfl; omega)
    | (apply z23; (iterate 3 exact rfl))
    | (apply z84; exact rfl)
    | (apply z27; exact rfl)
    | (apply z09; exact rfl; (with_reducible rfl); exact rfl)
    | (apply z13; exact rfl; (with_reducible rfl); exact rfl)
    | (apply za3; (iterate 3 exact rfl); exact List.getElem?_eq_getElem (by omega))
    | (apply z19; exact rfl; exact z74 rfl)
    | (apply z58; exact rfl; exact rfl; first | exact z41 (by first | exact rfl | assumption | exact z14 (by assumption)) | exact z45 (by first | exact rfl | assumption | exact z14 (by assumption)))
    | (apply z82; (iterate 4 exact rfl); exact za0 (by first | exact rfl | assumption | exact z14 (by assumption)))
    | (apply z04; focus (repeat (first | exact z18 | (apply kq_c; exact rfl))))
    | apply z03
    | apply z00
    | apply z02
    | apply z05
    | apply z06
    | apply z07
    | apply z42
    | (apply z38; exact rfl; (with_reducible rfl))
    | (apply z15; exact rfl)
    | (apply z39; exact rfl; (with_reducible rfl))
    | (apply z32; exact rfl; (with_reducible rfl))
    | (apply z28; exact rfl)
    | (with_reducible apply z56; intro hc)
    | (with_reducible apply z40; intro hc)
    | (apply z49; exact rfl)
   any_goals (exfalso; omega)
   · have : fewB l = false := by unfold fewB; rw [tkF hnl (by unfold qf1; simp; omega)]; rfl
     rw [this]
   · have : fewB l = false := by unfold fewB; rw [tkF hnl (by unfold qf1; simp; omega)]; rfl
     rw [this]
   · refine ⟨n + 1, ?_, rfl, ⟨by omega, tkS hnl hall (by unfold qf1; simp; omega)⟩, by omega⟩
     repeat' first
      | exact z18
      | refine z47 rfl ?_
 · have hall := tkE (by omega) hall
   repeat' first
    | apply z01
    | exact z17
    | exact z68 rfl
    | (apply z12; exact rfl; exact rfl)
    | (apply zc5; exact rfl; exact rfl)
    | (apply z22; (iterate 3 exact rfl))
    | (apply z88; exact rfl; exact rfl; omega)
    | (apply z23; (iterate 3 exact rfl))
    | (apply z84; exact rfl)
    | (apply z27; exact rfl)
    | (apply z09; exact rfl; (with_reducible rfl); exact rfl)
    | (apply z13; exact rfl; (with_reducible rfl); exact rfl)
    | (apply za3; (iterate 3 exact rfl); exact List.getElem?_eq_getElem (by omega))
    | (apply z19; exact rfl; exact z74 rfl)
    | (apply z58; exact rfl; exact rfl; first | exact z41 (by first | exact rfl | assumption | exact z14 (by assumption)) | exact z45 (by first | exact rfl | assumption | exact z14 (by assumption)))
    | (apply z82; (iterate 4 exact rfl); exact za0 (by first | exact rfl | assumption | exact z14 (by assumption)))
    | (apply z04; focus (repeat (first | exact z18 | (apply kq_c; exact rfl))))
    | apply z03
    | apply z00
    | apply z02
    | apply z05
    | apply z06
    | apply z07
    | apply z42
    | (apply z38; exact rfl; (with_reducible rfl))
    | (apply z15; exact rfl)
    | (apply z39; exact rfl; (with_reducible rfl))
    | (apply z32; exact rfl; (with_reducible rfl))
    | (apply z28; exact rfl)
    | (with_reducible apply z56; intro hc)
    | (with_reducible apply z40; intro hc)
    | (apply z49; exact rfl)
   any_goals (exfalso; omega)
   refine cb ?_
   unfold fewB
   rw [hall]
   simp
   omega
structure TokI (t : Tok) : Prop where
 n : -9223372036854775808 ≤ t.n ∧ t.n ≤ 9223372036854775807
 line : -9223372036854775808 ≤ t.line ∧ t.line ≤ 9223372036854775807
 col : -9223372036854775808 ≤ t.col ∧ t.col ≤ 9223372036854775807
theorem jq5 {l : List Tok} (hf : fewB l = true) (hk : ∀ t ∈ l, TokI t) : l.length ≤ 300 ∧ ∀ t ∈ l, TokOk t := by
 unfold fewB at hf
 simp only [Bool.and_eq_true, List.all_eq_true, decide_eq_true_eq, qf1] at hf
 exact ⟨hf.2, fun t ht => ⟨by have := (hf.1 t ht).1; omega, by have := (hf.1 t ht).2; omega, (hk t ht).n, (hk t ht).line, (hk t ht).col⟩⟩
theorem wt8 (l : List Tok) (hl : l.length ≤ 9223372036854775807) (hk : ∀ t ∈ l, TokI t) : Rets Vv 5 [.c (tks l)] (.c (.bool true)) := by
 refine z35 vfn5 ?_
 have h14 := ww5 l hl
 cases hf : fewB l with
 | false =>
   rw [hf] at h14
   repeat' first
    | apply z01
    | exact z17
    | (apply z12; exact rfl; exact rfl)
    | (apply za8; exact rfl; exact rfl)
    | (apply z08 (hc := h14); exact rfl; exact rfl; exact rfl)
    | (apply z08 (hc := jh7); exact rfl; exact rfl; exact rfl)
    | (apply z04; focus (repeat (exact z18)))
    | apply z03
    | apply z00
    | apply z02
    | apply z07
    | (apply z15; exact rfl)
    | with_reducible exact qm3
    | with_reducible apply qp5
    | with_reducible apply z50
    | with_reducible apply z52
    | (apply z49; exact rfl)
   all_goals first | rfl | (exfalso; simp_all; done)
 | true =>
   rw [hf] at h14
   obtain ⟨h300, hok⟩ := jq5 hf hk
   have h15 := jr5 l (by omega) hok
   have h16 := jr7 l (by omega) hok
   generalize qa9 l = r at h15 h16
   obtain ⟨r1, r2⟩ := r
   unfold rcv at h15 h16
   dsimp only at h15 h16
   repeat' first
    | apply z01
    | exact z17
    | exact z30 rfl
    | (apply z12; exact rfl; exact rfl)
    | (apply z23; (iterate 3 exact rfl))
    | (apply za8; exact rfl; exact rfl)
    | (apply z09; exact rfl; (with_reducible rfl); exact rfl)
    | (apply z13; exact rfl; (with_reducible rfl); exact rfl)
    | (apply z94; (iterate 3 exact rfl))
    | (apply zi9; exact rfl; exact rfl)
    | (apply z08 (hc := h14); exact rfl; exact rfl; exact rfl)
    | (apply z08 (hc := h15); exact rfl; exact rfl; exact rfl)
    | (apply z08 (hc := h16); exact rfl; exact rfl; exact rfl)
    | (apply z08 (hc := jh7); exact rfl; exact rfl; exact rfl)
    | (apply z04; focus (repeat (first | exact z18 | (apply kq_c; exact rfl))))
    | apply z03
    | apply z00
    | apply z02
    | apply z06
    | apply z07
    | (apply z15; exact rfl)
    | (apply z39; exact rfl; (with_reducible rfl))
    | (apply z29; exact rfl; (with_reducible rfl))
    | (apply z28; exact rfl)
    | with_reducible exact q48
    | with_reducible apply q74
    | with_reducible apply z50
    | with_reducible apply z52
    | (with_reducible apply z96; intro hc)
    | (with_reducible apply zb1; intro hc)
    | (with_reducible apply z62; intro hc)
    | (with_reducible apply z69; intro hc)
    | (apply z49; exact rfl)
   all_goals first | rfl | (exfalso; simp_all; done)
end Go.Proofs.TryzL
set_option maxRecDepth 100000
namespace Go.Proofs.YtencoceemejcnaaGreatDoor
open Go.ChangeShapes Go.WideShapes Go.ChangeAt Go.RowKit Go.Proofs.Lz
open Go.Proofs.TryzL
abbrev TK := Go.Proofs.TryzL.Tok
theorem ji4 {m : Int} (h : (Lit.int .i64 m).wf = true) : -9223372036854775808 ≤ m ∧ m ≤ 9223372036854775807 := by
 simpa [Lit.wf, IntKind.min, IntKind.max, IntKind.signed, IntKind.bits] using h
theorem we3 {n : Nat} {zs : List CV} (h : zm5 Tryz.prog (n + 2) 38 zs) : ∃ t : TK, tokC t = .agg zs ∧ TokI t := by
 unfold zm5 at h
 rw [Tryz.underlying38] at h
 simp only [qk2, zm5, Tryz.underlying36, Tryz.underlying9, Tryz.underlying3, Tryz.underlying4] at h
 obtain ⟨_, _, rfl, ⟨a, rfl, _⟩, _, _, rfl, ⟨b, rfl, _⟩, _, _, rfl, ⟨c, rfl, _⟩, _, _, rfl, ⟨d, rfl, hd⟩, _, _, rfl, ⟨e, rfl⟩, _, _, rfl, ⟨f, rfl, hf⟩, _, _, rfl, ⟨g, rfl, hg⟩, rfl⟩ := h
 exact ⟨⟨a, b, c, d, e, f, g⟩, rfl, ⟨ji4 hd, ji4 hf, ji4 hg⟩⟩
theorem js5 {n : Nat} : ∀ (ys : List CV), (∀ y ∈ ys, ∃ zs, zm5 Tryz.prog (n + 2) 38 zs ∧ zs.length = z25 (some 7) ∧ za6 (some 7) zs = some y) → ∃ l : List TK, ys = l.map tokC ∧ ∀ t ∈ l, TokI t := by
 intro ys
 induction ys with
 | nil => intro _; exact ⟨[], rfl, by simp⟩
 | cons y ys ih =>
   intro h
   obtain ⟨zs, h1, _, h3⟩ := h y (by simp)
   obtain ⟨t, ht, hi⟩ := we3 h1
   obtain ⟨l, rfl, hl⟩ := ih (fun y hy => h y (by simp [hy]))
   simp only [za6, Option.some.injEq] at h3
   exact ⟨t :: l, by rw [← h3, ← ht]; rfl, by intro x hx; rcases List.mem_cons.1 hx with rfl | hx; exact hi; exact hl x hx⟩
theorem wn0 : Tryz.prog.underlying 23 = some (.slice 38) := by kernel_rfl
theorem ek38 : ekOf Tryz.prog 38 = some (some 7) := by kernel_rfl
theorem ek23 : ekOf Tryz.prog 23 = some none := by kernel_rfl
theorem j81 {zs : List CV} {x : CV} (h2 : zm5 Tryz.prog 6 23 zs) (h4 : za6 none zs = some x) : ∃ l : List TK, x = tks l ∧ l.length ≤ 9223372036854775807 ∧ ∀ t ∈ l, TokI t := by
 unfold zm5 at h2
 rw [wn0] at h2
 obtain ⟨ek, ys, rfl, hlen, h5, h6⟩ := h2
 rw [ek38] at h5
 injection h5 with h5; subst h5
 obtain ⟨l, rfl, hl⟩ := js5 (n := 3) ys h6
 simp only [za6, List.getElem?_cons_zero, Option.some.injEq] at h4
 exact ⟨l, by rw [← h4]; rfl, by simpa [maxLen] using hlen, hl⟩
theorem w84 {xs : List CV} (h : qe5 Tryz.prog 6 [23] xs) : ∃ l : List TK, xs = [tks l] ∧ l.length ≤ 9223372036854775807 ∧ ∀ t ∈ l, TokI t := by
 match xs, h with
 | [x], h =>
   obtain ⟨⟨zs, ek, h1, h2, h3, h4⟩, _⟩ := h
   rw [ek23] at h1
   injection h1 with h1; subst h1
   obtain ⟨l, rfl, h⟩ := j81 h2 h4
   exact ⟨l, rfl, h⟩
theorem q22 (xs : List CV) (h : qe5 Tryz.prog 6 Tryz.f5.params.toList xs) : ∃ H', ev Ev 5 (xs.map .c) [] = some (.c (.bool true), H') := by
 rw [Tryz.params5] at h
 obtain ⟨l, rfl, hl, hk⟩ := w84 h
 obtain ⟨H', h⟩ := jb7 (wt8 l hl hk)
 exact wz0 envR h
theorem zx4 : Rows.LexerRendersSaid :=
 OpenClaim.holds_of_wide 5 Tryz.f5 rfl rfl rfl rfl rfl rfl rfl ⟨rfl, rfl, rfl, rfl, rfl⟩ rfl rfl rfl rfl rfl (by kernel_rfl) Tryz.func5 (by kernel_rfl)
  (of_decide_eq_true (by kernel_rfl)) (by unfold Func.isWrapper; first | (rw [if_pos (by decide +kernel)]; kernel_rfl) | (rw [if_neg (by decide +kernel)]; exact ⟨rfl, rfl⟩))
  (fun os started H enc _ => wi0 (s := Rows.lexerRendersSpec) os started enc Tryz.func5 (by kernel_rfl) (by kernel_rfl) rfl rfl (fun ds h => by match ds, h with | [d], _ => rfl)
    (ChangeSpec.witness_shaped (enc := enc) (C := Tryz.checked) (os := os) (X := fun w _ => laidMetH Tryz.prog zl0 w) false (World.laidAll Tryz.prog os zl0) #[.slice none 0 0] 8 (World.laidAll_os _ _ _)
      (qn2 os) (by kernel_rfl) (by kernel_rfl) (by kernel_rfl) (jb5 os _))
    q22)
theorem lexerRenders_card : Rows.LexerRendersCardSaid :=
 Claim7.holds_tied_plain_at .later [] [.data, .data, .data, .data, .sentinel, .sentinel, .pinned] true (true, "641a6eedb85e9fcdfc4a04b463ac295cc2ee5868a244e0a5b5af0ed3d49ea37c") true zx4 (fun _ h => by cases h) (by kernel_rfl) (fun _ h => by cases h) lexerRenders_row_tie rfl ⟨rfl, rfl⟩ (by kernel_rfl) rfl
  (fun f fn hf hfn => by
    obtain rfl : f = 5 := Option.some.inj ((show Tryz.prog.funcNamed "lazyc/lazyclaw02.LexerRenders" = some 5 by kernel_rfl).symm.trans hf) |>.symm
    obtain rfl : fn = Tryz.f5 := (Option.some.inj (Tryz.func5.symm.trans hfn)).symm
    exact ⟨by kernel_rfl, fun j t ht => by
     rw [Tryz.params5] at ht
     have hm : t ∈ [23] := by simpa using Array.mem_of_getElem? ht
     have hall : ([23].all fun u => !Tryz.prog.wantsStandIn u) = true := by kernel_rfl
     exact (show Tryz.prog.wantsStandIn t = false by simpa using List.all_eq_true.1 hall t hm)⟩)
  (by kernel_rfl)
end Go.Proofs.YtencoceemejcnaaGreatDoor
