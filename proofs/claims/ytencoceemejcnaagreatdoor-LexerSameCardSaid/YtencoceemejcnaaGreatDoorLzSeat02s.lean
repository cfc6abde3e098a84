/- Chapter 02: the row and the card about Same. Same returns the reference's result for any tokens, and does not look at positions (at most 300 tokens). -/
import Derived.Test.YtencoceemejcnaaGreatDoorLzT37
import Derived.Test.YtencoceemejcnaaGreatDoorLzT38
set_option linter.unusedVariables false
set_option linter.unusedSimpArgs false
set_option maxRecDepth 100000
namespace Go.Proofs.YtencoceemejcnaaGreatDoor
open Go.ChangeShapes Go.WideShapes Go.ChangeAt Go.RowKit Go.Proofs.Lz
open Go.Proofs.TryzL
theorem ek3 : ekOf Tryz.prog 3 = some none := by kernel_rfl
theorem ji9 {zs : List CV} {x : CV} (h2 : zk0 Tryz.prog 6 3 zs) (h4 : z45 none zs = some x) : ∃ m : Int, x = .int .i64 m ∧ -9223372036854775808 ≤ m ∧ m ≤ 9223372036854775807 := by
 unfold zk0 at h2
 rw [Tryz.underlying3] at h2
 obtain ⟨m, rfl, hm⟩ := h2
 simp only [z45, List.getElem?_cons_zero, Option.some.injEq] at h4
 exact ⟨m, h4.symm, j74 hm⟩
theorem q64 {P : Program} {n : Nat} {t : TypeId} {ts : List TypeId} {xs : List CV} (h : q43 P n (t :: ts) xs) : ∃ x ys, xs = x :: ys ∧ jb4 P n t x ∧ q43 P n ts ys := by
 cases xs with
 | nil => exact h.elim
 | cons x ys => exact ⟨x, ys, rfl, h⟩
theorem jv7 {P : Program} {n : Nat} {xs : List CV} (h : q43 P n [] xs) : xs = [] := by
 cases xs with
 | nil => rfl
 | cons x ys => exact h.elim
theorem qy3 {P : Program} {n : Nat} {t : TypeId} {x : CV} {e : Option Nat} (he : ekOf P t = some e) (h : jb4 P n t x) : ∃ zs, zk0 P n t zs ∧ z45 e zs = some x := by
 obtain ⟨zs, ek, h1, h2, _, h4⟩ := h
 rw [he] at h1
 injection h1 with h1
 subst h1
 exact ⟨zs, h2, h4⟩
theorem j76 {x : CV} (h : jb4 Tryz.prog 6 23 x) : ∃ l : List TK, x = tks l ∧ l.length ≤ 9223372036854775807 ∧ ∀ t ∈ l, TokI t := by
 obtain ⟨zs, h2, h4⟩ := qy3 ek23 h
 exact je8 h2 h4
theorem jk9 {x : CV} (h : jb4 Tryz.prog 6 3 x) : ∃ m : Int, x = .int .i64 m ∧ -9223372036854775808 ≤ m ∧ m ≤ 9223372036854775807 := by
 obtain ⟨zs, h2, h4⟩ := qy3 ek3 h
 exact ji9 h2 h4
theorem wl7 {xs : List CV} (h : q43 Tryz.prog 6 [23, 23, 3, 3] xs) : ∃ (a b : List TK) (m n : Int), xs = [tks a, tks b, .int .i64 m, .int .i64 n] ∧ a.length ≤ 9223372036854775807 ∧ b.length ≤ 9223372036854775807 := by
 obtain ⟨x1, y1, e1, k1, h⟩ := q64 h
 obtain ⟨x2, y2, e2, k2, h⟩ := q64 h
 obtain ⟨x3, y3, e3, k3, h⟩ := q64 h
 obtain ⟨x4, y4, e4, k4, h⟩ := q64 h
 have e5 := jv7 h
 obtain ⟨a, ea, ha, _⟩ := j76 k1
 obtain ⟨b, eb, hb, _⟩ := j76 k2
 obtain ⟨m, em, _⟩ := jk9 k3
 obtain ⟨n, en, _⟩ := jk9 k4
 exact ⟨a, b, m, n, by rw [e1, e2, e3, e4, e5, ea, eb, em, en], ha, hb⟩
theorem qn6 (xs : List CV) (h : q43 Tryz.prog 6 Tryz.f7.params.toList xs) : ∃ H', ev Ev 7 (xs.map .c) [] = some (.c (.bool true), H') := by
 rw [Tryz.params7] at h
 obtain ⟨a, b, m, n, rfl, ha, hb⟩ := wl7 h
 obtain ⟨H', h⟩ := jg8 (law7 a b m n ha hb)
 exact wm1 envR h
theorem qf4 : Rows.LexerSameSaid :=
 OpenClaim.holds_of_wide 7 Tryz.f7 rfl rfl rfl rfl rfl rfl rfl ⟨rfl, rfl, rfl, rfl, rfl⟩ rfl rfl rfl rfl rfl (by kernel_rfl) Tryz.func7 (by kernel_rfl)
  (of_decide_eq_true (by kernel_rfl)) (by unfold Func.isWrapper; first | (rw [if_pos (by decide +kernel)]; kernel_rfl) | (rw [if_neg (by decide +kernel)]; exact ⟨rfl, rfl⟩))
  (fun os started H enc _ => w98 (s := Rows.lexerSameSpec) os started enc Tryz.func7 (by kernel_rfl) (by kernel_rfl) rfl rfl (fun ds h => by match ds, h with | [d1, d2, d3, d4], _ => rfl)
    (ChangeSpec.witness_shaped (enc := enc) (C := Tryz.checked) (os := os) (X := fun w _ => laidMetH Tryz.prog zp4 w) false (World.laidAll Tryz.prog os zp4) #[.slice none 0 0, .slice none 0 0, .int .i64 0, .int .i64 0] 8 (World.laidAll_os _ _ _)
      (qw8 os) (by kernel_rfl) (by kernel_rfl) (by kernel_rfl) (ja1 os _))
    qn6)
theorem lexerSame_card : Rows.LexerSameCardSaid :=
 Claim7.holds_tied_plain_at .later [] [.data, .data, .data, .data, .sentinel, .sentinel, .pinned] true (true, "641a6eedb85e9fcdfc4a04b463ac295cc2ee5868a244e0a5b5af0ed3d49ea37c") true qf4 (fun _ h => by cases h) (by kernel_rfl) (fun _ h => by cases h) lexerSame_row_tie rfl ⟨rfl, rfl⟩ (by kernel_rfl) rfl
  (fun f fn hf hfn => by
    obtain rfl : f = 7 := Option.some.inj ((show Tryz.prog.funcNamed "lazyc/lazyclaw02.LexerSame" = some 7 by kernel_rfl).symm.trans hf) |>.symm
    obtain rfl : fn = Tryz.f7 := (Option.some.inj (Tryz.func7.symm.trans hfn)).symm
    exact ⟨by kernel_rfl, fun j t ht => by
     rw [Tryz.params7] at ht
     have hm : t ∈ [23, 23, 3, 3] := by simpa using Array.mem_of_getElem? ht
     have hall : ([23, 23, 3, 3].all fun u => !Tryz.prog.wantsStandIn u) = true := by kernel_rfl
     exact (show Tryz.prog.wantsStandIn t = false by simpa using List.all_eq_true.1 hall t hm)⟩)
  (by kernel_rfl)
end Go.Proofs.YtencoceemejcnaaGreatDoor
