/- Layout: rows from laws on the evaluator. -/
import Derived.Test.YtmjofajbfondhaaRows
import Derived.Test.YtmjofajbfondhaaLzLaw03i
import Derived.Test.YtmjofajbfondhaaLzRow2
import Derived.Test.YtmjofajbfondhaaLzWCode
namespace Go.Proofs.Ytmjofajbfondhaa
open Go.ChangeShapes Go.WideShapes Go.ChangeAt Go.RowKit Go.Proofs.Lz
open Go.Proofs.TryL

theorem Try.own : ownKnob Try.prog.godebug = none := by kernel_rfl
theorem Try.laidOut : laidOutB Try.prog = true := by kernel_rfl
theorem evOk : EnvOk Try.prog Ev := fun f g h => Option.bind_eq_some_iff.1 (fnT_ok f g h)
def argsAll (P : Program) (n : Nat) (ts : List TypeId) : Bool := ts.all fun t => supT P n t && (ekOf P t).isSome && P.readableRec t && decide (t < P.types.size)
theorem argsAll_spec {P : Program} {n : Nat} {ts : List TypeId} (h : argsAll P n ts = true) : ∀ t ∈ ts, supT P n t = true ∧ (ekOf P t).isSome = true ∧ P.readableRec t = true ∧ t < P.types.size := by
  intro t ht
  have := List.all_eq_true.1 h t ht
  simp only [Bool.and_eq_true, decide_eq_true_eq] at this
  exact ⟨this.1.1.1, this.1.1.2, this.1.2, this.2⟩
theorem args3 : argsAll Try.prog 6 Try.f3.params.toList = true := by kernel_rfl
theorem ek22 : ekOf Try.prog 22 = some none := by kernel_rfl
theorem ek33 : ekOf Try.prog 33 = some (some 7) := by kernel_rfl

theorem tok_of {n : Nat} {zs : List CV} (h : CellsT Try.prog (n + 2) 33 zs) : ∃ t : Tok, tokC t = .agg zs := by
  unfold CellsT at h
  rw [Try.underlying33] at h
  simp only [FieldsT, CellsT, Try.underlying31, Try.underlying9, Try.underlying3, Try.underlying4] at h
  obtain ⟨_, _, rfl, ⟨a, rfl, _⟩, _, _, rfl, ⟨b, rfl, _⟩, _, _, rfl, ⟨c, rfl, _⟩, _, _, rfl, ⟨d, rfl, _⟩, _, _, rfl, ⟨e, rfl⟩, _, _, rfl, ⟨f, rfl, _⟩, _, _, rfl, ⟨g, rfl, _⟩, rfl⟩ := h
  exact ⟨⟨a, b, c, d, e, f, g⟩, rfl⟩
theorem toks_all {n : Nat} : ∀ (ys : List CV), (∀ y ∈ ys, ∃ zs, CellsT Try.prog (n + 2) 33 zs ∧ zs.length = ekSize (some 7) ∧ unflat (some 7) zs = some y) → ∃ l : List Tok, ys = l.map tokC := by
  intro ys
  induction ys with
  | nil => intro _; exact ⟨[], rfl⟩
  | cons y ys ih =>
    intro h
    obtain ⟨zs, h1, _, h3⟩ := h y (by simp)
    obtain ⟨t, ht⟩ := tok_of h1
    obtain ⟨l, rfl⟩ := ih (fun y hy => h y (by simp [hy]))
    simp only [unflat, Option.some.injEq] at h3
    exact ⟨t :: l, by rw [← h3, ← ht]; rfl⟩
theorem toks_of {xs : List CV} (h : ArgsOk Try.prog 6 [22] xs) : ∃ l : List Tok, xs = [.frz (some 7) (l.map tokC)] := by
  match xs, h with
  | [x], h =>
    obtain ⟨⟨zs, ek, h1, h2, h3, h4⟩, _⟩ := h
    rw [ek22] at h1
    injection h1 with h1; subst h1
    unfold CellsT at h2
    rw [Try.underlying22] at h2
    obtain ⟨ek, ys, rfl, _, h5, h6⟩ := h2
    rw [ek33] at h5
    injection h5 with h5; subst h5
    obtain ⟨l, rfl⟩ := toks_all (n := 3) ys h6
    simp only [unflat, List.getElem?_cons_zero, Option.some.injEq] at h4
    exact ⟨l, by rw [← h4]⟩

theorem envR : EnvR Vv Ev := ⟨rfl, rfl⟩
theorem layoutInsert_law (xs : List CV) (h : ArgsOk Try.prog 6 Try.f3.params.toList xs) : ∃ H', ev Ev 3 (xs.map .c) [] = some (.c (.bool true), H') := by
  rw [Try.params3] at h
  obtain ⟨l, rfl⟩ := toks_of h
  obtain ⟨H', h⟩ := law3w l
  exact wv_ev envR h
theorem layoutInsert_lifted (os : Os) (started : os.Started) (H : Type) (enc : TypeId × Value → H) :
    ReturnsInHanded {} Try.checked os 3 .any (Rows.layoutInsertSpec.pre6 enc Try.prog Try.f3 Rows.layoutInsertRow.domain false) (Rows.layoutInsertSpec.post enc Try.prog Try.f3 false true false false) := by
  refine returnsInHanded_of_change (C := Try.checked) Try.own started (by kernel_rfl) Try.func3
    (ChangeSpec.witness6 (enc := enc) (C := Try.checked) false ⟨#[], #[.slice none 0 0], []⟩ 8 (by kernel_rfl) (by kernel_rfl) (by kernel_rfl) (by kernel_rfl)) ?_
  intro W base args ds gs before hval0 hW hcnd _
  exact law_calls (P := Try.prog) evOk Try.laidOut (argsAll_spec args3) (tb := 4) rfl (by kernel_rfl) rfl (fun ds h => by match ds, h with | [d], _ => rfl) layoutInsert_law hval0 hW
theorem layoutInsert_holds : Rows.LayoutInsertSaid :=
  OpenClaim.holds_of_wide 3 Try.f3 rfl rfl rfl rfl rfl rfl rfl ⟨rfl, rfl, rfl, rfl, rfl⟩ rfl rfl rfl rfl rfl (by kernel_rfl) Try.func3 (by kernel_rfl)
    (of_decide_eq_true (by kernel_rfl)) (by unfold Func.isWrapper; first | (rw [if_pos (by decide +kernel)]; kernel_rfl) | (rw [if_neg (by decide +kernel)]; exact ⟨rfl, rfl⟩))
    (fun os started H enc _ => layoutInsert_lifted os started H enc)
end Go.Proofs.Ytmjofajbfondhaa
