/- Layout: the row of LayoutBalanced, for arguments of bounded bulk. -/
import Derived.Test.YtmjofajbfondhaaRows
import Derived.Test.YtmjofajbfondhaaLzLaw03e
import Derived.Test.YtmjofajbfondhaaLzRow3
import Derived.Test.YtmjofajbfondhaaLzWCode
namespace Go.Proofs.Ytmjofajbfondhaa
open Go.ChangeShapes Go.WideShapes Go.ChangeAt Go.RowKit Go.Proofs.Lz
open Go.Proofs.TryL

theorem Try.own : ownKnob Try.prog.godebug = none := by kernel_rfl
theorem Try.laidOut : laidOutB Try.prog = true := by kernel_rfl
theorem evOk : EnvOk Try.prog Ev := fun f g h => Option.bind_eq_some_iff.1 (fnT_ok f g h)
def argsAll (P : Program) (n : Nat) (ts : List TypeId) : Bool := ts.all fun t => supT P n t && (ekOf P t).isSome && P.readableRec t && decide (t < P.types.size)
theorem argsAll_spec {P : Program} {n : Nat} {ts : List TypeId} (h : argsAll P n ts = true) : ∀ t ∈ ts, supT P n t = true ∧ (ekOf P t).isSome = true ∧ P.readableRec t = true ∧ t < P.types.size := by
  intro t ht
  have := List.all_eq_true.1 h t ht
  simp only [Bool.and_eq_true, decide_eq_true_eq] at this
  exact ⟨this.1.1.1, this.1.1.2, this.1.2, this.2⟩
theorem args4 : argsAll Try.prog 6 Try.f4.params.toList = true := by kernel_rfl
theorem ek22 : ekOf Try.prog 22 = some none := by kernel_rfl
theorem ek33 : ekOf Try.prog 33 = some (some 7) := by kernel_rfl

theorem tok_of {n : Nat} {zs : List CV} (h : CellsT Try.prog (n + 2) 33 zs) : ∃ t : Tok, tokC t = .agg zs := by
  unfold CellsT at h
  rw [Try.underlying33] at h
  simp only [FieldsT, CellsT, Try.underlying31, Try.underlying9, Try.underlying3, Try.underlying4] at h
  obtain ⟨_, _, rfl, ⟨a, rfl, _⟩, _, _, rfl, ⟨b, rfl, _⟩, _, _, rfl, ⟨c, rfl, _⟩, _, _, rfl, ⟨d, rfl, _⟩, _, _, rfl, ⟨e, rfl⟩, _, _, rfl, ⟨f, rfl, _⟩, _, _, rfl, ⟨g, rfl, _⟩, rfl⟩ := h
  exact ⟨⟨a, b, c, d, e, f, g⟩, rfl⟩
theorem toks_all {n : Nat} : ∀ (ys : List CV), (∀ y ∈ ys, ∃ zs, CellsT Try.prog (n + 2) 33 zs ∧ zs.length = ekSize (some 7) ∧ unflat (some 7) zs = some y) → ∃ l : List Tok, ys = l.map tokC := by
  intro ys
  induction ys with
  | nil => intro _; exact ⟨[], rfl⟩
  | cons y ys ih =>
    intro h
    obtain ⟨zs, h1, _, h3⟩ := h y (by simp)
    obtain ⟨t, ht⟩ := tok_of h1
    obtain ⟨l, rfl⟩ := ih (fun y hy => h y (by simp [hy]))
    simp only [unflat, Option.some.injEq] at h3
    exact ⟨t :: l, by rw [← h3, ← ht]; rfl⟩
theorem toks_of {xs : List CV} (h : ArgsOk Try.prog 6 [22] xs) : ∃ l : List Tok, xs = [.frz (some 7) (l.map tokC)] := by
  match xs, h with
  | [x], h =>
    obtain ⟨⟨zs, ek, h1, h2, h3, h4⟩, _⟩ := h
    rw [ek22] at h1
    injection h1 with h1; subst h1
    unfold CellsT at h2
    rw [Try.underlying22] at h2
    obtain ⟨ek, ys, rfl, _, h5, h6⟩ := h2
    rw [ek33] at h5
    injection h5 with h5; subst h5
    obtain ⟨l, rfl⟩ := toks_all (n := 3) ys h6
    simp only [unflat, List.getElem?_cons_zero, Option.some.injEq] at h4
    exact ⟨l, by rw [← h4]⟩

theorem envR : EnvR Vv Ev := ⟨rfl, rfl⟩
theorem bulk_pos {H : Type} (d : DataW H) : 1 ≤ Rows.uptoBulk d := by
  cases d with
  | lit x => cases x <;> simp [Rows.uptoBulk]
  | _ => simp [Rows.uptoBulk]
theorem bulk_len {H : Type} : ∀ (l : List (DataW H)), l.length ≤ Rows.uptoBulkAll l := by
  intro l
  induction l with
  | nil => simp
  | cons d l ih =>
    have := bulk_pos d
    simp only [Rows.uptoBulkAll, List.length_cons]
    omega
theorem layoutBalanced_lifted (os : Os) (started : os.Started) (H : Type) (enc : TypeId × Value → H) (F : Stop.Interp) :
    ReturnsInHanded {} Try.checked os 4 .any ((Rows.OpenSpec.upto Rows.layoutBalancedSpec).pre6 enc Try.prog Try.f4 Rows.layoutBalancedUptoRow.domain false) (((Rows.OpenSpec.upto Rows.layoutBalancedSpec).at F).post enc Try.prog Try.f4 false true false false) := by
  refine returnsInHanded_of_cond (C := Try.checked) (s := Rows.OpenSpec.upto Rows.layoutBalancedSpec) (k := Rows.uptoSmall) rfl Try.own started (by kernel_rfl) Try.func4
    (OpenSpec.witness (enc := enc) (C := Try.checked) (k := Rows.uptoSmall) rfl false ⟨#[], #[.slice none 0 0], []⟩ 8 (by kernel_rfl) (by kernel_rfl) (by kernel_rfl) (x := ([.nil], [], [])) (by kernel_rfl) (by kernel_rfl) (by kernel_rfl)) ?_
  intro W base args ds gs before hval0 hW hcnd hk _
  have hlaw : ∀ xs, ArgsOk Try.prog 6 Try.f4.params.toList xs → RCs W (fun b => b < W.heap.size) xs args.toList → ∃ H', ev Ev 4 (xs.map .c) [] = some (.c (.bool true), H') := by
    intro xs hxs hrc
    rw [Try.params4] at hxs
    obtain ⟨l, rfl⟩ := toks_of hxs
    obtain ⟨p, q, hA, hV, _, _, _⟩ := hW
    rw [Try.params4] at hA
    obtain ⟨v0, d0, ha, hd, h0⟩ := trodAll_one hA
    rw [ha, rcs_cons] at hrc
    obtain ⟨v, vs, hv, hr, _⟩ := hrc
    injection hv with hv1 hv2
    subst hv1
    unfold RC at hr
    obtain ⟨a, cap, hs, _, _⟩ := hr
    obtain ⟨fuel, h0⟩ := h0
    have hb : Rows.uptoBulkAll (ds ++ gs) ≤ 1048576 := of_decide_eq_true hk
    have hlen : l.length < 4000000 := by
      rcases slice_read Try.underlying22 hs h0 with h | ⟨elems, sp, h1, h2⟩
      · rw [List.length_map] at h; omega
      · rw [List.length_map] at h2
        have := bulk_len elems
        rw [hd, h1] at hb
        simp only [List.cons_append, Rows.uptoBulkAll, Rows.uptoBulk] at hb
        omega
    obtain ⟨H', h⟩ := law4w l hlen
    exact wv_ev envR h
  exact law_callsR (P := Try.prog) evOk Try.laidOut (argsAll_spec args4) (tb := 4) rfl (by kernel_rfl) rfl (fun ds h => by match ds, h with | [d], _ => rfl) hlaw hval0 hW
theorem layoutBalanced_holds : Rows.LayoutBalancedUptoSaid :=
  OpenClaim.holds_of_cond 4 Try.f4 rfl rfl rfl rfl rfl rfl rfl ⟨rfl, rfl, rfl, rfl, rfl⟩ rfl rfl rfl rfl rfl (by kernel_rfl) Try.func4 (by kernel_rfl)
    (of_decide_eq_true (by kernel_rfl)) (by unfold Func.isWrapper; first | (rw [if_pos (by decide +kernel)]; kernel_rfl) | (rw [if_neg (by decide +kernel)]; exact ⟨rfl, rfl⟩))
    (fun os started H enc _ F => by rw [OpenClaim.pre_of_none' rfl]; exact layoutBalanced_lifted os started H enc F)
end Go.Proofs.Ytmjofajbfondhaa
