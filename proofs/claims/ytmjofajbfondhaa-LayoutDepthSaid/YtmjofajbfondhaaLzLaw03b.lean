/- Layout: Depth's law on the evaluator. -/
import Derived.Test.YtmjofajbfondhaaLzLaw03a
import Derived.Test.YtmjofajbfondhaaLzRow2
import Derived.KernelRfl
namespace Go.Proofs.TryL
open Go.Proofs.Lz

def K14 (l : List Tok) (o m : Int) (i : Nat) : Fr := { env := assoc [(0, .c (.frz (some 7) (l.map tokC))), (3, .c (.int .i64 o)), (4, .c (.int .i64 m)), (5, .c (.int .i64 i))], al := noAl }
theorem round14 (l : List Tok) (o m : Int) (i : Nat) (t : Tok) (hi : l[i]? = some t) (hl : l.length < 1000000000) (ho : -(i : Int) ≤ o ∧ o ≤ i) (H : Heap) :
    ∃ fr1, evC Ev (ev Ev) itW lp14_1 (K14 l o m i) H = some (.nrm, fr1, H) ∧ keep [0, 3, 4, 5] fr1 = K14 l (dstep o t) (max m (dstep o t)) (i + 1) := by
  have hlt : i < l.length := (List.getElem?_eq_some_iff.1 hi).1
  have hgi : l[i] = t := (List.getElem?_eq_some_iff.1 hi).2
  have w1 : IntKind.i64.wrap (o + 1) = o + 1 := wrap_id (by omega) (by omega)
  have w2 : IntKind.i64.wrap (o - 1) = o - 1 := wrap_id (by omega) (by omega)
  have w3 : IntKind.i64.wrap o = o := wrap_id (by omega) (by omega)
  have w4 : IntKind.i64.wrap ((i : Int) + 1) = (i : Int) + 1 := wrap_id (by omega) (by omega)
  have hg : tokC t = .agg t.cells := rfl
  have hcl : t.cells.length = 7 := rfl
  have s1 := special35 t [123] []
  have s2 := special35 t [125] []
  rw [hg] at s1 s2
  by_cases h1 : special t [123] = true <;> by_cases h2 : special t [125] = true <;> simp [lp14_1, K14, hlt, hgi, hg, hcl, s1, s2, h1, h2, dstep, w1, w2, w3, w4]
theorem loop14 (l : List Tok) (hl : l.length < 1000000000) (H : Heap) : ∀ (k i : Nat) (o m : Int), i + k = l.length → -(i : Int) ≤ o ∧ o ≤ i → ∀ fr, keep [0, 3, 4, 5] fr = K14 l o m i →
    ∃ fr', evC Ev (ev Ev) itW (.loop [0, 3, 4, 5] lp14_1) fr H = some (.exit 0, fr', H) ∧ fr'.env 4 = .c (.int .i64 (most o m (l.drop i))) := by
  intro k
  induction k with
  | zero =>
    intro i o m hi ho fr hk
    have : i = l.length := by omega
    subst this
    rw [ev_loop, itW_eq, hk]
    simp [lp14_1, K14, most]
  | succ k ih =>
    intro i o m hi ho fr hk
    have hlt : i < l.length := by omega
    obtain ⟨fr1, h1, h2⟩ := round14 l o m i l[i] (by simp [hlt]) hl ho H
    rw [ev_loop, itW_eq, hk, h1]
    dsimp only
    obtain ⟨fr', h3, h4⟩ := ih (i + 1) (dstep o l[i]) (max m (dstep o l[i])) (by omega) (dstep_in ho) fr1 h2
    rw [ev_loop] at h3
    refine ⟨fr', h3, ?_⟩
    rw [h4, List.drop_eq_getElem_cons hlt]
    rfl
theorem depth14 (l : List Tok) (hl : l.length < 1000000000) (H : Heap) : ev Ev 14 [.c (.frz (some 7) (l.map tokC))] H = some (.c (.int .i64 (most 0 0 l)), H) := by
  rw [ev_eq, runFn, fn14]
  simp [ic14]
  generalize hX : ({ env := _, al := _ } : Fr) = X
  obtain ⟨fr', h1, h2⟩ := loop14 l hl H l.length 0 0 0 (by omega) (by omega) X (by subst hX; simp [K14])
  rw [h1]
  simp [h2]

/-! ### the law -/
theorem most_append : ∀ (a b : List Tok) (o m : Int), most o m (a ++ b) = most (a.foldl dstep o) (most o m a) b := by
  intro a
  induction a with
  | nil => intro b o m; rfl
  | cons t a ih => intro b o m; simp only [List.cons_append, most, List.foldl_cons]; exact ih b _ _
theorem most_ge : ∀ (l : List Tok) (o m : Int), m ≤ most o m l := by
  intro l
  induction l with
  | nil => intro o m; exact Int.le_refl _
  | cons t l ih => intro o m; have := ih (dstep o t) (max m (dstep o t)); simp only [most]; omega
theorem most_last : ∀ (l : List Tok) (o m : Int), o ≤ m → l.foldl dstep o ≤ most o m l := by
  intro l
  induction l with
  | nil => intro o m h; exact h
  | cons t l ih => intro o m h; simp only [most, List.foldl_cons]; exact ih _ _ (by omega)
theorem dstep_add (o : Int) (t : Tok) : dstep (o + 1) t = dstep o t + 1 := by
  unfold dstep
  dsimp only
  split <;> split <;> omega
theorem most_add : ∀ (l : List Tok) (o m : Int), most (o + 1) (m + 1) l = most o m l + 1 := by
  intro l
  induction l with
  | nil => intro o m; rfl
  | cons t l ih =>
    intro o m
    simp only [most]
    rw [dstep_add]
    have : max (m + 1) (dstep o t + 1) = max m (dstep o t) + 1 := by omega
    rw [this, ih]
theorem foldl_add : ∀ (l : List Tok) (o : Int), l.foldl dstep (o + 1) = l.foldl dstep o + 1 := by
  intro l
  induction l with
  | nil => intro o; rfl
  | cons t l ih => intro o; simp only [List.foldl_cons]; rw [dstep_add, ih]
theorem around (l : List Tok) : most 0 0 ([mkTok 8 [123]] ++ l ++ [mkTok 8 [125]]) = most 0 0 l + 1 := by
  rw [most_append, most_append]
  have e1 : ([mkTok 8 [123]].foldl dstep 0) = 0 + 1 := rfl
  have e2 : most 0 0 [mkTok 8 [123]] = 0 + 1 := rfl
  rw [List.foldl_append, e1, e2, most_add, foldl_add]
  have e3 : ∀ o : Int, dstep o (mkTok 8 [125]) = o - 1 := fun o => rfl
  have h := most_last l 0 0 (Int.le_refl _)
  simp only [most, e3]
  omega
theorem most_le : ∀ (l : List Tok) (o m : Int) (b : Int), o ≤ b → m ≤ b → most o m l ≤ b + l.length := by
  intro l
  induction l with
  | nil => intro o m b h1 h2; simp [most]; exact h2
  | cons t l ih =>
    intro o m b h1 h2
    have hd : dstep o t ≤ o + 1 := by unfold dstep; dsimp only; split <;> split <;> omega
    have := ih (dstep o t) (max m (dstep o t)) (b + 1) (by omega) (by omega)
    simp only [most, List.length_cons]
    omega

@[simp] theorem fn5 : Ev.fn 5 = some ic5 := rfl
@[simp] theorem md7 : Ev.md 7 = .P := rfl
@[simp] theorem md8 : Ev.md 8 = .P := rfl
@[simp] theorem md12 : Ev.md 12 = .P := rfl
@[simp] theorem md13 : Ev.md 13 = .P := rfl
@[simp] theorem md14 : Ev.md 14 = .P := rfl
def isT (r : Option (HV × Heap)) : Bool := match r with
  | some (.c (.bool true), _) => true
  | _ => false
theorem isT_some {r : Option (HV × Heap)} (h : isT r = true) : ∃ H, r = some (.c (.bool true), H) := by
  unfold isT at h
  split at h
  · exact ⟨_, rfl⟩
  · cases h
theorem ex8f : isT (evF Ev 40 8 [] []) = true := by kernel_rfl
theorem ex8 : ∃ H, ev Ev 8 [] [] = some (.c (.bool true), H) := by
  obtain ⟨H, h⟩ := isT_some ex8f
  exact ⟨H, ev_of h⟩

theorem bnds (n : Nat) (h : n ≤ 3000) : (n + 1) * 72 ≤ 140737488355328 ∧ n + 1 ≤ 140737488355328 ∧ (n + 1 + 1) * 72 ≤ 140737488355328 ∧ n + 1 + 1 ≤ 140737488355328 :=
  ⟨Nat.le_trans (Nat.mul_le_mul_right 72 (Nat.add_le_add_right h 1)) (by decide), Nat.le_trans (Nat.add_le_add_right h 1) (by decide), Nat.le_trans (Nat.mul_le_mul_right 72 (Nat.add_le_add_right h 2)) (by decide), Nat.le_trans (Nat.add_le_add_right h 2) (by decide)⟩
set_option maxHeartbeats 400000 in
theorem law5 (l : List Tok) : ∃ H', ev Ev 5 [.c (.frz (some 7) (l.map tokC))] [] = some (.c (.bool true), H') := by
  obtain ⟨H8, h8⟩ := ex8
  have h7 := few7 (some 7) (l.map tokC) []
  rw [ev_eq, runFn, fn5]
  by_cases hf : l.length ≤ 3000
  · have h12 := depth12 l (by omega) []
    have h12' := depth12 ([mkTok 8 [123]] ++ l ++ [mkTok 8 [125]]) (by simp; omega) []
    rw [around] at h12'
    have h14 := depth14 l (by omega) []
    have hw : IntKind.i64.wrap (most 0 0 l + 1) = most 0 0 l + 1 := by
      have := most_ge l 0 0
      have := most_le l 0 0 0 (by omega) (by omega)
      exact wrap_id (by omega) (by omega)
    have q1 := word13 8 [123] []
    have q2 := word13 8 [125] []
    have hg : ∀ t, tokC t = .agg t.cells := fun _ => rfl
    have hcl : ∀ t : Tok, t.cells.length = 7 := fun _ => rfl
    have h12'' : ev Ev 12 [HV.c (CV.frz (some 7) (CV.agg (mkTok 8 [123]).cells :: (List.map tokC l ++ [CV.agg (mkTok 8 [125]).cells])))] [] = some (.c (.int .i64 (most 0 0 l + 1)), []) := by simpa [tokC] using h12'
    have e0 : 1 + l.length = l.length + 1 := Nat.add_comm _ _
    obtain ⟨b1, b2, b3, b4⟩ := bnds l.length hf
    have tk1 : List.take l.length (List.map tokC l) = List.map tokC l := List.take_of_length_le (by simp)
    have tk2 : ∀ x, List.take (l.length + 1) (List.map tokC l ++ [x]) = List.map tokC l ++ [x] := fun x => List.take_of_length_le (by simp)
    simp [ic5, h7, h8, hf, q1, q2, h12, h12'', h14, hw, lim, hcl, hg, e0, b1, b2, b3, b4, tk1, tk2]
  · simp [ic5, h7, h8, hf]
end Go.Proofs.TryL
