/- A calculus over the evaluator with slices as values: one operation a step, and what is left to show. -/
import Derived.Test.YtmjofajbfondhaaLzV03
set_option linter.unusedSimpArgs false
set_option linter.unusedVariables false
namespace Go.Proofs.Lz

/-- A frame's list, read. -/
def frl : List (Nat × WV) → Nat → WV
  | [], _ => .undef
  | (t, v) :: r, s => bif Nat.beq s t then v else frl r s
def lookA : List (Nat × Option (Nat × Nat)) → Nat → Option (Nat × Nat)
  | [], _ => none
  | (t, v) :: r, s => bif Nat.beq s t then v else lookA r s
def FL (l : List (Nat × WV)) (a : List (Nat × Option (Nat × Nat))) : WFr := { env := frl l, al := lookA a }
theorem beq_if {α : Type} (s t : Nat) (a b : α) : (bif Nat.beq s t then a else b) = if s = t then a else b := by
  by_cases h : s = t
  · subst h; simp
  · have : Nat.beq s t = false := by
      cases hb : Nat.beq s t with
      | true => exact absurd (Nat.eq_of_beq_eq_true hb) h
      | false => rfl
    rw [this, if_neg h]; rfl
theorem look_wassoc : ∀ l, frl l = wassoc l := by
  intro l
  induction l with
  | nil => rfl
  | cons p r ih =>
    funext s
    obtain ⟨t, v⟩ := p
    show (bif Nat.beq s t then v else frl r s) = if s = t then v else wassoc r s
    rw [beq_if, ih]
theorem FL_start (l : List (Nat × WV)) : ({ env := wassoc l, al := noAl } : WFr) = FL l [] := by
  unfold FL
  rw [look_wassoc]
  rfl
theorem FL_al (l : List (Nat × WV)) (a : List (Nat × Option (Nat × Nat))) : { FL l a with al := noAl } = FL l [] := rfl
theorem look_cons (l : List (Nat × WV)) (d : Nat) (v : WV) : upd (frl l) d v = frl ((d, v) :: l) := by
  funext s
  show (if s = d then v else frl l s) = (bif Nat.beq s d then v else frl l s)
  rw [beq_if]
theorem lookA_cons (l : List (Nat × Option (Nat × Nat))) (d : Nat) (v : Option (Nat × Nat)) : upd (lookA l) d v = lookA ((d, v) :: l) := by
  funext s
  show (if s = d then v else lookA l s) = (bif Nat.beq s d then v else lookA l s)
  rw [beq_if]
theorem lookA_nil (d : Nat) : upd (lookA []) d none = lookA [] := by
  funext s
  show (if s = d then none else none) = none
  split <;> rfl

theorem ff {p : Prop} (h : false = true) : p := absurd h Bool.false_ne_true
theorem ft {p : Prop} (h : true = false) : p := absurd h.symm Bool.false_ne_true
/-! ### a value put into its place -/
/-- The frame behind a put. -/
structure Put (fr : WFr) (dst : Option Nat) (v : WV) (fr' : WFr) : Prop where
  eq : fr.put dst v = fr'
theorem put_none {fr : WFr} {v : WV} : Put fr none v fr := ⟨rfl⟩
theorem put_c0 {l : List (Nat × WV)} {d : Nat} {u : CV} : Put (FL l []) (some d) (.c u) (FL ((d, .c u) :: l) []) := ⟨by
  show WFr.putD (FL l []) d (.c u) = _
  have : hasOwn (.c u) = false := rfl
  unfold WFr.putD
  rw [this]
  simp only [Bool.false_eq_true, if_false, WFr.put1, FL, look_cons, lookA_nil]⟩
theorem put_v0 {l : List (Nat × WV)} {d : Nat} {v : WV} (h : hasOwn v = false) : Put (FL l []) (some d) v (FL ((d, v) :: l) []) := ⟨by
  show WFr.putD (FL l []) d v = _
  unfold WFr.putD
  rw [h]
  simp only [Bool.false_eq_true, if_false, WFr.put1, FL, look_cons, lookA_nil]⟩
theorem put_v1 {l : List (Nat × WV)} {a : List (Nat × Option (Nat × Nat))} {d : Nat} {v : WV} (h : hasOwn v = false) : Put (FL l a) (some d) v (FL ((d, v) :: l) ((d, none) :: a)) := ⟨by
  show WFr.putD (FL l a) d v = _
  unfold WFr.putD
  rw [h]
  simp only [Bool.false_eq_true, if_false, WFr.put1, FL, look_cons, lookA_cons]⟩
theorem put_gen {fr : WFr} {d : Nat} {v : WV} (h : hasOwn v = false) : Put fr (some d) v (fr.put1 d v) := ⟨by
  show WFr.putD fr d v = _
  unfold WFr.putD
  rw [h]; rfl⟩
theorem put_own {fr : WFr} {d : Nat} {v : WV} (h : hasOwn v = true) : Put fr (some d) v ((hitF (isSlot d) false fr).put1 d v) := ⟨by
  show WFr.putD fr d v = _
  unfold WFr.putD
  rw [h]; rfl⟩

/-! ### statements -/
abbrev Post := WFr → WHeap → Prop
section
variable (V : WEnv)
structure OpP (o : IOp) (dst : Option Nat) (fr : WFr) (H : WHeap) (N : Post) : Prop where
  run : ∃ fr' H', wOp V (wv V) o dst fr H = some (fr', H') ∧ N fr' H'
structure VO (ops : List IOper) (fr : WFr) (H : WHeap) (N : Post) : Prop where
  run : ∃ fr' H', wOps V (wv V) ops fr H = some (fr', H') ∧ N fr' H'
structure OpD (c : Cls) (o : IOp) (dst : Option Nat) (fr : WFr) (H : WHeap) (N : Post) : Prop where
  run : ∃ fr' H', wD V (wv V) c o dst fr H = some (fr', H') ∧ N fr' H'
structure VD (ops : List (Cls × IOper)) (fr : WFr) (H : WHeap) (N : Post) : Prop where
  run : ∃ fr' H', wOpsD V (wv V) ops fr H = some (fr', H') ∧ N fr' H'
abbrev Hs := List (Nat × Post)
def exitK : Hs → Nat → Post
  | [], _, _, _ => False
  | (j, K) :: r, i, fr, H => bif Nat.beq i j then K fr H else exitK r i fr H
def outK (N : Post) (B : Hs) (R : Post) : Ex → Post
  | .nrm => N
  | .exit i => exitK B i
  | .ret => R
  | .goto _ => fun _ _ => False
/-- What is to be shown where a test comes out so. -/
structure Cnd (t b : Bool) (P : Prop) : Prop where
  go : t = b → P
theorem cnd_ff {P : Prop} : Cnd false true P := ⟨fun h => ff h⟩
theorem cnd_ft {P : Prop} : Cnd true false P := ⟨fun h => ft h⟩
theorem cnd_tt {P : Prop} (h : P) : Cnd true true P := ⟨fun _ => h⟩
theorem cnd_xx {P : Prop} (h : P) : Cnd false false P := ⟨fun _ => h⟩
theorem cnd_i {x y : Int} {P : Prop} (h : x = y → P) : Cnd (x == y) true P := ⟨fun e => h (eq_of_beq e)⟩
theorem cnd_s {x y : List UInt8} {P : Prop} (h : x = y → P) : Cnd (x == y) true P := ⟨fun e => h (eq_of_beq e)⟩
theorem cnd_iF {x y : Int} {P : Prop} (h : ¬ x = y → P) : Cnd (x == y) false P := ⟨fun e => h (fun q => by subst q; simp at e)⟩
theorem cnd_sF {x y : List UInt8} {P : Prop} (h : ¬ x = y → P) : Cnd (x == y) false P := ⟨fun e => h (fun q => by subst q; simp at e)⟩
theorem cnd_ni {x y : Int} {P : Prop} (h : ¬ x = y → P) : Cnd (x != y) true P := ⟨fun e => h (fun q => by subst q; simp at e)⟩
theorem cnd_ns {x y : List UInt8} {P : Prop} (h : ¬ x = y → P) : Cnd (x != y) true P := ⟨fun e => h (fun q => by subst q; simp at e)⟩
theorem cnd_niF {x y : Int} {P : Prop} (h : x = y → P) : Cnd (x != y) false P := ⟨fun e => h (by simpa using e)⟩
theorem cnd_nsF {x y : List UInt8} {P : Prop} (h : x = y → P) : Cnd (x != y) false P := ⟨fun e => h (by simpa using e)⟩
theorem cnd_ns' {x y : List UInt8} {P : Prop} (h : ¬ x = y → P) : Cnd (!(x == y)) true P := ⟨fun e => h (fun q => by subst q; simp at e)⟩
theorem cnd_nsF' {x y : List UInt8} {P : Prop} (h : x = y → P) : Cnd (!(x == y)) false P := ⟨fun e => h (by simpa using e)⟩
theorem cnd_d {p : Prop} {inst : Decidable p} {P : Prop} (h : p → P) : Cnd (@decide p inst) true P := ⟨fun e => h (of_decide_eq_true e)⟩
theorem cnd_dF {p : Prop} {inst : Decidable p} {P : Prop} (h : ¬ p → P) : Cnd (@decide p inst) false P := ⟨fun e => h (of_decide_eq_false e)⟩
theorem cnd_n {t b : Bool} {P : Prop} (h : Cnd t (!b) P) : Cnd (!t) b P := ⟨fun e => h.go (by cases t <;> cases b <;> simp_all)⟩
theorem cnd_nT {t : Bool} {P : Prop} (h : Cnd t false P) : Cnd (!t) true P := cnd_n h
theorem cnd_nF {t : Bool} {P : Prop} (h : Cnd t true P) : Cnd (!t) false P := cnd_n h
theorem cnd_x {t b : Bool} {P : Prop} (h : t = b → P) : Cnd t b P := ⟨h⟩
/-- Both, kept apart from what is to be shown in the end. -/
structure Dand (a b : Prop) : Prop where
  one : a
  two : b
theorem dand {a b : Prop} (h1 : a) (h2 : b) : Dand a b := ⟨h1, h2⟩
structure WP (c : ICode) (fr : WFr) (H : WHeap) (N : Post) (B : Hs) (R : Post) : Prop where
  run : ∃ s fr' H', wC V (wv V) witW c fr H = some (s, fr', H') ∧ outK N B R s fr' H'
end
section
variable {V : WEnv} {fr fr' : WFr} {H H' : WHeap} {N : Post} {B : Hs} {R : Post} {dst : Option Nat} {d : Nat}

theorem wp_skip (h : N fr H) : WP V .skip fr H N B R := ⟨_, _, _, rfl, h⟩
theorem wp_ret (h : R fr H) : WP V .ret fr H N B R := ⟨_, _, _, rfl, h⟩
theorem wp_exit {i : Nat} (h : exitK B i fr H) : WP V (.exit i) fr H N B R := ⟨_, _, _, rfl, h⟩
theorem exit_here {i : Nat} {K : Post} {r : Hs} (h : K fr H) : exitK ((i, K) :: r) i fr H := by
  show bif Nat.beq i i then K fr H else _
  rw [beq_if, if_pos rfl]; exact h
theorem exit_next {i j : Nat} {K : Post} {r : Hs} (hj : Nat.beq i j = false) (h : exitK r i fr H) : exitK ((j, K) :: r) i fr H := by
  show bif Nat.beq i j then K fr H else _
  rw [hj]; exact h
def lookB : Hs → Nat → Option Post
  | [], _ => none
  | (j, K) :: r, i => bif Nat.beq i j then some K else lookB r i
theorem exit_go {i : Nat} {K : Post} : ∀ {B : Hs}, lookB B i = some K → K fr H → exitK B i fr H := by
  intro B
  induction B with
  | nil => intro h; cases h
  | cons p r ih =>
    obtain ⟨j, K'⟩ := p
    intro h hk
    have h : (bif Nat.beq i j then some K' else lookB r i) = some K := h
    show bif Nat.beq i j then K' fr H else exitK r i fr H
    cases hb : Nat.beq i j with
    | true => rw [hb] at h; injection h with h; subst h; exact hk
    | false => rw [hb] at h; exact ih h hk
theorem wp_seq {a b : ICode} (h : WP V a fr H (fun fr' H' => WP V b fr' H' N B R) B R) : WP V (.seq a b) fr H N B R := by
  obtain ⟨s, fr1, H1, h1, h2⟩ := h
  cases s with
  | nrm =>
    obtain ⟨s, fr2, H2, h3, h4⟩ := h2
    exact ⟨s, fr2, H2, by rw [w_seq, h1]; exact h3, h4⟩
  | exit i => exact ⟨.exit i, fr1, H1, by rw [w_seq, h1], h2⟩
  | goto l => exact ⟨.goto l, fr1, H1, by rw [w_seq, h1], h2⟩
  | ret => exact ⟨.ret, fr1, H1, by rw [w_seq, h1], h2⟩
theorem wp_block {i : Nat} {a : ICode} (h : WP V a fr H N ((i, N) :: B) R) : WP V (.block i a) fr H N B R := by
  obtain ⟨s, fr1, H1, h1, h2⟩ := h
  cases s with
  | nrm => exact ⟨.nrm, _, _, by rw [w_block, h1], h2⟩
  | exit j =>
    by_cases hj : j = i
    · subst hj
      refine ⟨.nrm, fr1, H1, by rw [w_block, h1]; simp only [if_true], ?_⟩
      have : (bif Nat.beq j j then N fr1 H1 else exitK B j fr1 H1) := h2
      rw [beq_if, if_pos rfl] at this
      exact this
    · refine ⟨.exit j, fr1, H1, by rw [w_block, h1]; simp only [if_neg hj], ?_⟩
      have : (bif Nat.beq j i then N fr1 H1 else exitK B j fr1 H1) := h2
      rw [beq_if, if_neg hj] at this
      exact this
  | goto l => exact ⟨.goto l, _, _, by rw [w_block, h1], h2⟩
  | ret => exact ⟨.ret, _, _, by rw [w_block, h1], h2⟩
theorem wp_region {ops : List IOper} (h : VO V ops { fr with al := noAl } H N) : WP V (.region ops) fr H N B R := by
  obtain ⟨fr1, H1, h1, h2⟩ := h
  exact ⟨.nrm, _, _, by rw [w_region, h1], h2⟩
theorem wp_region0 {ops : List IOper} {l : List (Nat × WV)} {a : List (Nat × Option (Nat × Nat))} (h : VO V ops (FL l []) H N) : WP V (.region ops) (FL l a) H N B R := wp_region h
theorem wp_regionD {ops : List (Cls × IOper)} (h : VD V ops { fr with al := noAl } H N) : WP V (.regionD ops) fr H N B R := by
  obtain ⟨fr1, H1, h1, h2⟩ := h
  exact ⟨.nrm, _, _, by rw [w_regionD, h1], h2⟩
theorem wp_regionD0 {ops : List (Cls × IOper)} {l : List (Nat × WV)} {a : List (Nat × Option (Nat × Nat))} (h : VD V ops (FL l []) H N) : WP V (.regionD ops) (FL l a) H N B R := wp_regionD h
/-! branches -/
theorem wp_cond {x : Opd} {a b : ICode} {t : Bool} (hx : fr.rd x = .c (.bool t)) (h1 : t = true → WP V a fr H N B R) (h2 : t = false → WP V b fr H N B R) : WP V (.cond x a b) fr H N B R := by
  cases t with
  | true =>
    obtain ⟨s, fr1, H1, g1, g2⟩ := h1 rfl
    exact ⟨s, fr1, H1, by rw [w_cond, hx]; exact g1, g2⟩
  | false =>
    obtain ⟨s, fr1, H1, g1, g2⟩ := h2 rfl
    exact ⟨s, fr1, H1, by rw [w_cond, hx]; exact g1, g2⟩
theorem wp_if {x : Opd} {a b : ICode} {t : Bool} (hx : fr.rd x = .c (.bool t)) (h1 : Cnd t true (WP V a fr H N B R)) (h2 : Cnd t false (WP V b fr H N B R)) : WP V (.cond x a b) fr H N B R := wp_cond hx h1.go h2.go
theorem wp_cond_t {x : Opd} {a b : ICode} {t : Bool} (hx : fr.rd x = .c (.bool t)) (ht : t = true) (h1 : WP V a fr H N B R) : WP V (.cond x a b) fr H N B R := wp_cond hx (fun _ => h1) (fun h => by rw [ht] at h; cases h)
theorem wp_cond_f {x : Opd} {a b : ICode} {t : Bool} (hx : fr.rd x = .c (.bool t)) (ht : t = false) (h1 : WP V b fr H N B R) : WP V (.cond x a b) fr H N B R := wp_cond hx (fun h => by rw [ht] at h; cases h) (fun _ => h1)

/-! operations one by one -/
theorem wo_nil (h : N fr H) : VO V [] fr H N := ⟨_, _, rfl, h⟩
theorem wo_cons {o : IOp} {r : List IOper} (h : OpP V o dst fr H (fun fr' H' => VO V r fr' H' N)) : VO V (⟨dst, none, o⟩ :: r) fr H N := by
  obtain ⟨fr1, H1, h1, fr2, H2, h2, h3⟩ := h
  refine ⟨fr2, H2, ?_, h3⟩
  show (match wStp V (wv V) ⟨dst, none, o⟩ fr H with
    | some (fr', H') => wOps V (wv V) r fr' H'
    | none => none) = _
  have : wStp V (wv V) ⟨dst, none, o⟩ fr H = wOp V (wv V) o dst fr H := rfl
  rw [this, h1]
  exact h2
theorem stp_g {o : IOp} {s : Nat} {w b : Bool} (hs : fr.env s = .c (.bool b)) : wStp V (wv V) ⟨dst, some (s, w), o⟩ fr H = if b = w then wOp V (wv V) o dst fr H else some (fr.put dst .skipv, H) := by
  show (match fr.env s with
    | .c (.bool b) => if b = w then wOp V (wv V) o dst fr H else some (fr.put dst .skipv, H)
    | .skipv => some (fr.put dst .skipv, H)
    | _ => none) = _
  rw [hs]
theorem wo_run {o : IOp} {r : List IOper} {s : Nat} {w b : Bool} (hs : fr.env s = .c (.bool b)) (hb : b = w) (h : OpP V o dst fr H (fun fr' H' => VO V r fr' H' N)) : VO V (⟨dst, some (s, w), o⟩ :: r) fr H N := by
  obtain ⟨fr1, H1, h1, fr2, H2, h2, h3⟩ := h
  refine ⟨fr2, H2, ?_, h3⟩
  show (match wStp V (wv V) ⟨dst, some (s, w), o⟩ fr H with
    | some (fr', H') => wOps V (wv V) r fr' H'
    | none => none) = _
  rw [stp_g hs, if_pos hb, h1]
  exact h2
theorem wo_skip {o : IOp} {r : List IOper} {s : Nat} {w b : Bool} (hs : fr.env s = .c (.bool b)) (hb : b = !w) (hp : Put fr dst .skipv fr') (h : VO V r fr' H N) : VO V (⟨dst, some (s, w), o⟩ :: r) fr H N := by
  obtain ⟨fr2, H2, h2, h3⟩ := h
  refine ⟨fr2, H2, ?_, h3⟩
  show (match wStp V (wv V) ⟨dst, some (s, w), o⟩ fr H with
    | some (fr', H') => wOps V (wv V) r fr' H'
    | none => none) = _
  rw [stp_g hs, if_neg (by intro e; subst e; cases b <;> cases hb), hp.eq]
  exact h2
theorem wo_skip_t {o : IOp} {r : List IOper} {s : Nat} {b : Bool} (hs : fr.env s = .c (.bool b)) (hb : b = false) (hp : Put fr dst .skipv fr') (h : VO V r fr' H N) : VO V (⟨dst, some (s, true), o⟩ :: r) fr H N := wo_skip hs hb hp h
theorem wo_skip_f {o : IOp} {r : List IOper} {s : Nat} {b : Bool} (hs : fr.env s = .c (.bool b)) (hb : b = true) (hp : Put fr dst .skipv fr') (h : VO V r fr' H N) : VO V (⟨dst, some (s, false), o⟩ :: r) fr H N := wo_skip hs hb hp h
theorem wo_skips {o : IOp} {r : List IOper} {s : Nat} {w : Bool} (hs : fr.env s = .skipv) (hp : Put fr dst .skipv fr') (h : VO V r fr' H N) : VO V (⟨dst, some (s, w), o⟩ :: r) fr H N := by
  obtain ⟨fr2, H2, h2, h3⟩ := h
  refine ⟨fr2, H2, ?_, h3⟩
  show (match (match fr.env s with
    | .c (.bool b) => if b = w then wOp V (wv V) o dst fr H else some (fr.put dst .skipv, H)
    | .skipv => some (fr.put dst .skipv, H)
    | _ => none) with
    | some (fr', H') => wOps V (wv V) r fr' H'
    | none => none) = _
  rw [hs, hp.eq]
  exact h2
/-- A guard's value becomes known. -/
theorem look_same {l : List (Nat × WV)} {s : Nat} {v : WV} (h : frl l s = v) : frl l = frl ((s, v) :: l) := by
  rw [← look_cons]
  funext x
  show frl l x = if x = s then v else frl l x
  by_cases hx : x = s
  · subst hx; rw [if_pos rfl, h]
  · rw [if_neg hx]
theorem FL_same {l : List (Nat × WV)} {a : List (Nat × Option (Nat × Nat))} {s : Nat} {v : WV} (h : (FL l a).env s = v) : FL l a = FL ((s, v) :: l) a := by
  unfold FL
  rw [← look_same h]
theorem upd_same {fr : WFr} {s : Nat} {v : WV} (h : fr.env s = v) : fr = { env := upd fr.env s v, al := fr.al } := by
  cases fr with
  | mk env al =>
    congr 1
    funext x
    show env x = if x = s then v else env x
    by_cases hx : x = s
    · subst hx; rw [if_pos rfl]; exact h
    · rw [if_neg hx]
theorem wo_split {l : List (Nat × WV)} {a : List (Nat × Option (Nat × Nat))} {o : IOp} {r : List IOper} {s : Nat} {w b : Bool} (hs : (FL l a).env s = .c (.bool b))
    (h1 : b = true → VO V (⟨dst, some (s, w), o⟩ :: r) (FL ((s, .c (.bool true)) :: l) a) H N) (h2 : b = false → VO V (⟨dst, some (s, w), o⟩ :: r) (FL ((s, .c (.bool false)) :: l) a) H N) :
    VO V (⟨dst, some (s, w), o⟩ :: r) (FL l a) H N := by
  cases b with
  | true => rw [FL_same hs]; exact h1 rfl
  | false => rw [FL_same hs]; exact h2 rfl
theorem wo_if {l : List (Nat × WV)} {a : List (Nat × Option (Nat × Nat))} {o : IOp} {r : List IOper} {s : Nat} {w b : Bool} (hs : (FL l a).env s = .c (.bool b))
    (h1 : Cnd b true (VO V (⟨dst, some (s, w), o⟩ :: r) (FL ((s, .c (.bool true)) :: l) a) H N)) (h2 : Cnd b false (VO V (⟨dst, some (s, w), o⟩ :: r) (FL ((s, .c (.bool false)) :: l) a) H N)) :
    VO V (⟨dst, some (s, w), o⟩ :: r) (FL l a) H N := wo_split hs h1.go h2.go
end
end Go.Proofs.Lz
/- The calculus: operations on closed values, on slices of one's own, on local boxes; calls; results. -/
set_option linter.unusedSimpArgs false
set_option linter.unusedVariables false
namespace Go.Proofs.Lz
section
variable {V : WEnv} {fr fr' : WFr} {H H' : WHeap} {N : Post} {B : Hs} {R : Post} {dst : Option Nat} {d : Nat}

/-! ### frames behind a hit -/
def hitM (K : Pl → Bool) (fz : Bool) : List (Nat × WV) → List (Nat × WV)
  | [] => []
  | (s, v) :: r => (s, hit K fz (Pl.sl s) v) :: hitM K fz r
theorem hit_undef (K : Pl → Bool) (fz : Bool) (q : Nat → Nat → Pl) : hit K fz q .undef = .undef := rfl
theorem look_hitM (K : Pl → Bool) (fz : Bool) : ∀ l, frl (hitM K fz l) = fun s => hit K fz (Pl.sl s) (frl l s) := by
  intro l
  induction l with
  | nil => rfl
  | cons p r ih =>
    obtain ⟨t, v⟩ := p
    funext s
    show (bif Nat.beq s t then hit K fz (Pl.sl t) v else frl (hitM K fz r) s) = hit K fz (Pl.sl s) (bif Nat.beq s t then v else frl r s)
    rw [beq_if, beq_if, ih]
    by_cases hs : s = t
    · subst hs; simp only [if_true]
    · simp only [if_neg hs]
theorem hitF_FL (K : Pl → Bool) (fz : Bool) (l : List (Nat × WV)) (a : List (Nat × Option (Nat × Nat))) : hitF K fz (FL l a) = FL (hitM K fz l) a := by
  unfold hitF FL
  rw [look_hitM]
/-- No view of a slot's own. -/
def noVw1 (b : Nat) : WV → Bool
  | .view p _ _ _ _ _ => !isSlot b p
  | .eptr p _ _ _ _ => !isSlot b p
  | _ => true
def noVwC (b : Nat) : WV → Bool
  | .agg cs => cs.all (noVw1 b)
  | v => noVw1 b v
def noVw (b : Nat) : WV → Bool
  | .tup vs => vs.all (noVwC b)
  | .lbox _ v => noVwC b v
  | v => noVwC b v
def clean (b : Nat) : List (Nat × WV) → Bool
  | [] => true
  | (s, v) :: r => (Nat.beq s b || noVw b v) && clean b r
theorem slot_ne {b s i k : Nat} (h : s ≠ b) : isSlot b (.sl s i k) = false := by simp [isSlot, h]
section
variable {K : Pl → Bool} {b : Nat} (hK : ∀ p, K p = true → isSlot b p = true)
theorem hit1_clean (hK : ∀ p, K p = true → isSlot b p = true) {s i k : Nat} (hs : s ≠ b) {v : WV} (h : noVw1 b v = true) : hit1 K false (.sl s i k) v = v := by
  have key : ∀ p, isSlot b p = false → K p = false := by
    intro p hp
    cases hk : K p with
    | true => rw [hK p hk] at hp; cases hp
    | false => rfl
  cases v with
  | own bb e ek xs => simp only [hit1, key _ (slot_ne hs)]; rfl
  | view p bb off e ek xs =>
    have : isSlot b p = false := by simpa [noVw1] using h
    simp only [hit1, key p this]; rfl
  | eptr p i off ek x =>
    have : isSlot b p = false := by simpa [noVw1] using h
    simp only [hit1, key p this]; rfl
  | _ => rfl
theorem hitL_clean (hK : ∀ p, K p = true → isSlot b p = true) {s i : Nat} (hs : s ≠ b) : ∀ (k : Nat) (cs : List WV), cs.all (noVw1 b) = true → hitL K false (Pl.sl s i) k cs = cs := by
  intro k cs
  induction cs generalizing k with
  | nil => intro _; rfl
  | cons v r ih =>
    intro h
    simp only [List.all_cons, Bool.and_eq_true] at h
    simp only [hitL, hit1_clean hK hs h.1, ih _ h.2]
theorem hitC_clean (hK : ∀ p, K p = true → isSlot b p = true) {s i : Nat} (hs : s ≠ b) {v : WV} (h : noVwC b v = true) : hitC K false (Pl.sl s i) v = v := by
  have h1 : ∀ w, noVwC b w = noVw1 b w → hitC K false (Pl.sl s i) w = hit1 K false (Pl.sl s i 0) w → noVwC b w = true → hitC K false (Pl.sl s i) w = w := fun w e1 e2 e3 => by rw [e2]; exact hit1_clean hK hs (by rw [← e1]; exact e3)
  cases v <;> first | exact h1 _ rfl rfl h | (simp only [hitC]; rw [hitL_clean hK hs 0 _ h])
theorem hitT_clean (hK : ∀ p, K p = true → isSlot b p = true) {s : Nat} (hs : s ≠ b) : ∀ (i : Nat) (vs : List WV), vs.all (noVwC b) = true → hitT K false (Pl.sl s) i vs = vs := by
  intro i vs
  induction vs generalizing i with
  | nil => intro _; rfl
  | cons v r ih =>
    intro h
    simp only [List.all_cons, Bool.and_eq_true] at h
    simp only [hitT, hitC_clean hK hs h.1, ih _ h.2]
theorem hit_clean (hK : ∀ p, K p = true → isSlot b p = true) {s : Nat} (hs : s ≠ b) {v : WV} (h : noVw b v = true) : hit K false (Pl.sl s) v = v := by
  have h1 : ∀ w, noVw b w = noVwC b w → hit K false (Pl.sl s) w = hitC K false (Pl.sl s 0) w → noVw b w = true → hit K false (Pl.sl s) w = w := fun w e1 e2 e3 => by rw [e2]; exact hitC_clean hK hs (by rw [← e1]; exact e3)
  cases v <;> first | exact h1 _ rfl rfl h | (simp only [hit, hitT_clean hK hs 0 _ h]; done) | (simp only [hit]; rw [hitC_clean hK hs h])
theorem look_clean {s : Nat} (hs : s ≠ b) : ∀ {l : List (Nat × WV)}, clean b l = true → noVw b (frl l s) = true := by
  intro l
  induction l with
  | nil => intro _; rfl
  | cons p r ih =>
    obtain ⟨t, v⟩ := p
    intro h
    simp only [clean, Bool.and_eq_true, Bool.or_eq_true] at h
    show noVw b (bif Nat.beq s t then v else frl r s) = true
    rw [beq_if]
    by_cases hst : s = t
    · rw [if_pos hst]
      rcases h.1 with h1 | h1
      · exact absurd (hst.trans (Nat.eq_of_beq_eq_true h1)) hs
      · exact h1
    · rw [if_neg hst]; exact ih h.2
theorem upd_clean (hK : ∀ p, K p = true → isSlot b p = true) {l : List (Nat × WV)} {a : List (Nat × Option (Nat × Nat))} (h : clean b l = true) (v : WV) : upd (hitF K false (FL l a)).env b v = frl ((b, v) :: l) := by
  rw [← look_cons]
  funext s
  show (if s = b then v else hit K false (Pl.sl s) (frl l s)) = if s = b then v else frl l s
  by_cases hs : s = b
  · rw [if_pos hs, if_pos hs]
  · rw [if_neg hs, if_neg hs, hit_clean hK hs (look_clean hs h)]
end
theorem noVw1_hit {K : Pl → Bool} {fz : Bool} {b : Nat} {pl : Pl} {v : WV} (h : noVw1 b v = true) : noVw1 b (hit1 K fz pl v) = true := by
  cases v with
  | own bb e ek xs => cases h1 : K pl <;> cases fz <;> simp [hit1, h1, noVw1]
  | view p bb off e ek xs => cases h1 : K p <;> simp [hit1, h1, noVw1]; simpa [noVw1] using h
  | eptr p i off ek x => cases h1 : K p <;> simp [hit1, h1, noVw1]; simpa [noVw1] using h
  | _ => rfl
theorem noVwL_hit {K : Pl → Bool} {fz : Bool} {b : Nat} {q : Nat → Pl} : ∀ (k : Nat) (cs : List WV), cs.all (noVw1 b) = true → (hitL K fz q k cs).all (noVw1 b) = true := by
  intro k cs
  induction cs generalizing k with
  | nil => intro _; rfl
  | cons v r ih =>
    intro h
    simp only [List.all_cons, Bool.and_eq_true] at h
    simp only [hitL, List.all_cons, noVw1_hit h.1, ih _ h.2, Bool.and_self]
theorem hit1_kind {K : Pl → Bool} {fz : Bool} {pl : Pl} {v : WV} (h : ∀ cs, v ≠ .agg cs) : ∀ cs, hit1 K fz pl v ≠ .agg cs := by
  intro cs
  cases v with
  | agg l => exact absurd rfl (h l)
  | own bb e ek xs => cases h1 : K pl <;> cases fz <;> simp [hit1, h1]
  | view p bb off e ek xs => cases h1 : K p <;> simp [hit1, h1]
  | eptr p i off ek x => cases h1 : K p <;> simp [hit1, h1]
  | _ => simp [hit1]
theorem noVwC_hit {K : Pl → Bool} {fz : Bool} {b : Nat} {q : Nat → Pl} {v : WV} (h : noVwC b v = true) : noVwC b (hitC K fz q v) = true := by
  cases v with
  | agg cs => exact noVwL_hit 0 cs h
  | own bb e ek xs => cases h1 : K (q 0) <;> cases fz <;> simp [hitC, hit1, h1, noVwC, noVw1]
  | view p bb off e ek xs => cases h1 : K p <;> simp [hitC, hit1, h1, noVwC, noVw1]; simpa [noVwC, noVw1] using h
  | eptr p i off ek x => cases h1 : K p <;> simp [hitC, hit1, h1, noVwC, noVw1]; simpa [noVwC, noVw1] using h
  | _ => rfl
theorem noVwT_hit {K : Pl → Bool} {fz : Bool} {b : Nat} {q : Nat → Nat → Pl} : ∀ (i : Nat) (vs : List WV), vs.all (noVwC b) = true → (hitT K fz q i vs).all (noVwC b) = true := by
  intro i vs
  induction vs generalizing i with
  | nil => intro _; rfl
  | cons v r ih =>
    intro h
    simp only [List.all_cons, Bool.and_eq_true] at h
    simp only [hitT, List.all_cons, noVwC_hit h.1, ih _ h.2, Bool.and_self]
theorem noVw_hit {K : Pl → Bool} {fz : Bool} {b : Nat} {q : Nat → Nat → Pl} {v : WV} (h : noVw b v = true) : noVw b (hit K fz q v) = true := by
  cases v with
  | tup vs => exact noVwT_hit 0 vs h
  | lbox ek v => exact noVwC_hit (q := q 0) h
  | agg cs => exact noVwL_hit 0 cs h
  | own bb e ek xs => cases h1 : K (q 0 0) <;> cases fz <;> simp [hit, hitC, hit1, h1, noVw, noVwC, noVw1]
  | view p bb off e ek xs => cases h1 : K p <;> simp [hit, hitC, hit1, h1, noVw, noVwC, noVw1]; simpa [noVw, noVwC, noVw1] using h
  | eptr p i off ek x => cases h1 : K p <;> simp [hit, hitC, hit1, h1, noVw, noVwC, noVw1]; simpa [noVw, noVwC, noVw1] using h
  | _ => rfl
theorem clean_hit {K : Pl → Bool} {fz : Bool} {b : Nat} : ∀ {l : List (Nat × WV)}, clean b l = true → clean b (hitM K fz l) = true := by
  intro l
  induction l with
  | nil => intro _; rfl
  | cons p r ih =>
    obtain ⟨t, v⟩ := p
    intro h
    simp only [clean, Bool.and_eq_true, Bool.or_eq_true] at h
    simp only [hitM, clean, Bool.and_eq_true, Bool.or_eq_true]
    exact ⟨h.1.imp id noVw_hit, ih h.2⟩
theorem put_own0 {l : List (Nat × WV)} {v : WV} (ho : hasOwn v = true) (hc : clean d l = true) : Put (FL l []) (some d) v (FL ((d, v) :: l) []) := ⟨by
  show WFr.putD (FL l []) d v = _
  unfold WFr.putD
  rw [ho, if_pos rfl]
  unfold WFr.put1
  rw [upd_clean (fun _ h => h) hc]
  show ({ env := frl ((d, v) :: l), al := upd (lookA []) d none } : WFr) = _
  rw [lookA_nil]; rfl⟩
theorem put_own1 {l : List (Nat × WV)} {a : List (Nat × Option (Nat × Nat))} {v : WV} (ho : hasOwn v = true) : Put (FL l a) (some d) v (FL ((d, v) :: hitM (isSlot d) false l) ((d, none) :: a)) := ⟨by
  show WFr.putD (FL l a) d v = _
  unfold WFr.putD
  rw [ho, if_pos rfl, hitF_FL]
  simp only [WFr.put1, FL, look_cons, lookA_cons]⟩

/-! ### moves -/
theorem moveW_none {d s : Nat} {v : WV} (h : srcs v = []) : moveW d s v fr H = some (fr.put (some d) v, H) := by
  unfold moveW
  rw [h]
theorem op_mv_v {x : Opd} {v : WV} (hp : fr.place x = none) (hx : fr.rd x = v) (hv : okW v = true) (hs : srcs v = []) (hq : Put fr dst v fr') (h : N fr' H) : OpP V (.mv x) dst fr H N := by
  refine ⟨fr', H, ?_, h⟩
  show wOp0 (.mv x) dst fr H = _
  simp only [wOp0, hp, hx, if_pos hv]
  cases dst with
  | none => simp only [hq.eq]
  | some d =>
    cases x with
    | k c => simp only [hq.eq]
    | t s =>
      simp only
      split
      · rw [moveW_none hs, hq.eq]
      · rw [hq.eq]
theorem op_mv_c {x : Opd} {u : CV} (hp : fr.place x = none) (hx : fr.rd x = .c u) (hq : Put fr dst (.c u) fr') (h : N fr' H) : OpP V (.mv x) dst fr H N := op_mv_v hp hx rfl rfl hq h
theorem op_mv_nils {x : Opd} (hp : fr.place x = none) (hx : fr.rd x = .nils) (hq : Put fr dst .nils fr') (h : N fr' H) : OpP V (.mv x) dst fr H N := op_mv_v hp hx rfl rfl hq h
theorem op_mv_ptr {x : Opd} {id off : Nat} (hp : fr.place x = none) (hx : fr.rd x = .ptr id off) (hq : Put fr dst (.ptr id off) fr') (h : N fr' H) : OpP V (.mv x) dst fr H N := op_mv_v hp hx rfl rfl hq h
theorem op_mv_imm {x : Opd} {fz : Bool} {ek : Option Nat} {xs : List CV} (hp : fr.place x = none) (hx : fr.rd x = .imm fz ek xs) (hq : Put fr dst (.imm fz ek xs) fr') (h : N fr' H) : OpP V (.mv x) dst fr H N := op_mv_v hp hx rfl rfl hq h
theorem op_mv_skip {x : Opd} (hp : fr.place x = none) (hx : fr.rd x = .skipv) (hq : Put fr dst .skipv fr') (h : N fr' H) : OpP V (.mv x) dst fr H N := op_mv_v hp hx rfl rfl hq h
theorem op_mv_tup {x : Opd} {vs : List WV} (hp : fr.place x = none) (hx : fr.rd x = .tup vs) (hs : srcT vs = []) (hq : Put fr dst (.tup vs) fr') (h : N fr' H) : OpP V (.mv x) dst fr H N := op_mv_v hp hx rfl hs hq h
/-- A view kept as one: of a slot that stays. -/
theorem op_mv_view {s : Nat} {p : Pl} {b : Bool} {off e : Nat} {ek : Option Nat} {xs : List CV} (hp : fr.place (.t s) = none) (hx : fr.rd (.t s) = .view p b off e ek xs) (hd : (decide (d < s) && mineP s d p) = false) (hq : Put fr (some d) (.view p b off e ek xs) fr') (h : N fr' H) : OpP V (.mv (.t s)) (some d) fr H N := by
  refine ⟨fr', H, ?_, h⟩
  show wOp0 (.mv (.t s)) (some d) fr H = _
  simp only [wOp0, hp, hx, okW, if_true]
  split
  · rename_i hlt
    have hm : mineP s d p = false := by simpa [hlt] using hd
    unfold moveW
    simp only [srcs, srcC, src1, List.all_cons, hm, List.all_nil, Bool.and_true, Bool.false_eq_true, if_false, hq.eq]
  · rw [hq.eq]
theorem hitAll_sl {p i k : Nat} {l : List (Nat × WV)} {a : List (Nat × Option (Nat × Nat))} {fz : Bool} : hitAll [.sl p i k] fz (FL l a) H = (FL (hitM (inK [.sl p i k]) fz l) a, H) := by
  show (hitF (inK [.sl p i k]) fz (FL l a), hitH fz [.sl p i k] H) = _
  rw [hitF_FL]; rfl
/-- A slice of one's own goes to another slot. -/
theorem op_mv_take {s p : Nat} {b : Bool} {off e : Nat} {ek : Option Nat} {xs : List CV} {l : List (Nat × WV)} {a : List (Nat × Option (Nat × Nat))} (hp : (FL l a).place (.t s) = none) (hx : (FL l a).rd (.t s) = .view (.sl p 0 0) b off e ek xs)
    (hd : (decide (d < s) && mineP s d (.sl p 0 0)) = true) (hq : Put (FL (hitM (inK [.sl p 0 0]) false l) a) (some d) (.own b e ek xs) fr') (h : N fr' H) : OpP V (.mv (.t s)) (some d) (FL l a) H N := by
  refine ⟨fr', H, ?_, h⟩
  simp only [Bool.and_eq_true, decide_eq_true_eq] at hd
  show wOp0 (.mv (.t s)) (some d) (FL l a) H = _
  simp only [wOp0, hp, hx, okW, if_true, if_pos hd.1]
  unfold moveW
  have hn : ([Pl.sl p 0 0] : List Pl).Nodup := by simp
  simp only [srcs, srcC, src1, List.all_cons, hd.2, List.all_nil, Bool.and_true, if_true, Lz.take, if_pos hn, hitAll_sl, ownIt, ownItC, ownIt1, hq.eq]

/-! ### closed values -/
theorem op_un {op : UnOp} {x : Opd} {a v : CV} (hx : fr.rd x = .c a) (hv : unC op a = some v) (hq : Put fr dst (.c v) fr') (h : N fr' H) : OpP V (.un op x) dst fr H N :=
  ⟨fr', H, by show wOp0 (.un op x) dst fr H = _; simp only [wOp0, hx, hv, Option.map, wput, hq.eq], h⟩
theorem op_bin {op : BinOp} {x y : Opd} {a b v : CV} (hx : fr.rd x = .c a) (hy : fr.rd y = .c b) (hv : binC op a b = some v) (hq : Put fr dst (.c v) fr') (h : N fr' H) : OpP V (.bin op x y) dst fr H N :=
  ⟨fr', H, by show wOp0 (.bin op x y) dst fr H = _; simp only [wOp0, hx, hy, hv, Option.map, wput, hq.eq], h⟩
theorem wrap64 {x : Int} (h : -9223372036854775808 ≤ x ∧ x < 9223372036854775808) : IntKind.i64.wrap x = x := by
  simp [IntKind.wrap, IntKind.bits, IntKind.signed, IntKind.max, IntKind.min]
  omega
theorem op_add {x y : Opd} {a b : Int} (hx : fr.rd x = .c (.int .i64 a)) (hy : fr.rd y = .c (.int .i64 b)) (hb : -9223372036854775808 ≤ a + b ∧ a + b < 9223372036854775808) (hq : Put fr dst (.c (.int .i64 (a + b))) fr') (h : N fr' H) : OpP V (.bin .add x y) dst fr H N :=
  op_bin hx hy (by simp only [binC, if_true, wrap64 hb]) hq h
theorem op_sub {x y : Opd} {a b : Int} (hx : fr.rd x = .c (.int .i64 a)) (hy : fr.rd y = .c (.int .i64 b)) (hb : -9223372036854775808 ≤ a - b ∧ a - b < 9223372036854775808) (hq : Put fr dst (.c (.int .i64 (a - b))) fr') (h : N fr' H) : OpP V (.bin .sub x y) dst fr H N :=
  op_bin hx hy (by simp only [binC, if_true, wrap64 hb]) hq h
theorem op_mul {x y : Opd} {a b : Int} (hx : fr.rd x = .c (.int .i64 a)) (hy : fr.rd y = .c (.int .i64 b)) (hb : -9223372036854775808 ≤ a * b ∧ a * b < 9223372036854775808) (hq : Put fr dst (.c (.int .i64 (a * b))) fr') (h : N fr' H) : OpP V (.bin .mul x y) dst fr H N :=
  op_bin hx hy (by simp only [binC, if_true, wrap64 hb]) hq h
theorem op_cat {x y : Opd} {a b : List UInt8} (hx : fr.rd x = .c (.str a)) (hy : fr.rd y = .c (.str b)) (hb : a.length + b.length ≤ 9223372036854775807) (hq : Put fr dst (.c (.str (a ++ b))) fr') (h : N fr' H) : OpP V (.bin .add x y) dst fr H N :=
  op_bin hx hy (by simp only [binC, if_pos hb]) hq h
theorem op_eqs {neg : Bool} {ks : List Nat} {x y : Opd} {a b : List CV} {v : Bool} (hx : fr.rd x = .c (.agg a)) (hy : fr.rd y = .c (.agg b)) (hv : eqL ks a b = some v) (hq : Put fr dst (.c (.bool (if neg then !v else v))) fr') (h : N fr' H) : OpP V (.eqs neg ks x y) dst fr H N :=
  ⟨fr', H, by show wOp0 (.eqs neg ks x y) dst fr H = _; simp only [wOp0, hx, hy, hv, Option.map, wput, hq.eq], h⟩
theorem op_eqb {neg : Bool} {x y : Opd} {a b : Bool} (hx : fr.rd x = .c (.bool a)) (hy : fr.rd y = .c (.bool b)) (hq : Put fr dst (.c (.bool (if neg then !(a == b) else a == b))) fr') (h : N fr' H) : OpP V (.eqb neg x y) dst fr H N :=
  ⟨fr', H, by show wOp0 (.eqb neg x y) dst fr H = _; simp only [wOp0, hx, hy, hq.eq], h⟩
theorem op_pick_t {c a b : Opd} {v : WV} (hc : fr.rd c = .c (.bool true)) (ha : fr.rd a = v) (hv : okW v = true) (hq : Put fr dst v fr') (h : N fr' H) : OpP V (.pick c a b) dst fr H N :=
  ⟨fr', H, by show wOp0 (.pick c a b) dst fr H = _; simp only [wOp0, hc, if_true, ha, if_pos hv, hq.eq], h⟩
theorem op_pick_f {c a b : Opd} {v : WV} (hc : fr.rd c = .c (.bool false)) (ha : fr.rd b = v) (hv : okW v = true) (hq : Put fr dst v fr') (h : N fr' H) : OpP V (.pick c a b) dst fr H N :=
  ⟨fr', H, by show wOp0 (.pick c a b) dst fr H = _; simp only [wOp0, hc, Bool.false_eq_true, if_false, ha, if_pos hv, hq.eq], h⟩
theorem op_pick_tc {c a b : Opd} {v : CV} {t : Bool} (hc : fr.rd c = .c (.bool t)) (ht : t = true) (ha : fr.rd a = .c v) (hq : Put fr dst (.c v) fr') (h : N fr' H) : OpP V (.pick c a b) dst fr H N := op_pick_t (ht ▸ hc) ha rfl hq h
theorem op_pick_fc {c a b : Opd} {v : CV} {t : Bool} (hc : fr.rd c = .c (.bool t)) (ht : t = false) (ha : fr.rd b = .c v) (hq : Put fr dst (.c v) fr') (h : N fr' H) : OpP V (.pick c a b) dst fr H N := op_pick_f (ht ▸ hc) ha rfl hq h
theorem op_cvs {x : Opd} {s : List UInt8} (hx : fr.rd x = .c (.str s)) (hq : Put fr dst (.c (.str s)) fr') (h : N fr' H) : OpP V (.cvs x) dst fr H N :=
  ⟨fr', H, by show wOp0 (.cvs x) dst fr H = _; simp only [wOp0, hx, hq.eq], h⟩
theorem op_cvt {k k' : IntKind} {x : Opd} {n : Int} (hx : fr.rd x = .c (.int k' n)) (hq : Put fr dst (.c (.int k (k.wrap n))) fr') (h : N fr' H) : OpP V (.cvt k x) dst fr H N :=
  ⟨fr', H, by show wOp0 (.cvt k x) dst fr H = _; simp only [wOp0, hx, hq.eq], h⟩
theorem op_cvt64 {k' : IntKind} {x : Opd} {n : Int} (hx : fr.rd x = .c (.int k' n)) (hb : -9223372036854775808 ≤ n ∧ n < 9223372036854775808) (hq : Put fr dst (.c (.int .i64 n)) fr') (h : N fr' H) : OpP V (.cvt .i64 x) dst fr H N :=
  op_cvt hx (by rw [wrap64 hb]; exact hq) h
theorem op_mx {m : Bool} {x y : Opd} {k k' : IntKind} {a b : Int} (hx : fr.rd x = .c (.int k a)) (hy : fr.rd y = .c (.int k' b)) (hq : Put fr dst (.c (.int k (if m then max a b else min a b))) fr') (h : N fr' H) : OpP V (.mx m x y) dst fr H N :=
  ⟨fr', H, by show wOp0 (.mx m x y) dst fr H = _; simp only [wOp0, hx, hy, hq.eq], h⟩
theorem op_len {st : Bool} {x : Opd} {v : WV} {n : Nat} (hx : fr.rd x = v) (hn : lenW st v = some n) (hq : Put fr dst (.c (.int .i64 n)) fr') (h : N fr' H) : OpP V (.len st x) dst fr H N :=
  ⟨fr', H, by show wOp0 (.len st x) dst fr H = _; simp only [wOp0, hx, hn, hq.eq], h⟩
theorem op_len_str {x : Opd} {s : List UInt8} (hx : fr.rd x = .c (.str s)) (hq : Put fr dst (.c (.int .i64 s.length)) fr') (h : N fr' H) : OpP V (.len true x) dst fr H N := op_len hx rfl hq h
theorem op_len_map {α : Type} {x : Opd} {ek : Option Nat} {l : List α} {f : α → CV} (hx : fr.rd x = .c (.frz ek (l.map f))) (hq : Put fr dst (.c (.int .i64 l.length)) fr') (h : N fr' H) : OpP V (.len false x) dst fr H N :=
  op_len hx (by show some (l.map f).length = _; rw [List.length_map]) hq h
theorem op_len_frz {x : Opd} {ek : Option Nat} {xs : List CV} (hx : fr.rd x = .c (.frz ek xs)) (hq : Put fr dst (.c (.int .i64 xs.length)) fr') (h : N fr' H) : OpP V (.len false x) dst fr H N := op_len hx rfl hq h
theorem op_len_view {x : Opd} {p : Pl} {b : Bool} {off e : Nat} {ek : Option Nat} {xs : List CV} (hx : fr.rd x = .view p b off e ek xs) (hq : Put fr dst (.c (.int .i64 xs.length)) fr') (h : N fr' H) : OpP V (.len false x) dst fr H N := op_len hx rfl hq h
theorem op_len_nils {x : Opd} (hx : fr.rd x = .nils) (hq : Put fr dst (.c (.int .i64 0)) fr') (h : N fr' H) : OpP V (.len false x) dst fr H N := op_len hx rfl hq h
theorem op_six {x i : Opd} {s : List UInt8} {k : IntKind} {n : Int} {m : Nat} {b : UInt8} (hx : fr.rd x = .c (.str s)) (hi : fr.rd i = .c (.int k n)) (hn : n = (m : Nat)) (hb : s[m]? = some b) (hq : Put fr dst (.c (.int .u8 b.toNat)) fr') (h : N fr' H) : OpP V (.six x i) dst fr H N :=
  ⟨fr', H, by show wOp0 (.six x i) dst fr H = _; subst hn; simp only [wOp0, hx, hi, wint, if_pos (Int.natCast_nonneg m), Int.toNat_natCast, hb, hq.eq], h⟩
/-- An element's address. -/
theorem op_ix {x i : Opd} {ek : Option Nat} {xs : List CV} {k : IntKind} {n : Int} {m : Nat} {v : CV} (hx : fr.rd x = .c (.frz ek xs)) (hi : fr.rd i = .c (.int k n)) (hn : n = (m : Nat)) (hb : xs[m]? = some v) (hq : Put fr dst (.c (.fptr ek v 0)) fr') (h : N fr' H) : OpP V (.ix ek x i) dst fr H N :=
  ⟨fr', H, by show wOp0 (.ix ek x i) dst fr H = _; subst hn; simp only [wOp0, hx, hi, wint, ixW, true_and, if_pos (Int.natCast_nonneg m), Int.toNat_natCast, hb, wput, hq.eq], h⟩
theorem op_ix_map {α : Type} {x i : Opd} {ek : Option Nat} {l : List α} {f : α → CV} {k : IntKind} {n : Int} {m : Nat} {y : α} (hx : fr.rd x = .c (.frz ek (l.map f))) (hi : fr.rd i = .c (.int k n)) (hn : n = (m : Nat)) (hb : l[m]? = some y) (hq : Put fr dst (.c (.fptr ek (f y) 0)) fr') (h : N fr' H) : OpP V (.ix ek x i) dst fr H N :=
  op_ix hx hi hn (by rw [List.getElem?_map, hb]; rfl) hq h
theorem op_load {ek ek' : Option Nat} {a : Opd} {x v : CV} {off : Nat} (hp : fr.place a = none) (ha : fr.rd a = .c (.fptr ek' x off)) (hv : readC ek' ek x off = some v) (hq : Put fr dst (.c v) fr') (h : N fr' H) : OpP V (.load ek a) dst fr H N :=
  ⟨fr', H, by show wOp0 (.load ek a) dst fr H = _; simp only [wOp0, hp, ha, loadW, hv, Option.map, wput, hq.eq], h⟩
theorem op_load0 {ek : Option Nat} {a : Opd} {x : CV} (hp : fr.place a = none) (ha : fr.rd a = .c (.fptr ek x 0)) (hq : Put fr dst (.c x) fr') (h : N fr' H) : OpP V (.load ek a) dst fr H N :=
  op_load hp ha (by simp only [readC, and_self, if_true]) hq h
theorem op_load_box {ek ek' : Option Nat} {a : Opd} {b off : Nat} {x v : WV} (hp : fr.place a = some (b, off)) (hb : fr.env b = .lbox ek' x) (hv : (if off = 0 ∧ ek' = ek then some (peekC (Pl.sl b 0) x) else partW ek (peekC (Pl.sl b 0) x).flat off) = some v) (hq : Put fr dst v fr') (h : N fr' H) : OpP V (.load ek a) dst fr H N :=
  ⟨fr', H, by show wOp0 (.load ek a) dst fr H = _; simp only [wOp0, hp, hb, hv, wput, hq.eq], h⟩
theorem op_load_boxc {ek ek' : Option Nat} {a : Opd} {b off : Nat} {x : WV} {v : CV} (hp : fr.place a = some (b, off)) (hb : fr.env b = .lbox ek' x) (hv : (if off = 0 ∧ ek' = ek then some (peekC (Pl.sl b 0) x) else partW ek (peekC (Pl.sl b 0) x).flat off) = some (.c v)) (hq : Put fr dst (.c v) fr') (h : N fr' H) : OpP V (.load ek a) dst fr H N :=
  op_load_box hp hb hv hq h
theorem op_faddr {n off : Nat} {a : Opd} {ek : Option Nat} {x : CV} (hp : fr.place a = none) (ha : fr.rd a = .c (.fptr ek x off)) (hq : Put fr dst (.c (.fptr ek x (off + n))) fr') (h : N fr' H) : OpP V (.faddr n a) dst fr H N :=
  ⟨fr', H, by show wOp0 (.faddr n a) dst fr H = _; simp only [wOp0, hp, ha, hq.eq], h⟩
theorem op_faddr_ptr {n off id : Nat} {a : Opd} (hp : fr.place a = none) (ha : fr.rd a = .ptr id off) (hq : Put fr dst (.ptr id (off + n)) fr') (h : N fr' H) : OpP V (.faddr n a) dst fr H N :=
  ⟨fr', H, by show wOp0 (.faddr n a) dst fr H = _; simp only [wOp0, hp, ha, hq.eq], h⟩
theorem op_nck {off : Nat} {a : Opd} {ek : Option Nat} {x : CV} (hp : fr.place a = none) (ha : fr.rd a = .c (.fptr ek x off)) (hq : Put fr dst (.c (.fptr ek x off)) fr') (h : N fr' H) : OpP V (.nck a) dst fr H N :=
  ⟨fr', H, by show wOp0 (.nck a) dst fr H = _; simp only [wOp0, hp, ha, hq.eq], h⟩
theorem op_nck_ptr {off id : Nat} {a : Opd} (hp : fr.place a = none) (ha : fr.rd a = .ptr id off) (hq : Put fr dst (.ptr id off) fr') (h : N fr' H) : OpP V (.nck a) dst fr H N :=
  ⟨fr', H, by show wOp0 (.nck a) dst fr H = _; simp only [wOp0, hp, ha, hq.eq], h⟩
/-- Links into local boxes. -/
structure Lnk (fr : WFr) (dst : Option Nat) (b off : Nat) (fr' : WFr) : Prop where
  eq : fr.link dst b off = fr'
  ne : dst ≠ some b
theorem beq_selfN (n : Nat) : Nat.beq n n = true := by
  have := beq_if n n true false
  rw [if_pos rfl] at this
  cases h : Nat.beq n n with
  | true => rfl
  | false => rw [h] at this; cases this
theorem lnk_FL {l : List (Nat × WV)} {a : List (Nat × Option (Nat × Nat))} {b off : Nat} (hd : Nat.beq d b = false) : Lnk (FL l a) (some d) b off (FL ((d, .undef) :: l) ((d, some (b, off)) :: a)) :=
  ⟨by simp only [WFr.link, FL, look_cons, lookA_cons], by intro e; injection e with e; subst e; rw [beq_selfN d] at hd; cases hd⟩
theorem op_mv_link {x : Opd} {b off : Nat} (hp : fr.place x = some (b, off)) (hl : Lnk fr dst b off fr') (h : N fr' H) : OpP V (.mv x) dst fr H N :=
  ⟨fr', H, by show wOp0 (.mv x) dst fr H = _; simp only [wOp0, hp, wlinkTo, if_neg hl.ne, hl.eq], h⟩
theorem op_faddr_link {n : Nat} {x : Opd} {b off : Nat} (hp : fr.place x = some (b, off)) (hl : Lnk fr dst b (off + n) fr') (h : N fr' H) : OpP V (.faddr n x) dst fr H N :=
  ⟨fr', H, by show wOp0 (.faddr n x) dst fr H = _; simp only [wOp0, hp, wlinkTo, if_neg hl.ne, hl.eq], h⟩
theorem op_nck_link {x : Opd} {b off : Nat} (hp : fr.place x = some (b, off)) (hl : Lnk fr dst b off fr') (h : N fr' H) : OpP V (.nck x) dst fr H N :=
  ⟨fr', H, by show wOp0 (.nck x) dst fr H = _; simp only [wOp0, hp, wlinkTo, if_neg hl.ne, hl.eq], h⟩
theorem op_fld {ek : Option Nat} {off : Nat} {x : Opd} {cs : List WV} {v : WV} (hx : aggW (fr.rd x) = some cs) (hv : partW ek cs off = some v) (hq : Put fr dst v fr') (h : N fr' H) : OpP V (.fld ek off x) dst fr H N :=
  ⟨fr', H, by show wOp0 (.fld ek off x) dst fr H = _; simp only [wOp0, hx, hv, wput, hq.eq], h⟩
theorem op_fldc {ek : Option Nat} {off : Nat} {x : Opd} {cs : List WV} {v : CV} (hx : aggW (fr.rd x) = some cs) (hv : partW ek cs off = some (.c v)) (hq : Put fr dst (.c v) fr') (h : N fr' H) : OpP V (.fld ek off x) dst fr H N := op_fld hx hv hq h
theorem op_build {zero : List HV} {parts : List (Nat × Nat × Opd)} {cs : List WV} {u : CV} (hz : zero.all isC = true) (hf : fillW (zero.map ofHV1) (parts.map fun p => (p.1, p.2.1, fr.rd p.2.2)) = some cs) (hm : mkAggW cs = .c u) (hq : Put fr dst (.c u) fr') (h : N fr' H) : OpP V (.build zero parts) dst fr H N :=
  ⟨fr', H, by show wOp0 (.build zero parts) dst fr H = _; simp only [wOp0, if_pos hz, hf, hm, hq.eq], h⟩
theorem op_buildw {zero : List HV} {parts : List (Nat × Nat × Opd)} {cs : List WV} {u : WV} (hz : zero.all isC = true) (hf : fillW (zero.map ofHV1) (parts.map fun p => (p.1, p.2.1, fr.rd p.2.2)) = some cs) (hm : mkAggW cs = u) (hq : Put fr dst u fr') (h : N fr' H) : OpP V (.build zero parts) dst fr H N :=
  ⟨fr', H, by show wOp0 (.build zero parts) dst fr H = _; simp only [wOp0, if_pos hz, hf, hm, hq.eq], h⟩
theorem op_buildA {zero : List HV} {parts : List (Nat × Nat × Opd)} {cs us : List WV} (hz : zero.all isC = true) (hf : fillW (zero.map ofHV1) (parts.map fun p => (p.1, p.2.1, fr.rd p.2.2)) = some cs) (hm : mkAggW cs = .agg us) (hq : Put fr dst (.agg us) fr') (h : N fr' H) : OpP V (.build zero parts) dst fr H N := op_buildw hz hf hm hq h
/-- A literal row of closed elements. -/
theorem op_bslF {e : Nat} {ek : Option Nat} {zero : List CV} {n : Nat} {parts : List (Nat × Opd)} {z : CV} {xs : List CV} (hz : unflat ek zero = some z) (hf : fits ek z = true) (hr : fillRowW ek (List.replicate n z) (parts.map fun p => (p.1, fr.rd p.2)) = some (xs, [])) (hq : Put fr dst (.c (.frz ek xs)) fr') (h : N fr' H) : OpP V (.bsl true e ek zero n parts) dst fr H N :=
  ⟨fr', H, by show wOp0 (.bsl true e ek zero n parts) dst fr H = _; simp only [wOp0, hz, if_pos hf, hr, hitAll, if_true, hq.eq], h⟩
theorem op_bslO {e : Nat} {ek : Option Nat} {zero : List CV} {n : Nat} {parts : List (Nat × Opd)} {z : CV} {xs : List CV} (hz : unflat ek zero = some z) (hf : fits ek z = true) (hr : fillRowW ek (List.replicate n z) (parts.map fun p => (p.1, fr.rd p.2)) = some (xs, [])) (hq : Put fr dst (.own true e ek xs) fr') (h : N fr' H) : OpP V (.bsl false e ek zero n parts) dst fr H N :=
  ⟨fr', H, by show wOp0 (.bsl false e ek zero n parts) dst fr H = _; simp only [wOp0, hz, if_pos hf, hr, hitAll, Bool.false_eq_true, if_false, hq.eq], h⟩
/-- Literals that name every place, in order. -/
def inOrder : Nat → List (Nat × Opd) → Bool
  | _, [] => true
  | k, p :: r => Nat.beq p.1 k && inOrder (k + 1) r
theorem fillRow_all {ek : Option Nat} {z : CV} : ∀ (parts : List (Nat × Opd)) (pre vs : List CV), inOrder pre.length parts = true → closeAllW (parts.map fun p => fr.rd p.2) = some vs → vs.all (fits ek) = true →
    fillRowW ek (pre ++ List.replicate parts.length z) (parts.map fun p => (p.1, fr.rd p.2)) = some (pre ++ vs, []) := by
  intro parts
  induction parts with
  | nil =>
    intro pre vs _ hc _
    simp only [List.map_nil, closeAllW, Option.some.injEq] at hc
    subst hc
    simp [fillRowW]
  | cons p r ih =>
    intro pre vs hi hc hf
    simp only [inOrder, Bool.and_eq_true] at hi
    have hp : p.1 = pre.length := Nat.eq_of_beq_eq_true hi.1
    simp only [List.map_cons] at hc ⊢
    generalize fr.rd p.2 = w at hc ⊢
    unfold closeAllW at hc
    split at hc
    · rename_i e; cases e
    · rename_i v r' e
      injection e with e1 e2
      subst e1; subst e2
      split at hc
      · rename_i l hl
        injection hc with hc
        subst hc
        simp only [List.all_cons, Bool.and_eq_true] at hf
        have hset : (pre ++ List.replicate (r.length + 1) z).set pre.length v = (pre ++ [v]) ++ List.replicate r.length z := by
          rw [List.set_append_right _ _ (Nat.le_refl _), Nat.sub_self, List.replicate_succ, List.set_cons_zero]
          simp
        have := ih (pre ++ [v]) l (by simpa using hi.2) hl hf.2
        simp only [fillRowW, closeW, close1, List.length_cons, List.length_append, List.length_replicate, hp, show pre.length < pre.length + (r.length + 1) by omega, hf.1, and_self, if_true, hset, this]
        simp
      · cases hc
    · cases hc
theorem op_lit {e : Nat} {ek : Option Nat} {zero : List CV} {n : Nat} {parts : List (Nat × Opd)} {z : CV} {xs : List CV} (hz : unflat ek zero = some z) (hf : fits ek z = true) (hn : Nat.beq parts.length n = true) (ho : inOrder 0 parts = true) (hr : closeAllW (parts.map fun p => fr.rd p.2) = some xs) (ha : xs.all (fits ek) = true) (hq : Put fr dst (.c (.frz ek xs)) fr') (h : N fr' H) : OpP V (.bsl true e ek zero n parts) dst fr H N := by
  have hn := Nat.eq_of_beq_eq_true hn
  subst hn
  exact op_bslF hz hf (by simpa using fillRow_all (z := z) parts [] xs ho hr ha) hq h
theorem op_litO {e : Nat} {ek : Option Nat} {zero : List CV} {n : Nat} {parts : List (Nat × Opd)} {z : CV} {xs : List CV} (hz : unflat ek zero = some z) (hf : fits ek z = true) (hn : Nat.beq parts.length n = true) (ho : inOrder 0 parts = true) (hr : closeAllW (parts.map fun p => fr.rd p.2) = some xs) (ha : xs.all (fits ek) = true) (hq : Put fr dst (.own true e ek xs) fr') (h : N fr' H) : OpP V (.bsl false e ek zero n parts) dst fr H N := by
  have hn := Nat.eq_of_beq_eq_true hn
  subst hn
  exact op_bslO hz hf (by simpa using fillRow_all (z := z) parts [] xs ho hr ha) hq h
theorem op_b2s {x : Opd} {s : List UInt8} (hx : (elemsW none (fr.rd x)).bind bytesC = some s) (hq : Put fr dst (.c (.str s)) fr') (h : N fr' H) : OpP V (.b2s x) dst fr H N :=
  ⟨fr', H, by show wOp0 (.b2s x) dst fr H = _; simp only [wOp0, hx, hq.eq], h⟩
/-! pieces of strings and of closed slices -/
theorem op_slc_str {x : Opd} {lo hi : Option Opd} {s : List UInt8} {l h : Option Int} (hl : woptI fr lo = some l) (hh : woptI fr hi = some h) (hx : fr.rd x = .c (.str s)) (h0 : 0 ≤ l.getD 0 ∧ l.getD 0 ≤ h.getD s.length ∧ h.getD s.length ≤ s.length)
    (hq : Put fr dst (.c (.str ((s.drop (l.getD 0).toNat).take ((h.getD s.length).toNat - (l.getD 0).toNat)))) fr') (hN : N fr' H) : OpP V (.slc true none x lo hi) dst fr H N :=
  ⟨fr', H, by show wOp0 (.slc true none x lo hi) dst fr H = _; simp only [wOp0, hl, hh, hx, slcW, true_and, if_pos h0, wput, hq.eq], hN⟩
theorem op_slc_from {x lo : Opd} {s : List UInt8} {k : IntKind} {n : Int} {m : Nat} (hx : fr.rd x = .c (.str s)) (hl : fr.rd lo = .c (.int k n)) (hn : n = (m : Nat)) (hm : m ≤ s.length) (hq : Put fr dst (.c (.str (s.drop m))) fr') (hN : N fr' H) : OpP V (.slc true none x (some lo) none) dst fr H N := by
  subst hn
  refine op_slc_str (l := some (m : Int)) (h := none) (by simp only [woptI, hl, wint]) rfl hx (by simp only [Option.getD]; omega) ?_ hN
  have : (s.drop m).take (s.length - m) = s.drop m := by rw [List.take_of_length_le]; simp
  simpa [this] using hq
theorem op_slc_to {x hi : Opd} {s : List UInt8} {k : IntKind} {n : Int} {m : Nat} (hx : fr.rd x = .c (.str s)) (hl : fr.rd hi = .c (.int k n)) (hn : n = (m : Nat)) (hm : m ≤ s.length) (hq : Put fr dst (.c (.str (s.take m))) fr') (hN : N fr' H) : OpP V (.slc true none x none (some hi)) dst fr H N := by
  subst hn
  refine op_slc_str (l := none) (h := some (m : Int)) rfl (by simp only [woptI, hl, wint]) hx (by simp only [Option.getD]; omega) ?_ hN
  simpa using hq
theorem op_slc_mid {x lo hi : Opd} {s : List UInt8} {k k' : IntKind} {n n' : Int} {m m' : Nat} (hx : fr.rd x = .c (.str s)) (hl : fr.rd lo = .c (.int k n)) (hh : fr.rd hi = .c (.int k' n')) (hn : n = (m : Nat)) (hn' : n' = (m' : Nat)) (hm : m ≤ m' ∧ m' ≤ s.length) (hq : Put fr dst (.c (.str ((s.drop m).take (m' - m)))) fr') (hN : N fr' H) : OpP V (.slc true none x (some lo) (some hi)) dst fr H N := by
  subst hn; subst hn'
  refine op_slc_str (l := some (m : Int)) (h := some (m' : Int)) (by simp only [woptI, hl, wint]) (by simp only [woptI, hh, wint]) hx (by simp only [Option.getD]; omega) ?_ hN
  simpa using hq
theorem op_slc_frz {x : Opd} {lo hi : Option Opd} {ek : Option Nat} {xs : List CV} {l h : Option Int} (hl : woptI fr lo = some l) (hh : woptI fr hi = some h) (hx : fr.rd x = .c (.frz ek xs)) (h0 : 0 ≤ l.getD 0 ∧ l.getD 0 ≤ h.getD xs.length ∧ h.getD xs.length ≤ xs.length)
    (hq : Put fr dst (.c (.frz ek ((xs.drop (l.getD 0).toNat).take ((h.getD xs.length).toNat - (l.getD 0).toNat)))) fr') (hN : N fr' H) : OpP V (.slc false ek x lo hi) dst fr H N :=
  ⟨fr', H, by show wOp0 (.slc false ek x lo hi) dst fr H = _; simp only [wOp0, hl, hh, hx, slcW, true_and, true_or, if_pos h0, wput, hq.eq], hN⟩
theorem op_slc_fromL {α : Type} {x lo : Opd} {ek : Option Nat} {l : List α} {f : α → CV} {k : IntKind} {n : Int} {m : Nat} (hx : fr.rd x = .c (.frz ek (l.map f))) (hl : fr.rd lo = .c (.int k n)) (hn : n = (m : Nat)) (hm : m ≤ l.length) (hq : Put fr dst (.c (.frz ek ((l.drop m).map f))) fr') (hN : N fr' H) : OpP V (.slc false ek x (some lo) none) dst fr H N := by
  subst hn
  refine op_slc_frz (l := some (m : Int)) (h := none) (by simp only [woptI, hl, wint]) rfl hx (by simp only [Option.getD, List.length_map]; omega) ?_ hN
  have : ((l.map f).drop m).take (l.length - m) = (l.drop m).map f := by rw [List.take_of_length_le, List.map_drop]; simp
  simpa [this, List.map_drop] using hq
theorem op_slc_toL {α : Type} {x hi : Opd} {ek : Option Nat} {l : List α} {f : α → CV} {k : IntKind} {n : Int} {m : Nat} (hx : fr.rd x = .c (.frz ek (l.map f))) (hl : fr.rd hi = .c (.int k n)) (hn : n = (m : Nat)) (hm : m ≤ l.length) (hq : Put fr dst (.c (.frz ek ((l.take m).map f))) fr') (hN : N fr' H) : OpP V (.slc false ek x none (some hi)) dst fr H N := by
  subst hn
  refine op_slc_frz (l := none) (h := some (m : Int)) rfl (by simp only [woptI, hl, wint]) hx (by simp only [Option.getD, List.length_map]; omega) ?_ hN
  simpa [List.map_take] using hq
/-! append -/
theorem op_app_nil {e : Nat} {ek : Option Nat} {bytes : Nat} {s x : Opd} {n0 : CV} {new : List CV} (hs : fr.rd s = .nils) (hx : elemsW ek (fr.rd x) = some (n0 :: new)) (hb : (new.length + 1) * bytes ≤ 140737488355328 ∧ new.length + 1 ≤ 140737488355328) (hq : Put fr dst (.own true e ek (n0 :: new)) fr') (h : N fr' H) : OpP V (.app e ek bytes s x) dst fr H N :=
  ⟨fr', H, by
    show appW e ek bytes (fr.rd s) (fr.rd x) dst fr H = _
    simp only [appW, hx, hs, reduceCtorEq, if_false, List.length_cons, lim, if_pos hb, hq.eq], h⟩
theorem op_app_nil0 {e : Nat} {ek : Option Nat} {bytes : Nat} {s x : Opd} (hs : fr.rd s = .nils) (hx : elemsW ek (fr.rd x) = some []) (hq : Put fr dst .nils fr') (h : N fr' H) : OpP V (.app e ek bytes s x) dst fr H N :=
  ⟨fr', H, by
    show appW e ek bytes (fr.rd s) (fr.rd x) dst fr H = _
    simp only [appW, hx, hs, if_true, hq.eq], h⟩
theorem op_app_view {e : Nat} {ek : Option Nat} {bytes p : Nat} {s x : Opd} {xs new : List CV} {l : List (Nat × WV)} {a : List (Nat × Option (Nat × Nat))} (hs : (FL l a).rd s = .view (.sl p 0 0) true 0 e ek xs) (hx : elemsW ek ((FL l a).rd x) = some new) (hb : (xs.length + new.length) * bytes ≤ 140737488355328 ∧ xs.length + new.length ≤ 140737488355328)
    (hq : Put (FL (hitM (inK [.sl p 0 0]) false l) a) dst (.own true e ek (xs ++ new)) fr') (h : N fr' H) : OpP V (.app e ek bytes s x) dst (FL l a) H N :=
  ⟨fr', H, by
    show appW e ek bytes ((FL l a).rd s) ((FL l a).rd x) dst (FL l a) H = _
    simp only [appW, hx, hs, true_and, lim, if_pos hb, hitAll_sl, hq.eq], h⟩
/-! local boxes -/
structure Boxed (fr : WFr) (d : Nat) (ek : Option Nat) (v : WV) (fr' : WFr) : Prop where
  eq : ({ env := upd (hitF (isSlot d) false fr).env d (.lbox ek v), al := noAl } : WFr) = fr'
theorem boxed_FL {l : List (Nat × WV)} {a : List (Nat × Option (Nat × Nat))} {ek : Option Nat} {v : WV} (hc : clean d l = true) : Boxed (FL l a) d ek v (FL ((d, .lbox ek v) :: l) []) := ⟨by
  rw [upd_clean (fun _ h => h) hc]; rfl⟩
theorem take_c {u : CV} : Lz.take (.c u) fr H = some (.c u, fr, H) := by
  simp [Lz.take, srcs, srcC, src1, hitAll, ownIt, ownItC, ownIt1]
theorem op_lbox {ek : Option Nat} {x : Opd} {u : CV} (hx : fr.rd x = .c u) (hf : fitsW ek (.c u) = true) (hb : Boxed fr d ek (.c u) fr') (h : N fr' H) : OpP V (.lbox ek x) (some d) fr H N :=
  ⟨fr', H, by show wOp0 (.lbox ek x) (some d) fr H = _; simp only [wOp0, hx, if_pos hf, take_c, hb.eq], h⟩
structure Stored (fr : WFr) (b off n : Nat) (v : WV) (fr' : WFr) : Prop where
  eq : ({ env := upd (hitF (inSl b off n) false fr).env b v, al := fr.al } : WFr) = fr'
structure Stored0 (fr : WFr) (b : Nat) (v : WV) (fr' : WFr) : Prop where
  eq : ({ env := upd (hitF (isSlot b) false fr).env b v, al := fr.al } : WFr) = fr'
theorem inSl_slot {b off n : Nat} (p : Pl) (h : inSl b off n p = true) : isSlot b p = true := by
  cases p with
  | sl s i k => simp only [inSl, Bool.and_eq_true, decide_eq_true_eq] at h; simp [isSlot, h.1.1.1]
  | hp _ _ => cases h
  | tmp _ _ => cases h
theorem stored_FL {l : List (Nat × WV)} {a : List (Nat × Option (Nat × Nat))} {b off n : Nat} {v : WV} (hc : clean b l = true) : Stored (FL l a) b off n v (FL ((b, v) :: l) a) := ⟨by
  rw [upd_clean inSl_slot hc]; rfl⟩
theorem stored0_FL {l : List (Nat × WV)} {a : List (Nat × Option (Nat × Nat))} {b : Nat} {v : WV} (hc : clean b l = true) : Stored0 (FL l a) b v (FL ((b, v) :: l) a) := ⟨by
  rw [upd_clean (fun _ h => h) hc]; rfl⟩
theorem op_store_all {ek : Option Nat} {a x : Opd} {b : Nat} {u : CV} {x0 : WV} (hp : fr.place a = some (b, 0)) (hx : fr.rd x = .c u) (hf : fitsW ek (.c u) = true) (hb : fr.env b = .lbox ek x0) (hs : Stored0 fr b (.lbox ek (.c u)) fr') (h : N fr' H) : OpP V (.store ek a x) dst fr H N :=
  ⟨fr', H, by show wOp0 (.store ek a x) dst fr H = _; simp only [wOp0, hp, hx, if_pos hf, take_c, hb, and_self, if_true, hs.eq], h⟩
theorem op_store_part {ek ek' : Option Nat} {a x : Opd} {b off : Nat} {u u' : CV} {x0 : WV} (hp : fr.place a = some (b, off)) (hx : fr.rd x = .c u) (hf : fitsW ek (.c u) = true) (hb : fr.env b = .lbox ek' x0) (hn : (decide (off = 0) && decide (ek' = ek)) = false) (hl : (decide (off + (WV.c u).flat.length ≤ x0.flat.length) && noViewC x0 && !x0.flat.isEmpty) = true)
    (hu : unflatW ek' (setPartW x0.flat off (WV.c u).flat) = some (.c u')) (hf' : fitsW ek' (.c u') = true) (hs : Stored fr b off (WV.c u).flat.length (.lbox ek' (.c u')) fr') (h : N fr' H) : OpP V (.store ek a x) dst fr H N :=
  ⟨fr', H, by
    simp only [Bool.and_eq_true, decide_eq_true_eq, Bool.not_eq_true'] at hl
    have hn' : ¬ (off = 0 ∧ ek' = ek) := by
      rintro ⟨rfl, rfl⟩
      simp at hn
    show wOp0 (.store ek a x) dst fr H = _
    simp only [wOp0, hp, hx, if_pos hf, take_c, hb, if_neg hn', if_pos (show off + (WV.c u).flat.length ≤ x0.flat.length ∧ noViewC x0 = true ∧ x0.flat.isEmpty = false from ⟨hl.1.1, hl.1.2, hl.2⟩), hu, if_pos hf', hs.eq], h⟩
/-! tuples and functions -/
theorem op_ext {s i : Nat} {vs : List WV} {u : CV} (hs : fr.env s = .tup vs) (hv : vs[i]? = some (.c u)) (hq : Put fr dst (.c u) fr') (h : N fr' H) : OpP V (.ext (.t s) i) dst fr H N :=
  ⟨fr', H, by show wOp0 (.ext (.t s) i) dst fr H = _; simp only [wOp0, hs, hv, peekC, peek1, take_c, hq.eq], h⟩
theorem op_mkf {f : Nat} {first cap : List Opd} {a b : List CV} (ha : closeAllW (first.map fr.rd) = some a) (hb : closeAllW (cap.map fr.rd) = some b) (pa : (first.map fr.rd).all plainW = true) (pb : (cap.map fr.rd).all plainW = true) (hq : Put fr dst (.c (.fn f a b)) fr') (h : N fr' H) : OpP V (.mkf f first cap) dst fr H N :=
  ⟨fr', H, by show wOp0 (.mkf f first cap) dst fr H = _; simp only [wOp0, pa, pb, and_self, if_true, ha, hb, hq.eq], h⟩

/-! ### calls -/
/-- What a call with closed arguments gives back, closed. -/
structure Rets (V : WEnv) (f : Nat) (asv : List WV) (r : WV) : Prop where
  run : ∃ r0 H', wv V f asv [] = some (r0, H') ∧ shut r0 = some r
theorem calls_isC {f : Nat} {args asv : List WV} {r : WV} (hm : V.md f = .P) (ha : thawWs H args = some asv) (hc : Rets V f asv r) (hi : (args.all isCW || noRefW r) = true) (hq : Put fr dst r fr') : wcallTo V (wv V) f args dst fr H = some (fr', H) := by
  obtain ⟨r0, H1, h1, h2⟩ := hc
  simp only [wcallTo, hm, ha, h1, h2, if_pos hi, hq.eq]
theorem op_call {f : Nat} {args : List Opd} {asv : List WV} {r : WV} (hm : V.md f = .P) (ha : thawWs H (args.map fr.rd) = some asv) (hc : Rets V f asv r) (hi : ((args.map fr.rd).all isCW || noRefW r) = true) (hq : Put fr dst r fr') (h : N fr' H) : OpP V (.call f args) dst fr H N :=
  ⟨fr', H, by show wcallTo V (wv V) f (args.map fr.rd) dst fr H = _; exact calls_isC hm ha hc hi hq, h⟩
theorem op_callv {f : Nat} {first cap : List CV} {x : Opd} {args : List Opd} {asv : List WV} {r : WV} (hx : fr.rd x = .c (.fn f first cap)) (hm : V.md f = .P) (ha : thawWs H (first.map WV.c ++ args.map fr.rd ++ cap.map WV.c) = some asv) (hc : Rets V f asv r) (hi : ((first.map WV.c ++ args.map fr.rd ++ cap.map WV.c).all isCW || noRefW r) = true) (hq : Put fr dst r fr') (h : N fr' H) : OpP V (.callv x args) dst fr H N :=
  ⟨fr', H, by
    show wOp V (wv V) (.callv x args) dst fr H = _
    simp only [wOp, hx, wtarget]
    exact calls_isC hm ha hc hi hq, h⟩
/-- The slices that the result may lead to freeze. -/
theorem op_callF {f : Nat} {args : List Opd} {asv : List WV} {r : WV} {fr1 : WFr} {H1 : WHeap} (hm : V.md f = .P) (ha : thawWs H (args.map fr.rd) = some asv) (hc : Rets V f asv r) (hn : ((args.map fr.rd).all isCW || noRefW r) = false) (hi : ((args.map fr.rd).all noFnW && !(args.map fr.rd).any lentC) = true) (hh : hitAll (srcAll (args.map fr.rd)) true fr H = (fr1, H1)) (hq : Put fr1 dst r fr') (h : N fr' H1) : OpP V (.call f args) dst fr H N :=
  ⟨fr', H1, by
    obtain ⟨r0, H2, h1, h2⟩ := hc
    show wcallTo V (wv V) f (args.map fr.rd) dst fr H = _
    simp only [wcallTo, hm, ha, h1, h2, hn, Bool.false_eq_true, if_false, if_pos hi, hh, hq.eq], h⟩

/-! ### regions that may run in any order: class by class -/
theorem wd_nil (h : N fr H) : VD V [] fr H N := ⟨_, _, rfl, h⟩
theorem wd_cons {o : IOp} {c : Cls} {r : List (Cls × IOper)} (h0 : wdstOk fr dst = true) (h : OpD V c o dst fr H (fun fr' H' => Dand (wdstOk fr' dst = true) (VD V r fr' H' N))) : VD V ((c, ⟨dst, none, o⟩) :: r) fr H N := by
  obtain ⟨fr1, H1, h1, h2, fr2, H2, h3, h4⟩ := h
  refine ⟨fr2, H2, ?_, h4⟩
  show (match wStpD V (wv V) c ⟨dst, none, o⟩ fr H with
    | some (fr', H') => wOpsD V (wv V) r fr' H'
    | none => none) = _
  have : wStpG V (wv V) c ⟨dst, none, o⟩ fr H = wD V (wv V) c o dst fr H := rfl
  simp only [wStpD, if_pos h0, this, h1, if_pos h2]
  exact h3
theorem stpG_g {o : IOp} {c : Cls} {s : Nat} {w b : Bool} (hs : fr.env s = .c (.bool b)) : wStpG V (wv V) c ⟨dst, some (s, w), o⟩ fr H = if b = w then wD V (wv V) c o dst fr H else some (fr.put dst .skipv, H) := by
  show (match fr.env s with
    | .c (.bool b) => if b = w then wD V (wv V) c o dst fr H else some (fr.put dst .skipv, H)
    | .skipv => some (fr.put dst .skipv, H)
    | _ => none) = _
  rw [hs]
theorem wd_run {o : IOp} {c : Cls} {r : List (Cls × IOper)} {s : Nat} {w b : Bool} (hs : fr.env s = .c (.bool b)) (hb : b = w) (h0 : wdstOk fr dst = true) (h : OpD V c o dst fr H (fun fr' H' => Dand (wdstOk fr' dst = true) (VD V r fr' H' N))) : VD V ((c, ⟨dst, some (s, w), o⟩) :: r) fr H N := by
  obtain ⟨fr1, H1, h1, h2, fr2, H2, h3, h4⟩ := h
  refine ⟨fr2, H2, ?_, h4⟩
  show (match wStpD V (wv V) c ⟨dst, some (s, w), o⟩ fr H with
    | some (fr', H') => wOpsD V (wv V) r fr' H'
    | none => none) = _
  simp only [wStpD, if_pos h0, stpG_g hs, if_pos hb, h1, if_pos h2]
  exact h3
theorem wd_skip {o : IOp} {c : Cls} {r : List (Cls × IOper)} {s : Nat} {w b : Bool} (hs : fr.env s = .c (.bool b)) (hb : b = !w) (h0 : wdstOk fr dst = true) (hp : Put fr dst .skipv fr') (h1 : wdstOk fr' dst = true) (h : VD V r fr' H N) : VD V ((c, ⟨dst, some (s, w), o⟩) :: r) fr H N := by
  obtain ⟨fr2, H2, h3, h4⟩ := h
  refine ⟨fr2, H2, ?_, h4⟩
  show (match wStpD V (wv V) c ⟨dst, some (s, w), o⟩ fr H with
    | some (fr', H') => wOpsD V (wv V) r fr' H'
    | none => none) = _
  have hb' : ¬ b = w := by intro e; subst e; cases b <;> cases hb
  simp only [wStpD, if_pos h0, stpG_g hs, if_neg hb', hp.eq, if_pos h1]
  exact h3
theorem wd_skips {o : IOp} {c : Cls} {r : List (Cls × IOper)} {s : Nat} {w : Bool} (hs : fr.env s = .skipv) (h0 : wdstOk fr dst = true) (hp : Put fr dst .skipv fr') (h1 : wdstOk fr' dst = true) (h : VD V r fr' H N) : VD V ((c, ⟨dst, some (s, w), o⟩) :: r) fr H N := by
  obtain ⟨fr2, H2, h3, h4⟩ := h
  refine ⟨fr2, H2, ?_, h4⟩
  have e : wStpG V (wv V) c ⟨dst, some (s, w), o⟩ fr H = some (fr', H) := by
    show (match fr.env s with
      | .c (.bool b) => if b = w then wD V (wv V) c o dst fr H else some (fr.put dst .skipv, H)
      | .skipv => some (fr.put dst .skipv, H)
      | _ => none) = _
    rw [hs, hp.eq]
  show (match wStpD V (wv V) c ⟨dst, some (s, w), o⟩ fr H with
    | some (fr', H') => wOpsD V (wv V) r fr' H'
    | none => none) = _
  simp only [wStpD, if_pos h0, e, if_pos h1]
  exact h3
theorem wd_split {l : List (Nat × WV)} {a : List (Nat × Option (Nat × Nat))} {o : IOp} {c : Cls} {r : List (Cls × IOper)} {s : Nat} {w b : Bool} (hs : (FL l a).env s = .c (.bool b))
    (h1 : b = true → VD V ((c, ⟨dst, some (s, w), o⟩) :: r) (FL ((s, .c (.bool true)) :: l) a) H N) (h2 : b = false → VD V ((c, ⟨dst, some (s, w), o⟩) :: r) (FL ((s, .c (.bool false)) :: l) a) H N) :
    VD V ((c, ⟨dst, some (s, w), o⟩) :: r) (FL l a) H N := by
  cases b with
  | true => rw [FL_same hs]; exact h1 rfl
  | false => rw [FL_same hs]; exact h2 rfl
theorem wd_skip_t {o : IOp} {c : Cls} {r : List (Cls × IOper)} {s : Nat} {b : Bool} (hs : fr.env s = .c (.bool b)) (hb : b = false) (h0 : wdstOk fr dst = true) (hp : Put fr dst .skipv fr') (h1 : wdstOk fr' dst = true) (h : VD V r fr' H N) : VD V ((c, ⟨dst, some (s, true), o⟩) :: r) fr H N := wd_skip hs hb h0 hp h1 h
theorem wd_skip_f {o : IOp} {c : Cls} {r : List (Cls × IOper)} {s : Nat} {b : Bool} (hs : fr.env s = .c (.bool b)) (hb : b = true) (h0 : wdstOk fr dst = true) (hp : Put fr dst .skipv fr') (h1 : wdstOk fr' dst = true) (h : VD V r fr' H N) : VD V ((c, ⟨dst, some (s, false), o⟩) :: r) fr H N := wd_skip hs hb h0 hp h1 h
theorem wd_if {l : List (Nat × WV)} {a : List (Nat × Option (Nat × Nat))} {o : IOp} {c : Cls} {r : List (Cls × IOper)} {s : Nat} {w b : Bool} (hs : (FL l a).env s = .c (.bool b))
    (h1 : Cnd b true (VD V ((c, ⟨dst, some (s, w), o⟩) :: r) (FL ((s, .c (.bool true)) :: l) a) H N)) (h2 : Cnd b false (VD V ((c, ⟨dst, some (s, w), o⟩) :: r) (FL ((s, .c (.bool false)) :: l) a) H N)) :
    VD V ((c, ⟨dst, some (s, w), o⟩) :: r) (FL l a) H N := wd_split hs h1.go h2.go
theorem opd_pure {o : IOp} (hp : pureOp o = true) (h : OpP V o dst fr H N) : OpD V .pure o dst fr H N := by
  obtain ⟨fr1, H1, h1, h2⟩ := h
  refine ⟨fr1, H1, ?_, h2⟩
  cases o <;> first | (simp only [pureOp, Bool.false_eq_true] at hp; done) | (simp only [wD, hp, if_true]; exact h1)
theorem opd_bsl {e : Nat} {ek : Option Nat} {z : List CV} {n : Nat} {ps : List (Nat × Opd)} (hp : (ps.all fun p => isCW (fr.rd p.2)) = true) (h : OpP V (.bsl true e ek z n ps) dst fr H N) : OpD V .pure (.bsl true e ek z n ps) dst fr H N := by
  obtain ⟨fr1, H1, h1, h2⟩ := h
  refine ⟨fr1, H1, ?_, h2⟩
  simp only [wD, hp, and_self, if_true]
  exact h1
theorem opd_rdb {ek : Option Nat} {a : Opd} (hp : (fr.place a).isSome = true) (h : OpP V (.load ek a) dst fr H N) : OpD V .rdb (.load ek a) dst fr H N := by
  obtain ⟨fr1, H1, h1, h2⟩ := h
  exact ⟨fr1, H1, by simp only [wD, hp, if_true]; exact h1, h2⟩
theorem opd_wrb {ek : Option Nat} {a x : Opd} (hp : (fr.place a).isSome = true) (h : OpP V (.store ek a x) none fr H N) : OpD V .wrb (.store ek a x) none fr H N := by
  obtain ⟨fr1, H1, h1, h2⟩ := h
  exact ⟨fr1, H1, by simp only [wD, hp, and_self, if_true]; exact h1, h2⟩
theorem opd_load {ek : Option Nat} {a : Opd} (hp : (fr.place a).isSome = false) (h : OpP V (.load ek a) dst fr H N) : OpD V .rd (.load ek a) dst fr H N := by
  obtain ⟨fr1, H1, h1, h2⟩ := h
  exact ⟨fr1, H1, by simp only [wD, hp, Bool.false_eq_true, if_false]; exact h1, h2⟩
theorem opd_ix {ek : Option Nat} {x i : Opd} (h : OpP V (.ix ek x i) dst fr H N) : OpD V .rd (.ix ek x i) dst fr H N := ⟨h.run⟩
theorem opd_slc {st : Bool} {ek : Option Nat} {x : Opd} {lo hi : Option Opd} (h : OpP V (.slc st ek x lo hi) dst fr H N) : OpD V .rd (.slc st ek x lo hi) dst fr H N := ⟨h.run⟩
theorem opd_call {f : Nat} {args : List Opd} {asv : List WV} {r : WV} (hm : V.md f = .P) (ha : thawWs H (args.map fr.rd) = some asv) (hc : Rets V f asv r) (hi : (noRefW r || (args.map fr.rd).all isCW) = true) (hq : Put fr dst r fr') (h : N fr' H) : OpD V .rd (.call f args) dst fr H N :=
  ⟨fr', H, by
    obtain ⟨r0, H2, h1, h2⟩ := hc
    have hi' : noRefW r = true ∨ (args.map fr.rd).all isCW = true := by simpa using hi
    simp only [wD, hm, ha, h1, h2, if_pos hi', hq.eq], h⟩
theorem opd_app {e : Nat} {ek : Option Nat} {n : Nat} {s x : Opd} (h : OpP V (.app e ek n s x) dst fr H N) : OpD V .wr (.app e ek n s x) dst fr H N := ⟨h.run⟩
theorem opd_bslw {fz : Bool} {e : Nat} {ek : Option Nat} {z : List CV} {n : Nat} {ps : List (Nat × Opd)} (h : OpP V (.bsl fz e ek z n ps) dst fr H N) : OpD V .wr (.bsl fz e ek z n ps) dst fr H N := ⟨h.run⟩
theorem opd_callw {f : Nat} {args : List Opd} (h : OpP V (.call f args) dst fr H N) : OpD V .wr (.call f args) dst fr H N := ⟨h.run⟩
theorem opd_callvw {x : Opd} {args : List Opd} (h : OpP V (.callv x args) dst fr H N) : OpD V .wr (.callv x args) dst fr H N := ⟨h.run⟩
theorem opd_storew {ek : Option Nat} {a x : Opd} (hp : (fr.place a).isSome = false) (h : OpP V (.store ek a x) none fr H N) : OpD V .wr (.store ek a x) none fr H N := by
  obtain ⟨fr1, H1, h1, h2⟩ := h
  exact ⟨fr1, H1, by simp only [wD, hp, Bool.false_eq_true, false_or, ne_eq, not_true_eq_false, if_false]; exact h1, h2⟩
theorem opd_hbox {ek : Option Nat} {x : Opd} (h : OpP V (.hbox ek x) dst fr H N) : OpD V .hb (.hbox ek x) dst fr H N := ⟨h.run⟩

/-! ### loops -/
/-- What is kept of a frame, place by place. -/
def KpL (D : List Nat) (fr : WFr) : List Nat → List (Nat × WV) → Prop
  | [], [] => True
  | s :: ss, (t, v) :: l => s = t ∧ hit (deadP D) false (Pl.sl s) (fr.env s) = v ∧ KpL D fr ss l
  | _, _ => False
theorem kp_nil {D : List Nat} : KpL D fr [] [] := trivial
theorem kp_cons {D : List Nat} {s : Nat} {ss : List Nat} {v : WV} {l : List (Nat × WV)} (hv : hit (deadP D) false (Pl.sl s) (fr.env s) = v) (h : KpL D fr ss l) : KpL D fr (s :: ss) ((s, v) :: l) := ⟨rfl, hv, h⟩
theorem kp_eq {D : List Nat} : ∀ {ss : List Nat} {l : List (Nat × WV)}, KpL D fr ss l → (ss.map fun s => (s, hit (deadP D) false (Pl.sl s) (fr.env s))) = l := by
  intro ss
  induction ss with
  | nil => intro l h; cases l with
    | nil => rfl
    | cons p l => cases h
  | cons s ss ih => intro l h; cases l with
    | nil => cases h
    | cons p l =>
      obtain ⟨t, v⟩ := p
      obtain ⟨rfl, rfl, h⟩ := h
      simp only [List.map_cons, ih h]
theorem kp_keep {D : List Nat} {l : List (Nat × WV)} (h : KpL D fr D l) : wkeep D fr = FL l [] := by
  unfold wkeep
  rw [kp_eq h, FL_start]
theorem wp_loop {σ : Type} {live : List Nat} {body : ICode} (K : σ → List (Nat × WV)) (P : σ → Prop) (μ : σ → Nat) (s0 : σ) (h0 : KpL live fr live (K s0)) (hP : P s0)
    (hb : ∀ s, P s → WP V body (FL (K s) []) H (fun fr' H' => ∃ s', KpL live fr' live (K s') ∧ H' = H ∧ P s' ∧ μ s' < μ s) B R) : WP V (.loop live body) fr H N B R := by
  have key : ∀ n s fr, μ s < n → KpL live fr live (K s) → P s → WP V (.loop live body) fr H N B R := by
    intro n
    induction n with
    | zero => intro s fr h; omega
    | succ n ih =>
      intro s fr hn hk hp
      obtain ⟨x, fr1, H1, g1, g2⟩ := hb s hp
      have e : wC V (wv V) witW (.loop live body) fr H = match wC V (wv V) witW body (FL (K s) []) H with
        | some (.nrm, fr', H') => wC V (wv V) witW (.loop live body) fr' H'
        | r => r := by
        rw [w_loop, witW_eq, kp_keep hk]
        rfl
      cases x with
      | nrm =>
        obtain ⟨s', k1, rfl, k2, k3⟩ := g2
        obtain ⟨y, fr2, H2, m1, m2⟩ := ih s' fr1 (by omega) k1 k2
        exact ⟨y, fr2, H2, by rw [e, g1]; exact m1, m2⟩
      | exit i => exact ⟨.exit i, fr1, H1, by rw [e, g1], g2⟩
      | goto i => exact ⟨.goto i, fr1, H1, by rw [e, g1], g2⟩
      | ret => exact ⟨.ret, fr1, H1, by rw [e, g1], g2⟩
  exact key (μ s0 + 1) s0 fr (by omega) h0 hP

/-! ### a function whole -/
/-- A result's place, closed. -/
inductive ShI (fr : WFr) : IRes → CV → Prop
  | c {t : Nat} {u : CV} (h : fr.env t = .c u) : ShI fr (.tmp t) u
  | own {t : Nat} {b : Bool} {e : Nat} {ek : Option Nat} {xs : List CV} (h : fr.env t = .own b e ek xs) : ShI fr (.tmp t) (.frz ek xs)
  | nils {t : Nat} (h : fr.env t = .nils) : ShI fr (.tmp t) (.frz none [])
  | cell {a : Nat} {ek : Option Nat} {u : CV} (h : fr.env a = .lbox ek (.c u)) : ShI fr (.cell a ek) u
def IRes.at : IRes → Nat
  | .tmp t => t
  | .cell a _ => a
inductive ShL (fr : WFr) : List IRes → List CV → Prop
  | nil : ShL fr [] []
  | cons {r : IRes} {u : CV} {rs : List IRes} {us : List CV} (h : ShI fr r u) (hs : ShL fr rs us) : ShL fr (r :: rs) (u :: us)
def oneC : List CV → WV
  | [u] => .c u
  | us => .tup (us.map .c)
def fin (res : List IRes) (r : WV) : Post := fun fr H => ∃ vs r0 H', wresOf fr H res = some vs ∧ wfinish 0 vs H = some (r0, H') ∧ shut r0 = some r
/-- One result, as it leaves. -/
structure Lv (v : WV) (t : Nat) (u : CV) : Prop where
  src : srcC v = [] ∨ srcC v = [.sl t 0 0]
  ok : okRes v = true
  sh : shutC (leaveC 0 v) = some u
  nt : ∀ vs, leaveC 0 v ≠ .tup vs
inductive LvL : List WV → List Nat → List CV → Prop
  | nil : LvL [] [] []
  | cons {v : WV} {t : Nat} {u : CV} {vs : List WV} {ts : List Nat} {us : List CV} (h : Lv v t u) (hs : LvL vs ts us) : LvL (v :: vs) (t :: ts) (u :: us)
theorem shI_lv {r : IRes} {u : CV} (h : ShI fr r u) : ∃ v, wresOf fr H [r] = some [v] ∧ Lv v r.at u := by
  cases h with
  | c h => exact ⟨_, rfl, by rw [h]; exact ⟨.inl rfl, rfl, rfl, by intro vs h; cases h⟩⟩
  | own h => exact ⟨_, rfl, by rw [h]; exact ⟨.inr rfl, rfl, rfl, by intro vs h; cases h⟩⟩
  | nils h => exact ⟨_, rfl, by rw [h]; exact ⟨.inl rfl, rfl, rfl, by intro vs h; cases h⟩⟩
  | @cell a ek u h => exact ⟨.c u, by simp only [wresOf, h, if_true]; rfl, ⟨.inl rfl, rfl, rfl, by intro vs h; cases h⟩⟩
theorem wresOf_cons {r : IRes} {rs : List IRes} {v : WV} {vs : List WV} (h1 : wresOf fr H [r] = some [v]) (h2 : wresOf fr H rs = some vs) : wresOf fr H (r :: rs) = some (v :: vs) := by
  cases r with
  | tmp t =>
    simp only [wresOf] at h1 ⊢
    rw [h2]
    injection h1 with h1; injection h1 with h1
    rw [h1]
  | cell a ek =>
    simp only [wresOf] at h1 ⊢
    rw [h2]
    split at h1
    · rename_i w l hw hl
      injection hl with hl; subst hl
      injection h1 with h1; injection h1 with h1 _
      subst h1
      rw [hw]
    · cases h1
theorem shL_lvl : ∀ {rs : List IRes} {us : List CV}, ShL fr rs us → ∃ vs, wresOf fr H rs = some vs ∧ LvL vs (rs.map IRes.at) us := by
  intro rs us h
  induction h with
  | nil => exact ⟨[], rfl, .nil⟩
  | cons h _ ih =>
    obtain ⟨v, h1, h2⟩ := shI_lv (H := H) h
    obtain ⟨vs, h3, h4⟩ := ih
    exact ⟨v :: vs, wresOf_cons h1 h3, .cons h2 h4⟩
theorem lvl_src : ∀ {vs : List WV} {ts : List Nat} {us : List CV}, LvL vs ts us → ts.Nodup → (srcAll vs).Nodup ∧ (∀ p ∈ srcAll vs, ∃ t ∈ ts, p = .sl t 0 0) := by
  intro vs ts us h
  induction h with
  | nil => intro _; exact ⟨List.nodup_nil, by intro p hp; cases hp⟩
  | @cons v t u vs ts us h _ ih =>
    intro hd
    rw [List.nodup_cons] at hd
    obtain ⟨a, b⟩ := ih hd.2
    simp only [srcAll]
    rcases h.src with e | e
    · rw [e, List.nil_append]
      exact ⟨a, fun p hp => by obtain ⟨t', h1, h2⟩ := b p hp; exact ⟨t', by simp [h1], h2⟩⟩
    · rw [e]
      refine ⟨?_, ?_⟩
      · simp only [List.cons_append, List.nil_append, List.nodup_cons]
        refine ⟨?_, a⟩
        intro hp
        obtain ⟨t', h1, h2⟩ := b _ hp
        injection h2 with h2 _ _
        subst h2
        exact hd.1 h1
      · intro p hp
        simp only [List.cons_append, List.nil_append, List.mem_cons] at hp
        rcases hp with rfl | hp
        · exact ⟨t, by simp, rfl⟩
        · obtain ⟨t', h1, h2⟩ := b p hp; exact ⟨t', by simp [h1], h2⟩
theorem lvl_ok : ∀ {vs : List WV} {ts : List Nat} {us : List CV}, LvL vs ts us → vs.all okRes = true ∧ shutT (vs.map (leaveC 0)) = some (us.map .c) := by
  intro vs ts us h
  induction h with
  | nil => exact ⟨rfl, rfl⟩
  | cons h _ ih => exact ⟨by simp only [List.all_cons, h.ok, ih.1, Bool.and_self], by simp only [List.map_cons, shutT, h.sh, ih.2]⟩
theorem fin_all {res : List IRes} {us : List CV} (hd : (res.map IRes.at).Nodup) (h : ShL fr res us) : fin res (oneC us) fr H := by
  obtain ⟨vs, h1, h2⟩ := shL_lvl (H := H) h
  obtain ⟨a, b⟩ := lvl_src h2 hd
  obtain ⟨c, e⟩ := lvl_ok h2
  have f : (srcAll vs).all (leaveP 0) = true := by
    rw [List.all_eq_true]
    intro p hp
    obtain ⟨t, _, rfl⟩ := b p hp
    rfl
  have g : (srcAll vs).filter (leaveP 0) = srcAll vs := by rw [List.filter_eq_self]; exact List.all_eq_true.1 f
  refine ⟨vs, woneOf (vs.map (leaveC 0)), hitH false (srcAll vs) H, h1, ?_, ?_⟩
  · unfold wfinish
    rw [g, if_pos ⟨a, c, .inr f⟩]
  · generalize res.map IRes.at = tl at h2
    cases h2 with
    | nil => rfl
    | @cons v t u vs ts us hv1 hs =>
      cases hs with
      | nil =>
        show shut (leaveC 0 v) = some (.c u)
        have := hv1.sh
        have hn := hv1.nt
        generalize leaveC 0 v = w at this hn
        cases w <;> first | exact absurd rfl (hn _) | simp only [shut, this]
      | cons h' hs' =>
        simp only [List.map_cons] at e ⊢
        show shut (.tup _) = some (.tup _)
        simp only [shut, e]
        rfl
theorem fin1 {t : Nat} {u u' : CV} (h : ShI fr (.tmp t) u) (e : u = u') : fin [.tmp t] (.c u') fr H := by
  subst e
  exact fin_all (by simp) (.cons h .nil)
theorem fin1c {t : Nat} {u u' : CV} (h : fr.env t = .c u) (e : u = u') : fin [.tmp t] (.c u') fr H := fin1 (.c h) e
theorem fin1o {t : Nat} {b : Bool} {e : Nat} {ek : Option Nat} {xs : List CV} {u' : CV} (h : fr.env t = .own b e ek xs) (e : CV.frz ek xs = u') : fin [.tmp t] (.c u') fr H := fin1 (.own h) e
theorem fin1n {t : Nat} {u' : CV} (h : fr.env t = .nils) (e : CV.frz none [] = u') : fin [.tmp t] (.c u') fr H := fin1 (.nils h) e
theorem fin1b {a : Nat} {ek : Option Nat} {u u' : CV} (h : fr.env a = .lbox ek (.c u)) (e : u = u') : fin [.cell a ek] (.c u') fr H := by
  subst e
  exact fin_all (by simp) (.cons (.cell h) .nil)
theorem fin0 : fin [] (.tup []) fr H := fin_all (by simp) .nil
theorem rets_of {f : Nat} {asv : List WV} {r : WV} {b : ICode} {rs : List IRes} (hg : V.fn f = some ⟨b, rs⟩) (h : WP V b (FL (wbinds 0 asv) []) [] (fin rs r) [] (fin rs r)) : Rets V f asv r := by
  obtain ⟨s, fr1, H1, h1, h2⟩ := h
  have key : (s = .nrm ∨ s = .ret) → fin rs r fr1 H1 → Rets V f asv r := by
    rintro hs ⟨vs, r0, H2, g1, g2, g3⟩
    refine ⟨r0, H2, ?_, g3⟩
    rw [wv_eq, wFn, hg]
    simp only [FL_start, h1]
    rcases hs with rfl | rfl <;> simp only [g1] <;> exact g2
  cases s with
  | nrm => exact key (.inl rfl) h2
  | ret => exact key (.inr rfl) h2
  | exit i => exact absurd h2 (by simp [outK, exitK])
  | goto i => exact absurd h2 (by simp [outK])
end
end Go.Proofs.Lz
/- The calculus: variables in memory, and calls that share the memory. -/
set_option linter.unusedSimpArgs false
set_option linter.unusedVariables false
namespace Go.Proofs.Lz
section
variable {V : WEnv} {fr fr' : WFr} {H H' : WHeap} {N : Post} {B : Hs} {R : Post} {dst : Option Nat} {d : Nat}

/-! ### frames without views of the memory -/
def noHp1 : WV → Bool
  | .view p _ _ _ _ _ => !isHp p
  | .eptr p _ _ _ _ => !isHp p
  | _ => true
def noHpC : WV → Bool
  | .agg cs => cs.all noHp1
  | v => noHp1 v
def noHpV : WV → Bool
  | .tup vs => vs.all noHpC
  | .lbox _ v => noHpC v
  | v => noHpC v
def cleanHp : List (Nat × WV) → Bool
  | [] => true
  | (_, v) :: r => noHpV v && cleanHp r
theorem hit1_hp {s i k : Nat} {v : WV} (h : noHp1 v = true) : hit1 isHp false (.sl s i k) v = v := by
  cases v with
  | own bb e ek xs => rfl
  | view p bb off e ek xs =>
    have : isHp p = false := by simpa [noHp1] using h
    simp only [hit1, this]; rfl
  | eptr p i off ek x =>
    have : isHp p = false := by simpa [noHp1] using h
    simp only [hit1, this]; rfl
  | _ => rfl
theorem hitL_hp {s i : Nat} : ∀ (k : Nat) (cs : List WV), cs.all noHp1 = true → hitL isHp false (Pl.sl s i) k cs = cs := by
  intro k cs
  induction cs generalizing k with
  | nil => intro _; rfl
  | cons v r ih =>
    intro h
    simp only [List.all_cons, Bool.and_eq_true] at h
    simp only [hitL, hit1_hp h.1, ih _ h.2]
theorem hitC_hp {s i : Nat} {v : WV} (h : noHpC v = true) : hitC isHp false (Pl.sl s i) v = v := by
  have h1 : ∀ w, noHpC w = noHp1 w → hitC isHp false (Pl.sl s i) w = hit1 isHp false (Pl.sl s i 0) w → noHpC w = true → hitC isHp false (Pl.sl s i) w = w := fun w e1 e2 e3 => by rw [e2]; exact hit1_hp (by rw [← e1]; exact e3)
  cases v <;> first | exact h1 _ rfl rfl h | (simp only [hitC]; rw [hitL_hp 0 _ h])
theorem hitT_hp {s : Nat} : ∀ (i : Nat) (vs : List WV), vs.all noHpC = true → hitT isHp false (Pl.sl s) i vs = vs := by
  intro i vs
  induction vs generalizing i with
  | nil => intro _; rfl
  | cons v r ih =>
    intro h
    simp only [List.all_cons, Bool.and_eq_true] at h
    simp only [hitT, hitC_hp h.1, ih _ h.2]
theorem hit_hp {s : Nat} {v : WV} (h : noHpV v = true) : hit isHp false (Pl.sl s) v = v := by
  have h1 : ∀ w, noHpV w = noHpC w → hit isHp false (Pl.sl s) w = hitC isHp false (Pl.sl s 0) w → noHpV w = true → hit isHp false (Pl.sl s) w = w := fun w e1 e2 e3 => by rw [e2]; exact hitC_hp (by rw [← e1]; exact e3)
  cases v <;> first | exact h1 _ rfl rfl h | (simp only [hit, hitT_hp 0 _ h]; done) | (simp only [hit]; rw [hitC_hp h])
theorem hitM_hp : ∀ {l : List (Nat × WV)}, cleanHp l = true → hitM isHp false l = l := by
  intro l
  induction l with
  | nil => intro _; rfl
  | cons p r ih =>
    obtain ⟨t, v⟩ := p
    intro h
    simp only [cleanHp, Bool.and_eq_true] at h
    simp only [hitM, hit_hp h.1, ih h.2]

/-! ### variables -/
theorem op_load_ptr {ek k : Option Nat} {a : Opd} {id off : Nat} {cs : List WV} {v : WV} (hp : fr.place a = none) (ha : fr.rd a = .ptr id off) (hH : H[id]? = some (.var k cs)) (hv : partW ek (peekL (Pl.hp id) 0 cs) off = some v) (hq : Put fr dst v fr') (h : N fr' H) : OpP V (.load ek a) dst fr H N :=
  ⟨fr', H, by show wOp0 (.load ek a) dst fr H = _; simp only [wOp0, hp, ha, loadW, hH, hv, wput, hq.eq], h⟩
theorem op_load_ptrc {ek k : Option Nat} {a : Opd} {id off : Nat} {cs : List WV} {v : CV} (hp : fr.place a = none) (ha : fr.rd a = .ptr id off) (hH : H[id]? = some (.var k cs)) (hv : partW ek (peekL (Pl.hp id) 0 cs) off = some (.c v)) (hq : Put fr dst (.c v) fr') (h : N fr' H) : OpP V (.load ek a) dst fr H N := op_load_ptr hp ha hH hv hq h
theorem flat_noOwnV (u : CV) : (WV.c u).flat.any hasOwn1 = false := by
  cases u <;> simp [WV.flat, hasOwn1]
/-- A closed value into a variable: the memory behind it is known by what it holds. -/
theorem op_store_ptr {ek k : Option Nat} {a x : Opd} {id off : Nat} {cs cs' : List WV} {u : CV} (hp : fr.place a = none) (ha : fr.rd a = .ptr id off) (hx : fr.rd x = .c u) (hf : fitsW ek (.c u) = true) (hH : H[id]? = some (.var k cs)) (hb : (decide (off + (WV.c u).flat.length ≤ cs.length)) = true) (hc : setPartW cs off (WV.c u).flat = cs')
    (h : ∀ H', H'[id]? = some (.var k cs') → (∀ (i : Nat) (o : WO), i ≠ id → H[i]? = some o → H'[i]? = some o) → N fr H') : OpP V (.store ek a x) none fr H N := by
  refine ⟨fr, H.set id (.var k cs'), ?_, h _ (set_get hH _) (fun i o hi ho => by rw [List.getElem?_set_ne (Ne.symm hi)]; exact ho)⟩
  show wOp0 (.store ek a x) none fr H = _
  simp only [wOp0, hp, ha, hx, storeW, if_pos hf, take_c, hH, if_pos (of_decide_eq_true hb), flat_noOwnV, Bool.false_eq_true, if_false, hc]
theorem op_hbox {ek : Option Nat} {x : Opd} {u : CV} (hx : fr.rd x = .c u) (hf : fitsW ek (.c u) = true) (hq : Put fr dst (.ptr H.length 0) fr') (h : N fr' (H ++ [.var ek (WV.c u).flat])) : OpP V (.hbox ek x) dst fr H N :=
  ⟨fr', _, by show wOp0 (.hbox ek x) dst fr H = _; simp only [wOp0, hx, if_pos hf, take_c, hq.eq], h⟩
theorem op_hboxw {ek : Option Nat} {x : Opd} {v : WV} (hx : fr.rd x = v) (hf : fitsW ek v = true) (hs : srcs v = []) (ho : ownIt v = v) (hq : Put fr dst (.ptr H.length 0) fr') (h : N fr' (H ++ [.var ek v.flat])) : OpP V (.hbox ek x) dst fr H N :=
  ⟨fr', _, by
    have ht : Lz.take v fr H = some (v, fr, H) := by unfold Lz.take; rw [hs]; simp only [List.nodup_nil, if_true, hitAll, ho]
    show wOp0 (.hbox ek x) dst fr H = _; simp only [wOp0, hx, if_pos hf, ht, hq.eq], h⟩

theorem op_ix_view {x i : Opd} {ek : Option Nat} {pl : Pl} {b : Bool} {off e : Nat} {xs : List CV} {k : IntKind} {n : Int} {m : Nat} {v : CV} (hx : fr.rd x = .view pl b off e ek xs) (hi : fr.rd i = .c (.int k n)) (hn : n = (m : Nat)) (hb : xs[m]? = some v) (hq : Put fr dst (.eptr pl (off + m) 0 ek v) fr') (h : N fr' H) : OpP V (.ix ek x i) dst fr H N :=
  ⟨fr', H, by show wOp0 (.ix ek x i) dst fr H = _; subst hn; simp only [wOp0, hx, hi, wint, ixW, true_and, if_pos (Int.natCast_nonneg m), Int.toNat_natCast, hb, wput, hq.eq], h⟩
theorem op_ix_viewm {α : Type} {x i : Opd} {ek : Option Nat} {pl : Pl} {b : Bool} {off e : Nat} {l : List α} {f : α → CV} {k : IntKind} {n : Int} {m : Nat} {y : α} (hx : fr.rd x = .view pl b off e ek (l.map f)) (hi : fr.rd i = .c (.int k n)) (hn : n = (m : Nat)) (hb : l[m]? = some y) (hq : Put fr dst (.eptr pl (off + m) 0 ek (f y)) fr') (h : N fr' H) : OpP V (.ix ek x i) dst fr H N :=
  op_ix_view hx hi hn (by rw [List.getElem?_map, hb]; rfl) hq h
theorem op_ix_mapO {α : Type} {x i : Opd} {ek : Option Nat} {l : List α} {f : α → CV} {k : IntKind} {n : Int} {m : Nat} {y : α} (hx : fr.rd x = .c (.frz ek (l.map f))) (hi : fr.rd i = .c (.int k n)) (hb : l[m]? = some y) (hn : n = (m : Nat)) (hq : Put fr dst (.c (.fptr ek (f y) 0)) fr') (h : N fr' H) : OpP V (.ix ek x i) dst fr H N := op_ix_map hx hi hn hb hq h
theorem op_ix_viewmO {α : Type} {x i : Opd} {ek : Option Nat} {pl : Pl} {b : Bool} {off e : Nat} {l : List α} {f : α → CV} {k : IntKind} {n : Int} {m : Nat} {y : α} (hx : fr.rd x = .view pl b off e ek (l.map f)) (hi : fr.rd i = .c (.int k n)) (hb : l[m]? = some y) (hn : n = (m : Nat)) (hq : Put fr dst (.eptr pl (off + m) 0 ek (f y)) fr') (h : N fr' H) : OpP V (.ix ek x i) dst fr H N := op_ix_viewm hx hi hn hb hq h
theorem op_sixO {x i : Opd} {s : List UInt8} {k : IntKind} {n : Int} {m : Nat} {b : UInt8} (hx : fr.rd x = .c (.str s)) (hi : fr.rd i = .c (.int k n)) (hb : s[m]? = some b) (hn : n = (m : Nat)) (hq : Put fr dst (.c (.int .u8 b.toNat)) fr') (h : N fr' H) : OpP V (.six x i) dst fr H N := op_six hx hi hn hb hq h
theorem op_faddr_eptr {n off i : Nat} {a : Opd} {pl : Pl} {ek : Option Nat} {x : CV} (hp : fr.place a = none) (ha : fr.rd a = .eptr pl i off ek x) (hq : Put fr dst (.eptr pl i (off + n) ek x) fr') (h : N fr' H) : OpP V (.faddr n a) dst fr H N :=
  ⟨fr', H, by show wOp0 (.faddr n a) dst fr H = _; simp only [wOp0, hp, ha, hq.eq], h⟩
theorem op_load_eptr {ek ek' : Option Nat} {a : Opd} {pl : Pl} {i off : Nat} {x v : CV} (hp : fr.place a = none) (ha : fr.rd a = .eptr pl i off ek' x) (hv : readC ek' ek x off = some v) (hq : Put fr dst (.c v) fr') (h : N fr' H) : OpP V (.load ek a) dst fr H N :=
  ⟨fr', H, by show wOp0 (.load ek a) dst fr H = _; simp only [wOp0, hp, ha, loadW, hv, Option.map, wput, hq.eq], h⟩
theorem op_len_viewm {α : Type} {x : Opd} {p : Pl} {b : Bool} {off e : Nat} {ek : Option Nat} {l : List α} {f : α → CV} (hx : fr.rd x = .view p b off e ek (l.map f)) (hq : Put fr dst (.c (.int .i64 l.length)) fr') (h : N fr' H) : OpP V (.len false x) dst fr H N :=
  op_len hx (by show some (l.map f).length = _; rw [List.length_map]) hq h
/-- More elements behind a slice that a variable holds. -/
theorem op_app_hp {l : List (Nat × WV)} {al : List (Nat × Option (Nat × Nat))} {e : Nat} {ek kk : Option Nat} {bytes id k : Nat} {s x : Opd} {xs new : List CV} {cs : List WV} {b' : Bool} {e' : Nat} {ek' : Option Nat} {ys : List CV}
    (hs : (FL l al).rd s = .view (.hp id k) true 0 e ek xs) (hx : elemsW ek ((FL l al).rd x) = some new) (hb : (xs.length + new.length) * bytes ≤ 140737488355328 ∧ xs.length + new.length ≤ 140737488355328) (hH : H[id]? = some (.var kk cs)) (hk : cs[k]? = some (.own b' e' ek' ys))
    (hq : Put (FL (hitM (inK [.hp id k]) false l) al) dst (.own true e ek (xs ++ new)) fr') (h : ∀ H', H'[id]? = some (.var kk (cs.set k .gone)) → (∀ (i : Nat) (o : WO), i ≠ id → H[i]? = some o → H'[i]? = some o) → N fr' H') : OpP V (.app e ek bytes s x) dst (FL l al) H N := by
  refine ⟨fr', H.set id (.var kk (cs.set k .gone)), ?_, h _ (set_get hH _) (fun i o hi ho => by rw [List.getElem?_set_ne (Ne.symm hi)]; exact ho)⟩
  have hh : hitAll [.hp id k] false (FL l al) H = (FL (hitM (inK [.hp id k]) false l) al, H.set id (.var kk (cs.set k .gone))) := by
    show (hitF (inK [.hp id k]) false (FL l al), hitH false [.hp id k] H) = _
    rw [hitF_FL]
    simp only [hitH, hH, hk, hit1, if_true, Bool.false_eq_true, if_false]
  show appW e ek bytes ((FL l al).rd s) ((FL l al).rd x) dst (FL l al) H = _
  simp only [appW, hx, hs, true_and, lim, if_pos hb, hh, hq.eq]
theorem op_store_own {l : List (Nat × WV)} {al : List (Nat × Option (Nat × Nat))} {k : Option Nat} {a x : Opd} {id off t : Nat} {cs : List WV} {b : Bool} {o e : Nat} {ek : Option Nat} {xs : List CV} (hp : (FL l al).place a = none) (ha : (FL l al).rd a = .ptr id off) (hx : (FL l al).rd x = .view (.sl t 0 0) b o e ek xs) (hH : H[id]? = some (.var k cs)) (hb : (decide (off + 1 ≤ cs.length)) = true)
    (h : ∀ H', H'[id]? = some (.var k (cs.set off (.own b e ek xs))) → (∀ (i : Nat) (o : WO), i ≠ id → H[i]? = some o → H'[i]? = some o) → N (FL (hitM (inHp id off 1) false (hitM (inK [.sl t 0 0]) false l)) al) H') : OpP V (.store none a x) none (FL l al) H N := by
  have hb := of_decide_eq_true hb
  refine ⟨_, H.set id (.var k (cs.set off (.own b e ek xs))), ?_, h _ (set_get hH _) (fun i o hi ho => by rw [List.getElem?_set_ne (Ne.symm hi)]; exact ho)⟩
  have hs : setPartW cs off [.own b e ek xs] = cs.set off (.own b e ek xs) := by
    unfold setPartW
    rw [List.set_eq_take_append_cons_drop, if_pos (by omega)]
    simp
  have hn : ([Pl.sl t 0 0] : List Pl).Nodup := by simp
  show wOp0 (.store none a x) none (FL l al) H = _
  simp only [wOp0, hp, ha, hx, storeW, fitsW, cellW, if_true, Lz.take, srcs, srcC, src1, if_pos hn, hitAll_sl, ownIt, ownItC, ownIt1, hH, WV.flat, List.length_cons, List.length_nil, Nat.zero_add, if_pos hb, List.any_cons, hasOwn1, List.any_nil, Bool.or_false, hs, hitF_FL]

theorem op_hboxA {ek : Option Nat} {x : Opd} {us : List WV} (hx : fr.rd x = .agg us) (hf : fitsW ek (.agg us) = true) (hs : srcL us = []) (ho : us.map ownIt1 = us) (hq : Put fr dst (.ptr H.length 0) fr') (h : N fr' (H ++ [.var ek us])) : OpP V (.hbox ek x) dst fr H N :=
  op_hboxw hx hf hs (by show WV.agg (us.map ownIt1) = _; rw [ho]) hq h
/-! ### calls that share the memory -/
/-- A frame that is known at some places. -/
theorem FL_know {x : List (Nat × WV)} {a : List (Nat × Option (Nat × Nat))} {s : Nat} {v : WV} (h : frl x s = v) : FL x a = FL ((s, v) :: x) a := FL_same h
/-- No local box in a slot, whatever places were emptied. -/
theorem nb_hit {K : Pl → Bool} {fz : Bool} {x : List (Nat × WV)} {s : Nat} (h : wdstOk (FL x []) (some s) = true) : wdstOk (FL (hitM K fz x) []) (some s) = true := by
  have e : (FL (hitM K fz x) []).env s = hit K fz (Pl.sl s) ((FL x []).env s) := by
    show frl (hitM K fz x) s = _
    rw [look_hitM]; rfl
  unfold wdstOk at h ⊢
  simp only [e]
  simp only at h
  generalize (FL x []).env s = v at h ⊢
  cases v with
  | lbox ek v => simp at h
  | own b e ek xs => cases h1 : K (Pl.sl s 0 0) <;> cases fz <;> simp [hit, hitC, hit1, h1]
  | view p b off e ek xs => cases h1 : K p <;> simp [hit, hitC, hit1, h1]
  | eptr p i off ek x => cases h1 : K p <;> simp [hit, hitC, hit1, h1]
  | _ => rfl
def nbx : WV → Bool
  | .lbox _ _ => false
  | _ => true
theorem nb_nil {k : Nat} : ∀ s, s ≠ k → wdstOk (FL [] []) (some s) = true := fun _ _ => rfl
theorem nb_cons {t k : Nat} {v : WV} {x : List (Nat × WV)} (hv : (nbx v || Nat.beq t k) = true) (h : ∀ s, s ≠ k → wdstOk (FL x []) (some s) = true) : ∀ s, s ≠ k → wdstOk (FL ((t, v) :: x) []) (some s) = true := by
  intro s hs
  have e : (FL ((t, v) :: x) []).env s = if s = t then v else (FL x []).env s := by
    show (bif Nat.beq s t then v else frl x s) = _
    rw [beq_if]; rfl
  unfold wdstOk
  simp only [e]
  by_cases hst : s = t
  · subst hst
    rw [if_pos rfl]
    rcases Bool.or_eq_true _ _ ▸ hv with h1 | h1
    · cases v <;> first | rfl | cases h1
    · exact absurd (Nat.eq_of_beq_eq_true h1) hs
  · rw [if_neg hst]; exact h s hs
structure Shr (V : WEnv) (f : Nat) (asv : List WV) (H : WHeap) (r : WV) (Q : WHeap → Prop) : Prop where
  run : ∃ H', wv V f asv H = some (r, H') ∧ Q H'
theorem takenS_nil : ∀ (i : Nat) (vs : List WV), takenS [] i vs = [] := by
  intro i vs
  induction vs generalizing i with
  | nil => rfl
  | cons v r ih => simp only [takenS, List.contains_nil, Bool.false_eq_true, if_false, ih, List.append_nil]
theorem op_callS {l : List (Nat × WV)} {a : List (Nat × Option (Nat × Nat))} {f : Nat} {args : List Opd} {r : WV} {Q : WHeap → Prop} (hm : V.md f = .S) (ht : V.tk f = []) (hn : cleanHp l = true) (ho : (args.map (FL l a).rd).all okA = true)
    (hc : Shr V f (passW [] 0 (args.map (FL l a).rd)) H r Q) (hq : Put (FL l a) dst r fr') (h : ∀ H', Q H' → N fr' H') : OpP V (.call f args) dst (FL l a) H N := by
  obtain ⟨H2, h1, h2⟩ := hc
  refine ⟨fr', H2, ?_, h H2 h2⟩
  show wcallTo V (wv V) f (args.map (FL l a).rd) dst (FL l a) H = _
  simp only [wcallTo, hm, ht, takenS_nil, ho, List.nodup_nil, List.all_nil, and_self, if_true, hitAll, h1, hitF_FL, hitM_hp hn, hq.eq]
theorem op_callSg {l : List (Nat × WV)} {a : List (Nat × Option (Nat × Nat))} {f : Nat} {args : List Opd} {r : WV} {Q : WHeap → Prop} (hm : V.md f = .S) (ht : V.tk f = []) (ho : (args.map (FL l a).rd).all okA = true)
    (hc : Shr V f (passW [] 0 (args.map (FL l a).rd)) H r Q) (hq : Put (FL (hitM isHp false l) a) dst r fr') (h : ∀ H', Q H' → N fr' H') : OpP V (.call f args) dst (FL l a) H N := by
  obtain ⟨H2, h1, h2⟩ := hc
  refine ⟨fr', H2, ?_, h H2 h2⟩
  show wcallTo V (wv V) f (args.map (FL l a).rd) dst (FL l a) H = _
  simp only [wcallTo, hm, ht, takenS_nil, ho, List.nodup_nil, List.all_nil, and_self, if_true, hitAll, h1, hitF_FL, hq.eq]
/-- Two results: a variable's slice, a box. -/
theorem fin2hp {a b id k e : Nat} {bb : Bool} {ek ek' : Option Nat} {xs : List CV} {u : CV} (h1 : fr.env a = .view (.hp id k) bb 0 e ek xs) (h2 : fr.env b = .lbox ek' (.c u)) : fin [.tmp a, .cell b ek'] (.tup [.c (.frz ek xs), .c u]) fr H := by
  refine ⟨[.view (.hp id k) bb 0 e ek xs, .c u], .tup [.own bb e ek xs, .c u], hitH false [.hp id k] H, ?_, ?_, ?_⟩
  · simp [wresOf, h1, h2, wunbox, peekC, peek1]
  · unfold wfinish
    simp [srcAll, srcC, src1, okRes, okRes1, leaveP, woneOf, leaveC, leave1]
  · simp [shut, shutT, shutC, shut1]
theorem fin2 {a b : Nat} {ek' : Option Nat} {u w : CV} (hd : a ≠ b) (h1 : ShI fr (.tmp a) w) (h2 : fr.env b = .lbox ek' (.c u)) : fin [.tmp a, .cell b ek'] (.tup [.c w, .c u]) fr H :=
  fin_all (us := [w, u]) (by simp [IRes.at, hd]) (.cons h1 (.cons (.cell h2) .nil))
theorem shut_bool {r0 : WV} {b : Bool} (h : shut r0 = some (.c (.bool b))) : r0 = .c (.bool b) := by
  cases r0 with
  | c v => simpa [shut, shutC, shut1, thawW0] using h
  | agg cs => simp only [shut, shutC] at h; cases hl : shutL cs <;> rw [hl] at h <;> simp at h
  | tup vs => simp only [shut] at h; cases hl : shutT vs <;> rw [hl] at h <;> simp at h
  | _ => simp [shut, shutC, shut1, thawW0] at h
theorem rets_bool {f : Nat} {asv : List WV} {b : Bool} (h : Rets V f asv (.c (.bool b))) : ∃ H', wv V f asv [] = some (.c (.bool b), H') := by
  obtain ⟨r0, H, h1, h2⟩ := h
  exact ⟨H, by rw [h1, shut_bool h2]⟩
/-- A result that is known by what holds of it. -/
theorem rets_ofP {f : Nat} {asv : List WV} {Q : WV → Prop} {b : ICode} {rs : List IRes} (hg : V.fn f = some ⟨b, rs⟩) (h : WP V b (FL (wbinds 0 asv) []) [] (fun fr H => ∃ r, Q r ∧ fin rs r fr H) [] (fun fr H => ∃ r, Q r ∧ fin rs r fr H)) : ∃ r, Q r ∧ Rets V f asv r := by
  obtain ⟨s, fr1, H1, h1, h2⟩ := h
  have key : (s = .nrm ∨ s = .ret) → (∃ r, Q r ∧ fin rs r fr1 H1) → ∃ r, Q r ∧ Rets V f asv r := by
    rintro hs ⟨r, hq, vs, r0, H2, g1, g2, g3⟩
    refine ⟨r, hq, r0, H2, ?_, g3⟩
    rw [wv_eq, wFn, hg]
    simp only [FL_start, h1]
    rcases hs with rfl | rfl <;> simp only [g1] <;> exact g2
  cases s with
  | nrm => exact key (.inl rfl) h2
  | ret => exact key (.inr rfl) h2
  | exit i => exact absurd h2 (by simp [outK, exitK])
  | goto i => exact absurd h2 (by simp [outK])
def finS (n : Nat) (res : List IRes) (r : WV) (Q : WHeap → Prop) : Post := fun fr H => ∃ vs r0 H', wresOf fr H res = some vs ∧ wfinish n vs H = some (r0, H') ∧ r0 = r ∧ Q H'
theorem finS0 {n : Nat} {Q : WHeap → Prop} (h : Q H) : finS n [] (.tup []) Q fr H := ⟨[], .tup [], H, rfl, rfl, rfl, h⟩
theorem finS1 {n t : Nat} {u u' : CV} {Q : WHeap → Prop} (ht : fr.env t = .c u) (hu : u = u') (h : Q H) : finS n [.tmp t] (.c u') Q fr H := by
  subst hu
  refine ⟨[.c u], .c u, H, ?_, ?_, rfl, h⟩
  · simp only [wresOf, ht]; rfl
  · rfl
theorem shr_of {f : Nat} {asv : List WV} {r : WV} {Q : WHeap → Prop} {b : ICode} {rs : List IRes} (hg : V.fn f = some ⟨b, rs⟩) (h : WP V b (FL (wbinds 0 asv) []) H (finS H.length rs r Q) [] (finS H.length rs r Q)) : Shr V f asv H r Q := by
  obtain ⟨s, fr1, H1, h1, h2⟩ := h
  have key : (s = .nrm ∨ s = .ret) → finS H.length rs r Q fr1 H1 → Shr V f asv H r Q := by
    rintro hs ⟨vs, r0, H2, g1, g2, rfl, g3⟩
    refine ⟨H2, ?_, g3⟩
    rw [wv_eq, wFn, hg]
    simp only [FL_start, h1]
    rcases hs with rfl | rfl <;> simp only [g1] <;> exact g2
  cases s with
  | nrm => exact key (.inl rfl) h2
  | ret => exact key (.inr rfl) h2
  | exit i => exact absurd h2 (by simp [outK, exitK])
  | goto i => exact absurd h2 (by simp [outK])
/-- A loop that changes the memory. -/
theorem wp_loopH {σ : Type} {live : List Nat} {body : ICode} (K : σ → List (Nat × WV)) (P : σ → WHeap → Prop) (μ : σ → Nat) (s0 : σ) (h0 : KpL live fr live (K s0)) (hP : P s0 H)
    (hb : ∀ s H, P s H → WP V body (FL (K s) []) H (fun fr' H' => ∃ s', KpL live fr' live (K s') ∧ P s' H' ∧ μ s' < μ s) B R) : WP V (.loop live body) fr H N B R := by
  have key : ∀ n s fr H, μ s < n → KpL live fr live (K s) → P s H → WP V (.loop live body) fr H N B R := by
    intro n
    induction n with
    | zero => intro s fr H h; omega
    | succ n ih =>
      intro s fr H hn hk hp
      obtain ⟨x, fr1, H1, g1, g2⟩ := hb s H hp
      have e : wC V (wv V) witW (.loop live body) fr H = match wC V (wv V) witW body (FL (K s) []) H with
        | some (.nrm, fr', H') => wC V (wv V) witW (.loop live body) fr' H'
        | r => r := by
        rw [w_loop, witW_eq, kp_keep hk]
        rfl
      cases x with
      | nrm =>
        obtain ⟨s', k1, k2, k3⟩ := g2
        obtain ⟨y, fr2, H2, m1, m2⟩ := ih s' fr1 H1 (by omega) k1 k2
        exact ⟨y, fr2, H2, by rw [e, g1]; exact m1, m2⟩
      | exit i => exact ⟨.exit i, fr1, H1, by rw [e, g1], g2⟩
      | goto i => exact ⟨.goto i, fr1, H1, by rw [e, g1], g2⟩
      | ret => exact ⟨.ret, fr1, H1, by rw [e, g1], g2⟩
  exact key (μ s0 + 1) s0 fr H (by omega) h0 hP
theorem wp_mono {c : ICode} {N' : Post} {B' : Hs} {R' : Post} (h : WP V c fr H N B R) (hN : ∀ fr H, N fr H → N' fr H) (hB : ∀ i fr H, exitK B i fr H → exitK B' i fr H) (hR : ∀ fr H, R fr H → R' fr H) : WP V c fr H N' B' R' := by
  obtain ⟨s, fr1, H1, h1, h2⟩ := h
  refine ⟨s, fr1, H1, h1, ?_⟩
  cases s with
  | nrm => exact hN _ _ h2
  | exit i => exact hB _ _ _ h2
  | goto i => exact h2
  | ret => exact hR _ _ h2
/-- A block's end, said once. -/
theorem wp_cut {c : ICode} {M : Post} (h : WP V c fr H M B R) (hM : ∀ fr H, M fr H → N fr H) : WP V c fr H N B R := wp_mono h hM (fun _ _ _ h => h) (fun _ _ h => h)
end
end Go.Proofs.Lz
