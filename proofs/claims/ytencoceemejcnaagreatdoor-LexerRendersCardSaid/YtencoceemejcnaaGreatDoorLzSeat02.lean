/- Chapter 02: from laws on the evaluator to the seat's rows: what the rows' listed variables give. -/
import Derived.Test.YtencoceemejcnaaGreatDoorLzVc2
import Derived.Test.YtencoceemejcnaaGreatDoorLzCode02
import Derived.Test.YtencoceemejcnaaGreatDoorLzLays02
import Derived.Test.YtencoceemejcnaaGreatDoorLzExt2
import Derived.Test.YtencoceemejcnaaGreatDoorLzBld
import Derived.Test.YtencoceemejcnaaGreatDoorLzWCode
import Derived.Test.YtencoceemejcnaaGreatDoorRows
import Derived.Test.YtencoceemejcnaaGreatDoorTie
import Derived.Test.YtencoceemejcnaaGreatDoorCards
import Derived.Test.YtencoceemejcnaaGreatDoorLzRow2
import Derived.ProofKit
import Derived.Lay
import Derived.Lib.LaidTab
import Derived.Lib.LaidU8
import Derived.Handed
import Derived.LaidOnce
import Derived.SevenTiedAt
set_option linter.unusedSimpArgs false
set_option linter.unusedVariables false
namespace Go.Proofs.Lz
section
variable {V : WEnv} {fr fr' : WFr} {H H' : z16} {N : Post} {B : Hs} {R : RP} {dst : Option Nat} {d : Nat}
def qw2 : WV → Bool
 | .view p _ _ _ _ _ => !isHp p
 | .eptr p _ _ _ _ => !isHp p
 | _ => true
def qm6 : WV → Bool
 | .agg cs => cs.all qw2
 | v => qw2 v
def jw7 : WV → Bool
 | .tup vs => vs.all qm6
 | .lbox _ v => qm6 v
 | v => qm6 v
def qf6 : List (Nat × WV) → Bool
 | [] => true
 | (_, v) :: r => jw7 v && qf6 r
theorem jc4 {s i k : Nat} {v : WV} (h : qw2 v = true) : hit1 isHp false (.sl s i k) v = v := by
 cases v with
 | own bb e ek xs => rfl
 | view p bb off e ek xs =>
   have : isHp p = false := by simpa [qw2] using h
   simp only [hit1, this]; rfl
 | eptr p i off ek x =>
   have : isHp p = false := by simpa [qw2] using h
   simp only [hit1, this]; rfl
 | _ => rfl
theorem w43 {s i : Nat} : ∀ (k : Nat) (cs : List WV), cs.all qw2 = true → hitL isHp false (Pl.sl s i) k cs = cs := by
 intro k cs
 induction cs generalizing k with
 | nil => intro _; rfl
 | cons v r ih =>
   intro h
   simp only [List.all_cons, Bool.and_eq_true] at h
   simp only [hitL, jc4 h.1, ih _ h.2]
theorem qv0 {s i : Nat} {v : WV} (h : qm6 v = true) : hitC isHp false (Pl.sl s i) v = v := by
 have h1 : ∀ w, qm6 w = qw2 w → hitC isHp false (Pl.sl s i) w = hit1 isHp false (Pl.sl s i 0) w → qm6 w = true → hitC isHp false (Pl.sl s i) w = w := fun w e1 e2 e3 => by rw [e2]; exact jc4 (by rw [← e1]; exact e3)
 cases v <;> first | exact h1 _ rfl rfl h | (simp only [hitC]; rw [w43 0 _ h])
theorem wa0 {s : Nat} : ∀ (i : Nat) (vs : List WV), vs.all qm6 = true → hitT isHp false (Pl.sl s) i vs = vs := by
 intro i vs
 induction vs generalizing i with
 | nil => intro _; rfl
 | cons v r ih =>
   intro h
   simp only [List.all_cons, Bool.and_eq_true] at h
   simp only [hitT, qv0 h.1, ih _ h.2]
theorem wp2 {s : Nat} {v : WV} (h : jw7 v = true) : hit isHp false (Pl.sl s) v = v := by
 have h1 : ∀ w, jw7 w = qm6 w → hit isHp false (Pl.sl s) w = hitC isHp false (Pl.sl s 0) w → jw7 w = true → hit isHp false (Pl.sl s) w = w := fun w e1 e2 e3 => by rw [e2]; exact qv0 (by rw [← e1]; exact e3)
 cases v <;> first | exact h1 _ rfl rfl h | (simp only [hit, wa0 0 _ h]; done) | (simp only [hit]; rw [qv0 h])
theorem w63 : ∀ {l : List (Nat × WV)}, qf6 l = true → hitM isHp false l = l := by
 intro l
 induction l with
 | nil => intro _; rfl
 | cons p r ih =>
   obtain ⟨t, v⟩ := p
   intro h
   simp only [qf6, Bool.and_eq_true] at h
   simp only [hitM, wp2 h.1, ih h.2]
theorem z91 {ek k : Option Nat} {a : Opd} {id off : Nat} {cs : List WV} {v : WV} (hp : fr.place a = none) (ha : fr.rd a = .ptr id off) (hH : H[id]? = some (.var k cs)) (hv : zy5 ek (qb1 (Pl.hp id) 0 cs) off = some v) (hq : Put fr dst v fr') (h : N fr' H) : OpP V (.load ek a) dst fr H N :=
 ⟨fr', H, by show wOp0 (.load ek a) dst fr H = _; simp only [wOp0, hp, ha, zv4, hH, hv, wput, hq.eq], h⟩
theorem qs3 {ek k : Option Nat} {a : Opd} {id off : Nat} {cs : List WV} {v : CV} (hp : fr.place a = none) (ha : fr.rd a = .ptr id off) (hH : H[id]? = some (.var k cs)) (hv : zy5 ek (qb1 (Pl.hp id) 0 cs) off = some (.c v)) (hq : Put fr dst (.c v) fr') (h : N fr' H) : OpP V (.load ek a) dst fr H N := z91 hp ha hH hv hq h
theorem jq2 {ek : Option Nat} {x : Opd} {v : WV} (hx : fr.rd x = v) (hf : fitsW (ekB ek) v = true) (hs : srcs v = []) (ho : ze0 v = v) (hq : Put fr dst (.ptr H.length 0) fr') (h : N fr' (H ++ [.var ek v.flat])) : OpP V (.hbox ek x) dst fr H N :=
 ⟨fr', _, by
  have ht : Lz.take v fr H = some (v, fr, H) := by unfold Lz.take; rw [hs]; simp only [List.nodup_nil, if_true, ze2, ho]
  show wOp0 (.hbox ek x) dst fr H = _; simp only [wOp0, hx, if_pos hf, ht, hq.eq], h⟩
theorem qq0 {α : Type} {x : Opd} {p : Pl} {b : Bool} {off e : Nat} {ek : Option Nat} {l : List α} {f : α → CV} (hx : fr.rd x = .view p b off e ek (l.map f)) (hq : Put fr dst (.c (.int .i64 l.length)) fr') (h : N fr' H) : OpP V (.len false x) dst fr H N :=
 j54 hx (by show some (l.map f).length = _; rw [List.length_map]) hq h
theorem qr1 {l : List (Nat × WV)} {al : List (Nat × Option (Nat × Nat))} {e : Nat} {ek kk : Option Nat} {bytes id k : Nat} {s x : Opd} {xs new : List CV} {cs : List WV} {b' : Bool} {e' : Nat} {ek' : Option Nat} {ys : List CV}
 (hs : (FL l al).rd s = .view (.hp id k) true 0 e ek xs) (hx : zu9 ek ((FL l al).rd x) = some new) (hb : (xs.length + new.length) * bytes ≤ 140737488355328 ∧ xs.length + new.length ≤ 140737488355328) (hH : H[id]? = some (.var kk cs)) (hk : cs[k]? = some (.own b' e' ek' ys))
 (hq : Put (FL (hitM (inK [.hp id k]) false l) al) dst (.own true e ek (xs ++ new)) fr') (h : ∀ H', H'[id]? = some (.var kk (cs.set k .gone)) → (∀ (i : Nat) (o : WO), i ≠ id → H[i]? = some o → H'[i]? = some o) → N fr' H') : OpP V (.app e ek bytes s x) dst (FL l al) H N := by
 refine ⟨fr', H.set id (.var kk (cs.set k .gone)), ?_, h _ (qh2 hH _) (fun i o hi ho => by rw [List.getElem?_set_ne (Ne.symm hi)]; exact ho)⟩
 have hh : ze2 [.hp id k] false (FL l al) H = (FL (hitM (inK [.hp id k]) false l) al, H.set id (.var kk (cs.set k .gone))) := by
  show (hitF (inK [.hp id k]) false (FL l al), hitH false [.hp id k] H) = _
  rw [zv5]
  simp only [hitH, hH, hk, hit1, if_true, Bool.false_eq_true, if_false]
 show appW e ek bytes ((FL l al).rd s) ((FL l al).rd x) dst (FL l al) H = _
 simp only [appW, hx, hs, true_and, lim, if_pos hb, hh, hq.eq]
theorem zl6 {l : List (Nat × WV)} {al : List (Nat × Option (Nat × Nat))} {k : Option Nat} {a x : Opd} {id off t : Nat} {cs : List WV} {b : Bool} {o e : Nat} {ek : Option Nat} {xs : List CV} (hp : (FL l al).place a = none) (ha : (FL l al).rd a = .ptr id off) (hx : (FL l al).rd x = .view (.sl t 0 0) b o e ek xs) (hH : H[id]? = some (.var k cs)) (hb : (decide (off + 1 ≤ cs.length)) = true)
 (h : ∀ H', H'[id]? = some (.var k (cs.set off (.own b e ek xs))) → (∀ (i : Nat) (o : WO), i ≠ id → H[i]? = some o → H'[i]? = some o) → N (FL (hitM (inHp id off 1) false (hitM (inK [.sl t 0 0]) false l)) al) H') : OpP V (.store none a x) none (FL l al) H N := by
 have hb := of_decide_eq_true hb
 refine ⟨_, H.set id (.var k (cs.set off (.own b e ek xs))), ?_, h _ (qh2 hH _) (fun i o hi ho => by rw [List.getElem?_set_ne (Ne.symm hi)]; exact ho)⟩
 have hs : z98 cs off [.own b e ek xs] = cs.set off (.own b e ek xs) := by
  unfold z98
  rw [List.set_eq_take_append_cons_drop, if_pos (by omega)]
  simp
 have hn : ([Pl.sl t 0 0] : List Pl).Nodup := by simp
 show wOp0 (.store none a x) none (FL l al) H = _
 simp only [wOp0, hp, ha, hx, zx0, fitsW, cellW, if_true, Lz.take, srcs, srcC, src1, if_pos hn, zx5, ze0, z43, zb7, hH, WV.flat, List.length_cons, List.length_nil, Nat.zero_add, if_pos hb, List.any_cons, z66, List.any_nil, Bool.or_false, hs, zv5]
theorem j18 {ek : Option Nat} {x : Opd} {us : List WV} (hx : fr.rd x = .agg us) (hf : fitsW (ekB ek) (.agg us) = true) (hs : srcL us = []) (ho : us.map zb7 = us) (hq : Put fr dst (.ptr H.length 0) fr') (h : N fr' (H ++ [.var ek us])) : OpP V (.hbox ek x) dst fr H N :=
 jq2 hx hf hs (by show WV.agg (us.map zb7) = _; rw [ho]) hq h
def nbx : WV → Bool
 | .lbox _ _ => false
 | _ => true
structure Shr (V : WEnv) (f : Nat) (asv : List WV) (H : z16) (r : WV) (Q : z16 → Prop) : Prop where
 run : ∃ H', wv V f asv H = some (r, H') ∧ Q H'
theorem j91 : ∀ (i : Nat) (vs : List WV), ze7 [] i vs = [] := by
 intro i vs
 induction vs generalizing i with
 | nil => rfl
 | cons v r ih => simp only [ze7, List.contains_nil, Bool.false_eq_true, if_false, ih, List.append_nil]
theorem zb4 {l : List (Nat × WV)} {a : List (Nat × Option (Nat × Nat))} {f : Nat} {args : List Opd} {r : WV} {Q : z16 → Prop} (hm : V.md f = .S) (ht : V.tk f = []) (hn : qf6 l = true) (ho : (args.map (FL l a).rd).all okA = true)
 (hc : Shr V f (zx7 [] 0 (args.map (FL l a).rd)) H r Q) (hq : Put (FL l a) dst r fr') (h : ∀ H', Q H' → N fr' H') : OpP V (.call f args) dst (FL l a) H N := by
 obtain ⟨H2, h1, h2⟩ := hc
 refine ⟨fr', H2, ?_, h H2 h2⟩
 show zb2 V (wv V) f (args.map (FL l a).rd) dst (FL l a) H = _
 simp only [zb2, hm, ht, j91, ho, List.nodup_nil, List.all_nil, and_self, if_true, ze2, h1, zv5, w63 hn, hq.eq]
theorem shut_bool {r0 : WV} {b : Bool} (h : shut r0 = some (.c (.bool b))) : r0 = .c (.bool b) := by
 cases r0 with
 | c v => simpa [shut, qa6, shut1, zc8] using h
 | agg cs => simp only [shut, qa6] at h; cases hl : j69 cs <;> rw [hl] at h <;> simp at h
 | tup vs => simp only [shut] at h; cases hl : qb5 vs <;> rw [hl] at h <;> simp at h
 | _ => simp [shut, qa6, shut1, zc8] at h
theorem jb7 {f : Nat} {asv : List WV} {b : Bool} (h : Rets V f asv (.c (.bool b))) : ∃ H', wv V f asv [] = some (.c (.bool b), H') := by
 obtain ⟨r0, H, h1, h2⟩ := h
 exact ⟨H, by rw [h1, shut_bool h2]⟩
def finS (n : Nat) (res : List IRes) (r : WV) (Q : z16 → Prop) : Post := fun fr H => ∃ vs r0 H', ze8 fr H res = some vs ∧ zn1 n vs H = some (r0, H') ∧ r0 = r ∧ Q H'
theorem wm0 {n : Nat} {Q : z16 → Prop} (h : Q H) : finS n [] (.tup []) Q fr H := ⟨[], .tup [], H, rfl, rfl, rfl, h⟩
theorem qu9 {n t : Nat} {u u' : CV} {Q : z16 → Prop} (ht : fr.env t = .c u) (hu : u = u') (h : Q H) : finS n [.tmp t] (.c u') Q fr H := by
 subst hu
 refine ⟨[.c u], .c u, H, ?_, ?_, rfl, h⟩
 · simp only [ze8, ht]; rfl
 · rfl
theorem q67 {f : Nat} {asv : List WV} {r : WV} {Q : z16 → Prop} {b : ICode} {rs : List IRes} (hg : V.fn f = some ⟨b, rs⟩) (h : WP V b (FL (zg7 0 asv) []) H (finS H.length rs r Q) [] (finS H.length rs r Q)) (ha : arFn (V.ar f) asv.length (V.fn f) = V.fn f := by exact rfl) : Shr V f asv H r Q := by
 obtain ⟨s, fr1, H1, h1, h2⟩ := h
 have key : (s = .nrm ∨ s = .ret) → finS H.length rs r Q fr1 H1 → Shr V f asv H r Q := by
  rintro hs ⟨vs, r0, H2, g1, g2, rfl, g3⟩
  refine ⟨H2, ?_, g3⟩
  rw [jy7, wFn, WEnv.fnA, ha, hg]
  simp only [qg8, h1]
  rcases hs with rfl | rfl <;> simp only [g1] <;> exact g2
 cases s with
 | nrm => exact key (.inl rfl) h2
 | ret => exact key (.inr rfl) h2
 | exit i => exact absurd h2 (by simp [outK, qj0])
 | goto i => exact absurd h2 (by simp [outK])
theorem wp_goto {l : Nat} (h : R.go l fr H) : WP V (.goto l) fr H N B R := ⟨.goto l, fr, H, rfl, h⟩
theorem qc3 {l : Nat} (h : N fr H) : WP V (.label l) fr H N B R := ⟨.nrm, fr, H, rfl, h⟩
theorem qc0 {σ : Type} {l : Nat} {live : List Nat} {body rest : ICode} (K : σ → List (Nat × WV)) (P : σ → z16 → Prop) (μ : σ → Nat)
 (hbody : WP V body fr H N B ⟨R.ret, fun l' fr' H' => l' = l ∧ ∃ s, KpL live fr' live (K s) ∧ P s H'⟩)
 (hb : ∀ s H, P s H → WP V rest (FL (K s) []) H N B ⟨R.ret, fun l' fr' H' => l' = l ∧ ∃ s', KpL live fr' live (K s') ∧ P s' H' ∧ μ s' < μ s⟩) : WP V (.scope l live body rest) fr H N B R := by
 have turn : ∀ n s fr H, μ s < n → KpL live fr live (K s) → P s H → ∃ x fr' H', zr6 l (witW (fun fr H => zd0 l (wC V (wv V) witW rest (zj5 live fr) H)) fr H) = some (x, fr', H') ∧ outK N B R x fr' H' := by
  intro n
  induction n with
  | zero => intro s fr H h; omega
  | succ n ih =>
    intro s fr H hn hk hp
    obtain ⟨x, fr1, H1, g1, g2⟩ := hb s H hp
    rw [qt1, qg9 hk, g1]
    cases x with
    | nrm => exact ⟨.nrm, fr1, H1, by simp only [zd0, zr6, if_true], g2⟩
    | ret => exact ⟨.ret, fr1, H1, rfl, g2⟩
    | exit i => exact ⟨.exit i, fr1, H1, rfl, g2⟩
    | goto l' =>
      obtain ⟨rfl, s', k1, k2, k3⟩ := g2
      simp only [zd0, if_true]
      exact ih s' fr1 H1 (by omega) k1 k2
 obtain ⟨x, fr1, H1, g1, g2⟩ := hbody
 have e : wC V (wv V) witW (.scope l live body rest) fr H = match wC V (wv V) witW body fr H with
  | some (.goto l', fr', H') => if l' = l then zr6 l (witW (fun fr H => zd0 l (wC V (wv V) witW rest (zj5 live fr) H)) fr' H') else none
  | r => r := rfl
 cases x with
 | nrm => exact ⟨.nrm, fr1, H1, by rw [e, g1], g2⟩
 | ret => exact ⟨.ret, fr1, H1, by rw [e, g1], g2⟩
 | exit i => exact ⟨.exit i, fr1, H1, by rw [e, g1], g2⟩
 | goto l' =>
   obtain ⟨rfl, s, k1, k2⟩ := g2
   obtain ⟨y, fr2, H2, m1, m2⟩ := turn (μ s + 1) s fr1 H1 (by omega) k1 k2
   exact ⟨y, fr2, H2, by rw [e, g1]; simp only [if_true]; exact m1, m2⟩
theorem zr1 {f : Nat} {xs : List CV} {u : CV} {g : List CV → Option (List CV)} (hf : V.fn f = none) (he : V.ext f = some g) (hg : g xs = some [u]) : Rets V f (xs.map .c) (.c u) := by
 have hfn : V.fnA f (xs.map WV.c).length = none := by
  simp only [WEnv.fnA, hf, arFn]
  split
  · rfl
  · split <;> rfl
 have hcl : ∀ l : List CV, z61 (l.map WV.c) = some l := by
  intro l
  induction l with
  | nil => rfl
  | cons x l ih => simp only [List.map_cons, z61, ih]
 refine ⟨.c u, [], ?_, rfl⟩
 rw [jy7, wFn, hfn]
 simp only [wExt, he, hcl, hg]
 rfl
theorem zw4 {f : Nat} {xs us : List CV} {g : List CV → Option (List CV)} (hf : V.fn f = none) (he : V.ext f = some g) (hg : g xs = some us) (hn : us.length ≠ 1) : Rets V f (xs.map .c) (.tup (us.map .c)) := by
 have hfn : V.fnA f (xs.map WV.c).length = none := by
  simp only [WEnv.fnA, hf, arFn]
  split
  · rfl
  · split <;> rfl
 have hcl : ∀ l : List CV, z61 (l.map WV.c) = some l := by
  intro l
  induction l with
  | nil => rfl
  | cons x l ih => simp only [List.map_cons, z61, ih]
 have ht : ∀ l : List CV, qb5 (l.map WV.c) = some (l.map WV.c) := by
  intro l
  induction l with
  | nil => rfl
  | cons x l ih => simp only [List.map_cons, qb5, shut1, qa6, zc8, ih]
 have e : zc0 (us.map WV.c) = .tup (us.map .c) := by
  match us, hn with
  | [], _ => rfl
  | [a], hn => exact absurd rfl hn
  | a :: b :: l, _ => rfl
 refine ⟨.tup (us.map .c), [], ?_, ?_⟩
 · rw [jy7, wFn, hfn]
   simp only [wExt, he, hcl, hg, e]
 · simp only [shut, ht, Option.map_some]
theorem qd7 {σ : Type} {live : List Nat} {body : ICode} (K : σ → List (Nat × WV)) (P : σ → z16 → Prop) (μ : σ → Nat) (s0 : σ) (h0 : KpL live fr live (K s0)) (hP : P s0 H)
 (hb : ∀ s H, P s H → WP V body (FL (K s) []) H (fun fr' H' => ∃ s', KpL live fr' live (K s') ∧ P s' H' ∧ μ s' < μ s) B R) : WP V (.loop live body) fr H N B R := by
 have key : ∀ n s fr H, μ s < n → KpL live fr live (K s) → P s H → WP V (.loop live body) fr H N B R := by
  intro n
  induction n with
  | zero => intro s fr H h; omega
  | succ n ih =>
    intro s fr H hn hk hp
    obtain ⟨x, fr1, H1, g1, g2⟩ := hb s H hp
    have e : wC V (wv V) witW (.loop live body) fr H = match wC V (wv V) witW body (FL (K s) []) H with
     | some (.nrm, fr', H') => wC V (wv V) witW (.loop live body) fr' H'
     | r => r := by
     rw [jz9, qt1, qg9 hk]
     rfl
    cases x with
    | nrm =>
      obtain ⟨s', k1, k2, k3⟩ := g2
      obtain ⟨y, fr2, H2, m1, m2⟩ := ih s' fr1 H1 (by omega) k1 k2
      exact ⟨y, fr2, H2, by rw [e, g1]; exact m1, m2⟩
    | exit i => exact ⟨.exit i, fr1, H1, by rw [e, g1], g2⟩
    | goto i => exact ⟨.goto i, fr1, H1, by rw [e, g1], g2⟩
    | ret => exact ⟨.ret, fr1, H1, by rw [e, g1], g2⟩
 exact key (μ s0 + 1) s0 fr H (by omega) h0 hP
end
section
variable {fr : WFr} {H : z16}
theorem zx8 {r1 r2 : IRes} {u v : CV} {r : WV} (h1 : ShI fr r1 u) (h2 : ShI fr r2 v) (hd : ([r1, r2].map IRes.at).Nodup) (e : r = .tup [.c u, .c v]) : fin [r1, r2] r fr H := by
 subst e
 exact qw8 hd (.cons h1 (.cons h2 .nil))
theorem qj8 {r1 r2 r3 : IRes} {u v w : CV} {r : WV} (h1 : ShI fr r1 u) (h2 : ShI fr r2 v) (h3 : ShI fr r3 w) (hd : ([r1, r2, r3].map IRes.at).Nodup) (e : r = .tup [.c u, .c v, .c w]) : fin [r1, r2, r3] r fr H := by
 subst e
 exact qw8 hd (.cons h1 (.cons h2 (.cons h3 .nil)))
end
end Go.Proofs.Lz
namespace Go.Proofs.TryzL
open Go.Proofs.Lz Go.Shelf
def errP (vs : List Value) : Prop := ∃ ev, vs = [ev] ∧ (ev = .nilIface ∨ ∃ t p, ev = .iface t p)
instance : GlobTab := ⟨[(0, fun vs => ∃ m : Int, vs = [.int .i64 m]), (1, fun vs => vs = Lib.pow10Tab.map fun z => Value.int .u64 z), (4, errP), (5, errP)]⟩
def extT : Nat → Option (List CV → Option (List CV))
 | 35 => some idxG
 | 43 => some repG
 | 54 => some hpfG
 | 77 => some hasG
 | 84 => some w11
 | 81 => some jf7
 | 117 => some jc1
 | 118 => some qj2
 | 173 => some cutG
 | _ => none
def arT : Nat → Option Nat
 | 46 => some 1
 | 78 => some 1
 | _ => none
def fnH (n : Nat) : Option IFn := qg2 ((46, stI 63 5) :: (78, ccI 63) :: fnL) n
def Ev : Env := { fn := fnH, md := mds, ext := extT, ar := arT }
theorem x240 : Builder.X72 Tryz.prog Tryz.rLays_n240 where
 sizeBuilder := by kernel_rfl
 liesBuilder := by kernel_rfl
theorem x169 : Builder.Extra Tryz.prog Tryz.rLays_n169 where
 sizeBuilder := by kernel_rfl
 liesBuilder := by kernel_rfl
 t5 := Tryz.underlying5
 a5 := Tryz.isAgg5
 z5 := Tryz.sizeOf5
 v5 := Tryz.zeroValue5
 infoByte := by kernel_rfl
 cellsByte := by kernel_rfl
 sizeByte := by kernel_rfl
 neB5 := by decide
theorem x105 : Builder.Extra Tryz.prog Tryz.rLays_n105 where
 sizeBuilder := by kernel_rfl
 liesBuilder := by kernel_rfl
 t5 := Tryz.underlying5
 a5 := Tryz.isAgg5
 z5 := Tryz.sizeOf5
 v5 := Tryz.zeroValue5
 infoByte := by kernel_rfl
 cellsByte := by kernel_rfl
 sizeByte := by kernel_rfl
 neB5 := by decide
theorem l144 : Lays.n144 Tryz.prog Tryz.rLaysM_n144 := { Tryz.lLaysM_n144 with }
theorem en35 : ∀ args w, (callFunc 35 args).run Tryz.prog w = .ok (.enter 35 args) w := enters_of Tryz.func35 (by kernel_rfl) rfl
theorem en43 : ∀ args w, (callFunc 43 args).run Tryz.prog w = .ok (.enter 43 args) w := enters_of Tryz.func43 (by kernel_rfl) rfl
theorem en54 : ∀ args w, (callFunc 54 args).run Tryz.prog w = .ok (.enter 54 args) w := enters_of Tryz.func54 (by kernel_rfl) rfl
theorem en77 : ∀ args w, (callFunc 77 args).run Tryz.prog w = .ok (.enter 77 args) w := enters_of Tryz.func77 (by kernel_rfl) rfl
theorem en84 : ∀ args w, (callFunc 84 args).run Tryz.prog w = .ok (.enter 84 args) w := enters_of Tryz.func84 (by kernel_rfl) rfl
theorem wu9 : ∀ args w, (callFunc 117 args).run Tryz.prog w = .ok (.enter 117 args) w := enters_of Tryz.func117 (by kernel_rfl) rfl
theorem en46 : ∀ args w, (callFunc 46 args).run Tryz.prog w = .ok (.enter 46 args) w := enters_of Tryz.func46 (by kernel_rfl) rfl
theorem en78 : ∀ args w, (callFunc 78 args).run Tryz.prog w = .ok (.enter 78 args) w := enters_of Tryz.func78 (by kernel_rfl) rfl
theorem en81 : ∀ args w, (callFunc 81 args).run Tryz.prog w = .ok (.enter 81 args) w := enters_of Tryz.func81 (by kernel_rfl) rfl
theorem wv5 : ∀ args w, (callFunc 118 args).run Tryz.prog w = .ok (.enter 118 args) w := enters_of Tryz.func118 (by kernel_rfl) rfl
theorem wz1 : ∀ args w, (callFunc 173 args).run Tryz.prog w = .ok (.enter 173 args) w := enters_of Tryz.func173 (by kernel_rfl) rfl
theorem gl0 (w : World) (F : Nat → Prop) (h : Glob w F) : ∃ m : Int, w.cell? ⟨0, 0, none⟩ = some (.int .i64 m) := by
 obtain ⟨vs, _, h2, m, rfl⟩ := qw7 (g := 0) (p := fun vs => ∃ m : Int, vs = [.int .i64 m]) (by simp [GlobTab.tab]) h
 exact ⟨m, h2 0⟩
theorem glE {g : Nat} (hg : (g, errP) ∈ GlobTab.tab) (w : World) (F : Nat → Prop) (h : Glob w F) : ∃ ev, w.cell? ⟨g, 0, none⟩ = some ev ∧ (ev = .nilIface ∨ ∃ te pe, ev = .iface te pe) := by
 obtain ⟨vs, _, h2, ev, rfl, h3⟩ := qw7 hg h
 exact ⟨ev, h2 0, h3⟩
theorem glP (w : World) (F : Nat → Prop) (h : Glob w F) : Lib.TabIs Tryz.prog w "internal/strconv.uint64pow10" .u64 Lib.pow10Tab := by
 obtain ⟨vs, rfl, h2⟩ := jt8 (P := Tryz.prog) (g := 1) (p := fun vs => vs = Lib.pow10Tab.map fun z => Value.int .u64 z) (name := "internal/strconv.uint64pow10") (by simp [GlobTab.tab]) (by kernel_rfl) h
 exact h2
theorem l145 : Lays.n145 Tryz.prog Tryz.rLaysM_n145 := { Tryz.lLaysM_n145 with }
theorem evOk : EnvOk Tryz.prog Ev where
 fn := by
  intro f g h
  have h : qg2 ((46, stI 63 5) :: (78, ccI 63) :: fnL) f = some g := h
  unfold qg2 at h
  cases hb : Nat.beq 46 f with
  | true =>
    have := Nat.eq_of_beq_eq_true hb
    subst this
    exact .inr (w71 (T := 63) (e := 5) (ρ := Tryz.rLays_n169) rfl rfl Tryz.lLays_n169 x169 rfl rfl rfl en46)
  | false =>
    rw [hb] at h
    have h : qg2 ((78, ccI 63) :: fnL) f = some g := h
    unfold qg2 at h
    cases hb2 : Nat.beq 78 f with
    | true =>
      have := Nat.eq_of_beq_eq_true hb2
      subst this
      exact .inr (w87 (T := 63) (ρ := Tryz.rLays_n240) rfl rfl Tryz.lLays_n240 x240 rfl rfl en78)
    | false =>
      rw [hb2] at h
      have h : fnT f = some g := h
      exact .inl (Option.bind_eq_some_iff.1 (we8 f g h))
 ext := by
  intro f g h
  simp only [Ev, extT] at h
  split at h <;> first
   | (cases h; done)
   | (injection h with h; subst h; first
       | exact wh1 Tryz.lLays_n137 rfl en35
       | exact we5 Tryz.lLays_n105 x105 rfl en43
       | exact wn1 Tryz.lLays_n99 rfl en54
       | exact wh9 l144 rfl en77
       | exact w31 Tryz.lLays_n160 rfl en84
       | exact w13 Tryz.lLays_n149 rfl wu9
       | exact w58 Tryz.lLaysM_n171 rfl en81 glP
       | exact w15 Tryz.lLaysC_n172 rfl wv5 (glE (g := 4) (by simp [GlobTab.tab])) (glE (g := 5) (by simp [GlobTab.tab]))
       | exact wn8 l145 rfl wz1 gl0)
def tkT : Nat → List Nat
 | 50 => [0]
 | _ => []
def Vv : WEnv := { fn := fnH, md := mds, tk := tkT, ext := extT, ar := arT }
theorem envR : EnvR Vv Ev := ⟨rfl, rfl, rfl, rfl⟩
theorem vfn5 : Vv.fn 5 = some ic5 := rfl
theorem wu2 : Vv.fn 14 = some ic14 := rfl
theorem v04 : Vv.fn 15 = some ic15 := rfl
theorem ww9 : Vv.fn 16 = some ic16 := rfl
theorem wq9 : Vv.fn 19 = some ic19 := rfl
theorem wo6 : Vv.fn 20 = some ic20 := rfl
theorem wz2 : Vv.fn 21 = some ic21 := rfl
theorem we6 : Vv.fn 22 = some ic22 := rfl
theorem q88 : Vv.fn 40 = some ic40 := rfl
theorem wv1 : Vv.fn 41 = some ic41 := rfl
theorem wr6 : Vv.fn 42 = some ic42 := rfl
theorem wx1 : Vv.fn 44 = some ic44 := rfl
theorem wu8 : Vv.fn 45 = some ic45 := rfl
theorem qb0 : Vv.fn 47 = some ic47 := rfl
theorem wu3 : Vv.fn 48 = some ic48 := rfl
theorem ws6 : Vv.fn 49 = some ic49 := rfl
theorem wr9 : Vv.fn 50 = some ic50 := rfl
theorem wy7 : Vv.fn 51 = some ic51 := rfl
theorem wx8 : Vv.fn 60 = some ic60 := rfl
theorem wy5 : Vv.fn 75 = some ic75 := rfl
theorem wr1 : Vv.fn 82 = some ic82 := rfl
theorem wx7 : Vv.fn 83 = some ic83 := rfl
theorem wr0 : Vv.fn 87 = some ic87 := rfl
theorem wr5 : Vv.fn 88 = some ic88 := rfl
theorem wt0 : Vv.fn 89 = some ic89 := rfl
theorem wy3 : Vv.fn 90 = some ic90 := rfl
theorem wr2 : Vv.fn 91 = some ic91 := rfl
theorem ww7 : Vv.fn 92 = some ic92 := rfl
theorem wv4 : Vv.fn 96 = some ic96 := rfl
theorem we9 : Vv.fn 105 = some w27 := rfl
theorem wi9 : Vv.fn 106 = some w26 := rfl
theorem wq6 : Vv.fn 114 = some wb6 := rfl
theorem wl6 : Vv.fn 115 = some w18 := rfl
theorem wl3 : Vv.fn 116 = some w33 := rfl
theorem wl8 : Vv.fn 119 = some w37 := rfl
theorem wl4 : Vv.fn 125 = some w95 := rfl
theorem wl7 : Vv.fn 126 = some w52 := rfl
theorem wp1 : Vv.fn 127 = some w62 := rfl
theorem wj1 : Vv.fn 128 = some w45 := rfl
theorem wi3 : Vv.fn 129 = some w68 := rfl
theorem wp9 : Vv.fn 130 = some w40 := rfl
theorem wn4 : Vv.fn 131 = some wc4 := rfl
theorem wl0 : Vv.fn 139 = some wa5 := rfl
theorem wj9 : Vv.fn 147 = some wd7 := rfl
theorem wo4 : Vv.fn 148 = some w98 := rfl
theorem wm9 : Vv.fn 149 = some w54 := rfl
theorem wh0 : Vv.fn 150 = some wc0 := rfl
theorem wo9 : Vv.fn 151 = some w55 := rfl
theorem wf2 : Vv.fn 160 = some w30 := rfl
theorem wl1 : Vv.fn 161 = some w41 := rfl
theorem wg9 : Vv.fn 168 = some w10 := rfl
theorem wn7 : Vv.fn 174 = some wc8 := rfl
theorem wv0 : Vv.fn 46 = some (stI 63 5) := rfl
theorem wq0 : Vv.fn 78 = some (ccI 63) := rfl
end Go.Proofs.TryzL
set_option maxRecDepth 100000
namespace Go.Proofs.YtencoceemejcnaaGreatDoor
open Go.ChangeShapes Go.WideShapes Go.ChangeAt Go.RowKit Go.Proofs.Lz
open Go.Proofs.TryzL
theorem Tryz.own : ownKnob Tryz.prog.godebug = none := by kernel_rfl
theorem Tryz.laidOut : laidOutB Tryz.prog = true := by kernel_rfl
def zl0 : List (String × DataW Unit) := [("math/bits.deBruijn32tab", Rows.laid_math_bits_deBruijn32tab), ("math/bits.deBruijn64tab", Rows.laid_math_bits_deBruijn64tab), ("internal/strconv.uint64pow10", Rows.laid_internal_strconv_uint64pow10), ("unicode/utf8.acceptRanges", Rows.laid_unicode_utf8_acceptRanges), ("strconv.ErrRange", Rows.laid_strconv_ErrRange), ("strconv.ErrSyntax", Rows.laid_strconv_ErrSyntax), ("unicode/utf8.first", Rows.laid_unicode_utf8_first)]
theorem j67 {W : World} (hS : W.ShapedOpen Tryz.prog) {g : Nat} {t : TypeId} (hg : g < Tryz.prog.globals.size) (hz : (((begin Tryz.prog (fun _ _ => 0) default).world.heap[g]?).bind Obj.row?).map (fun p => (p.1.size, p.2)) = some (1, t)) (hb : Tryz.prog.buildable t = true) (hc : Tryz.prog.cellTypes Tryz.prog.depth t = some [t]) (hu : Tryz.prog.underlying t = some (.int .i64)) :
 ∃ m : Int, W.heap[g]? = some (.cells #[.int .i64 m] t) := by
 cases hw : ((begin Tryz.prog (fun _ _ => 0) default).world.heap[g]?).bind Obj.row? with
 | none => rw [hw] at hz; cases hz
 | some p =>
   obtain ⟨zero, t'⟩ := p
   rw [hw] at hz
   simp only [Option.map_some, Option.some.injEq, Prod.mk.injEq] at hz
   obtain ⟨hz1, rfl⟩ := hz
   obtain ⟨cs, h1, h2, h3⟩ := hS.1 g zero t' hg hw
   obtain ⟨ts, k1, _, k3⟩ := h3 hb
   rw [hc] at k1
   injection k1 with k1; subst k1
   have hsz : cs.size = 1 := by rw [h2, hz1]
   obtain ⟨l⟩ := cs
   match l, hsz, h1, k3 with
   | [v], _, h1, k3 =>
     obtain ⟨u, hu1, hu2⟩ := k3 0 v (by simp)
     simp at hu1; subst hu1
     unfold Cell.ok at hu2
     rw [hu] at hu2
     cases v with
     | int k n =>
       obtain ⟨rfl, _⟩ := hu2
       exact ⟨n, h1⟩
     | _ => exact hu2.elim
theorem jb3 {W : World} {g : Nat} {cs : Array Value} {t : TypeId} {q : Nat × Nat} (h : W.heap[g]? = some (.cells cs t q)) : ∀ off, W.cell? ⟨g, off, none⟩ = cs.toList[off]? := by
 intro off
 simp [World.cell?, h]
theorem qs5 {W : World} {n : String} {g : Nat} {cs : Array Value} (hn : Tryz.prog.globalNamed n = some g) (h : W.var? Tryz.prog n = some cs) : ∀ off, W.cell? ⟨g, off, none⟩ = cs.toList[off]? := by
 intro off
 have := World.var?_cell hn h off
 rw [this]
 simp
theorem j62 {W : World} {n : String} {g : Nat} {d : DataW Unit} {s : String} {t : TypeId} {ms : Array (String × TypeId)} (hr : Go.Lib.VarReads Tryz.prog W n (.iface s d)) (hn : Tryz.prog.globalNamed n = some g) (ht : (Tryz.prog.globals[g]?).map (·.type) = some t) (hu : Tryz.prog.underlying t = some (.interface ms)) :
 ∃ vs, vs ≠ [] ∧ (∀ off, W.cell? ⟨g, off, none⟩ = vs[off]?) ∧ errP vs := by
 obtain ⟨g', t', cs, fuel, p, h1, h2, h3, h4⟩ := hr
 obtain rfl := Option.some.inj (hn.symm.trans h1)
 obtain rfl := Option.some.inj (ht.symm.trans h2)
 have hv := qs5 hn h3
 obtain ⟨l⟩ := cs
 cases fuel with
 | zero => simp [DataW.trod] at h4
 | succ fuel =>
   unfold DataW.trod at h4
   rw [hu] at h4
   have key : ∃ u v, l = [.iface u v] := by
    rcases l with _ | ⟨v, _ | ⟨v2, r⟩⟩
    · cases h4
    · cases v <;> first | exact ⟨_, _, rfl⟩ | (cases h4; done)
    · cases v <;> (cases h4; done)
   obtain ⟨u, v, rfl⟩ := key
   exact ⟨_, by simp, hv, _, rfl, .inr ⟨u, v, rfl⟩⟩
theorem w17 {W : World} (hS : W.ShapedOpen Tryz.prog) (hL : laidMet Tryz.prog zl0 W) : Glob W (fun b => b < W.heap.size) := by
 have blk : ∀ {g : Nat} {cs : List Value}, cs ≠ [] → (∀ off, W.cell? ⟨g, off, none⟩ = cs[off]?) → g < W.heap.size := by
  intro g cs h0 h
  obtain ⟨t, q, hb⟩ := j37 h0 h
  exact (Array.getElem?_eq_some_iff.1 hb).1
 intro p hp
 have hp : p ∈ [(0, fun vs : List Value => ∃ m : Int, vs = [.int .i64 m]), (1, fun vs => vs = Lib.pow10Tab.map fun z => Value.int .u64 z), (4, errP), (5, errP)] := hp
 simp only [List.mem_cons, List.not_mem_nil, or_false] at hp
 have key : ∃ vs, vs ≠ [] ∧ (∀ off, W.cell? ⟨p.1, off, none⟩ = vs[off]?) ∧ p.2 vs := by
  rcases hp with rfl | rfl | rfl | rfl
  · obtain ⟨m, hm⟩ := j67 (t := 3) hS (g := 0) (by rw [show Tryz.prog.globals.size = 8 by kernel_rfl]; decide) (by kernel_rfl) (by kernel_rfl) (by kernel_rfl) (by kernel_rfl)
    exact ⟨[.int .i64 m], by simp, jb3 hm, m, rfl⟩
  · obtain ⟨g', t', cs, fuel, q, h1, h2, h3, h4⟩ := Go.Lib.laidMet.reads hL (n := "internal/strconv.uint64pow10") (d := Rows.laid_internal_strconv_uint64pow10) (by simp [zl0])
    obtain rfl := Option.some.inj ((show Tryz.prog.globalNamed "internal/strconv.uint64pow10" = some 1 by kernel_rfl).symm.trans h1)
    obtain rfl := Option.some.inj ((show (Tryz.prog.globals[1]?).map (·.type) = some 139 by kernel_rfl).symm.trans h2)
    have hcs := Go.Lib.cells_of_tab (n := 20) (e := 104) (k := .u64) (zs := Go.Lib.pow10Tab) (by kernel_rfl) (by kernel_rfl) (by kernel_rfl) (by kernel_rfl) (by rw [h4]; rfl)
    have hv := qs5 (g := 1) (by kernel_rfl) h3
    exact ⟨cs.toList, by rw [hcs]; simp [Go.Lib.pow10Tab], hv, hcs⟩
  · exact j62 (Go.Lib.laidMet.reads hL (n := "strconv.ErrSyntax") (d := Rows.laid_strconv_ErrSyntax) (by simp [zl0])) (t := 65) (ms := #[("Error", 72)]) (by kernel_rfl) (by kernel_rfl) (by kernel_rfl)
  · exact j62 (Go.Lib.laidMet.reads hL (n := "strconv.ErrRange") (d := Rows.laid_strconv_ErrRange) (by simp [zl0])) (t := 65) (ms := #[("Error", 72)]) (by kernel_rfl) (by kernel_rfl) (by kernel_rfl)
 obtain ⟨vs, h0, h1, h2⟩ := key
 exact ⟨blk h0 h1, vs, h0, h1, h2⟩
theorem qk6 {H : Type} {enc : TypeId × Value → H} {a : Assume} {C : Checked} {os : Os} {f : FuncId} {fn : Func} {s : ChangeSpec} {conds : List PathCond} {apart fresh handsOn again : Bool} {X : World → Array Value → Prop}
 (hX : ∀ (w w' : World) (args : Array Value), w.heap = w'.heap → X w args → X w' args)
 (own : ownKnob C.prog.godebug = none) (started : os.Started) (noInit : C.prog.inits.idxOf? f = none) (hfn : C.prog.funcs[f]? = some fn)
 (witness : ∃ (w : World) (tape : Tape) (i : Input), w.os = os ∧ (w.forCall tape i).Shaped C.prog ∧ i.vars = [] ∧ Input.okWide C.prog (w.forCall tape i) .any w.heap.size f i ∧
   ((s.pre enc C.prog fn conds apart (w.forCall tape i).memory i.args ∧ X (w.forCall tape i).memory i.args) ∧ sizedMet enc C.prog fn (OpenSpec.ofChange s) apart (w.forCall tape i).memory i.args) ∧ a.holds C.prog (lone (Frame.enter C.prog f i.args .normal) [] (w.forCall tape i)))
 (contract : ∀ (W : World) (base : Nat) (args : Array Value) (ds gs : List (DataW H)) (before : List MemPlace), W.ShapedOpen C.prog →
   (∀ (j : Nat) t v, fn.params[j]? = some t → args[j]? = some v → Value.okWide C.prog W .any base t v) →
   DataW.Whole enc C.prog fn.params.toList s.vars apart W args.toList ds gs before → X W args →
   Calls C.prog f args W fun e W' => ∃ v, e = .returned v ∧ s.post enc C.prog fn apart fresh handsOn again W args v W') :
 ReturnsInHanded a C os f .any (fun w args => (s.pre enc C.prog fn conds apart w args ∧ X w args) ∧ sizedMet enc C.prog fn (OpenSpec.ofChange s) apart w args) (s.post enc C.prog fn apart fresh handsOn again) := by
 refine returnsInHanded_of_calls own started noInit witness ?_
 intro w tape i _ hsh _ hok hpre hholds
 obtain ⟨_, _, _, fn', hfn', _, _, _, _, hval⟩ := hok
 have e : fn' = fn := Option.some.inj (hfn'.symm.trans hfn)
 subst e
 obtain ⟨⟨⟨ds, gs, before, hw, hc⟩, hx⟩, hz⟩ := hpre
 have hw' := DataW.Whole.of_heap (w' := w.forCall tape i) (by rfl) hw
 refine (contract (w.forCall tape i) w.heap.size i.args ds gs before hsh hval hw' (hX _ _ _ (by rfl) hx)).mono fun e W' ⟨v, he, hp⟩ => ?_
 subst he
 exact ChangeSpec.post_blind hp
theorem qd3 (w : World) : laidMetH Tryz.prog zl0 w = laidMet Tryz.prog zl0 w := by
 rw [MakeChecks.laidMetH_plain _ _ _ (by kernel_rfl)]
theorem jb5 (os : Os) (args : Array Value) : laidMetH Tryz.prog zl0 ((World.laidAll Tryz.prog os zl0).forCall (fun _ _ => 0) ⟨#[], args, []⟩).memory := by
 rw [qd3]
 exact laidMet_laidAll _ (by kernel_rfl) (by kernel_rfl)
theorem qn2 (os : Os) : (World.laidAll Tryz.prog os zl0).Shaped Tryz.prog := World.shaped_of_ZipB (by kernel_rfl) (by kernel_rfl)
def je5 (P : Program) (n : Nat) (ts : List TypeId) : Bool := ts.all fun t => supT P n t && (ekOf P t).isSome && P.readableRec t && decide (t < P.types.size)
theorem qp1 {P : Program} {n : Nat} {ts : List TypeId} (h : je5 P n ts = true) : ∀ t ∈ ts, supT P n t = true ∧ (ekOf P t).isSome = true ∧ P.readableRec t = true ∧ t < P.types.size := by
 intro t ht
 have := List.all_eq_true.1 h t ht
 simp only [Bool.and_eq_true, decide_eq_true_eq] at this
 exact ⟨this.1.1.1, this.1.1.2, this.1.2, this.2⟩
theorem wi0 {f : FuncId} {fn : Func} {s : ChangeSpec} (os : Os) (started : os.Started) {H : Type} (enc : TypeId × Value → H) (hfn : Tryz.prog.funcs[f]? = some fn)
 (hni : Tryz.prog.inits.idxOf? f = none) (hargs : je5 Tryz.prog 6 fn.params.toList = true) (hres : fn.resultTypes = #[4]) (hv : s.vars = [])
 (hsp : ∀ (ds : List (DataW H)), ds.length = fn.params.toList.length → s.fn H ds = { results := [.lit (.bool true)], args := ds })
 (witness : ∃ (w : World) (tape : Tape) (i : Input), w.os = os ∧ (w.forCall tape i).Shaped Tryz.checked.prog ∧ i.vars = [] ∧ Input.okWide Tryz.checked.prog (w.forCall tape i) .any w.heap.size f i ∧
   ((s.pre enc Tryz.checked.prog fn [] false (w.forCall tape i).memory i.args ∧ laidMetH Tryz.prog zl0 (w.forCall tape i).memory) ∧ sizedMet enc Tryz.checked.prog fn (OpenSpec.ofChange s) false (w.forCall tape i).memory i.args) ∧ ({} : Assume).holds Tryz.checked.prog (lone (Frame.enter Tryz.checked.prog f i.args .normal) [] (w.forCall tape i)))
 (law : ∀ xs, qe5 Tryz.prog 6 fn.params.toList xs → ∃ H', ev Ev f (xs.map .c) [] = some (.c (.bool true), H')) :
 ReturnsInHanded {} Tryz.checked os f .any (fun w args => (s.pre enc Tryz.prog fn [] false w args ∧ laidMetH Tryz.prog zl0 w) ∧ sizedMet enc Tryz.prog fn (OpenSpec.ofChange s) false w args) (s.post enc Tryz.prog fn false true false false) := by
 refine qk6 (C := Tryz.checked) (X := fun w _ => laidMetH Tryz.prog zl0 w) (fun _ _ _ hh h => h.of_heap hh) Tryz.own started hni hfn witness ?_
 intro W base args ds gs before hS hval hW hL
 rw [qd3] at hL
 exact jm4 (P := Tryz.prog) evOk Tryz.laidOut (qp1 hargs) (tb := 4) hres (by kernel_rfl) hv hsp law hval (w17 hS hL) hW
end Go.Proofs.YtencoceemejcnaaGreatDoor
