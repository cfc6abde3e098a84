/- Layout, the reference's Insert: one token. -/
import Derived.Test.YtmjofajbfondhaaLzRefX
import Derived.Test.YtmjofajbfondhaaLzVc3
set_option linter.unusedSimpArgs false
set_option linter.unusedVariables false
namespace Go.Proofs.TryL
open Go.Proofs.Lz
def tokenQ (s : St) (t : Tok) (before : List UInt8) : Option St :=
  if t.op = 8 then spR s t before
  else if t.op = 9 then (wdR s t).map fun s => opR s t
  else if t.op = 10 then some (if t.text = [61] then mark s true else s)
  else some s
def stepR (s : St) (t : Tok) (l : Ln) : Option St :=
  match (if (begin s t).1 = false ∧ l.first = false ∧ l.line < t.line then lines t ((begin s t).2.stack.length + 1) (begin s t).2 else some (begin s t).2) with
  | none => none
  | some s2 => (tokenQ (item s2 t) t (if s.expect = true then s.word else [])).map fun s => { s with out := s.out ++ [t] }
def te30 : ICode := match ic30.body with
  | .seq _ (.seq _ (.seq _ (.seq _ (.seq _ (.seq _ (.seq _ (.seq _ x))))))) => x
  | _ => .skip
def tl30 : ICode := match ic30.body with
  | .seq _ (.seq _ (.seq _ (.seq _ (.seq _ (.seq _ x))))) => x
  | _ => .skip
/-- The token goes behind the others. -/
theorem end30 {x : List (Nat × WV)} {a : List (Nat × Option (Nat × Nat))} {H : WHeap} {p : Nat} {s : St} {f : Flt} {l : Ln} {t : Tok} (e0 : frl x 0 = .ptr p 0) (e3 : frl x 3 = .lbox (some 7) (.c (tokC t))) (hnb : ∀ s, s ≠ 3 → wdstOk (FL x []) (some s) = true) (h : RepR H p s f l) (hb : s.out.length < 1000000000) {N : Post}
    (hN : ∀ fr H', RepR H' p { s with out := s.out ++ [t] } f ⟨t.line, false⟩ → Kp p H H' → N fr H') : WP Vv te30 (FL x a) H N [] N := by
  obtain ⟨vs, vo, hp, hs, ho⟩ := h
  rw [FL_know e0, FL_know (s := 3) (by exact e3)]
  rcases ho with ⟨rfl, ho⟩ | rfl
  · have ho' : s.out = [] := by simpa using ho
    unfold te30 ic30
    repeat' first
      | apply wo_cons
      | exact put_c0
      | exact put_v0 rfl
      | exact put_v1 rfl
      | exact put_own1 rfl
      | (apply op_load_boxc; (iterate 3 exact rfl))
      | (apply op_lit; (iterate 6 exact rfl))
      | (apply op_faddr_link; exact rfl; exact lnk_FL rfl)
      | (apply op_mv_ptr; exact rfl; exact rfl)
      | (apply op_faddr_ptr; exact rfl; exact rfl)
      | (apply op_nck_ptr; exact rfl; exact rfl)
      | (apply op_app_nil; exact rfl; exact rfl; (first | omega | (simp only [List.length_map, List.length_cons, List.length_nil, List.length_append]; omega)))
      | (apply op_load_ptr; exact rfl; exact rfl; assumption; exact rfl)
      | (apply op_store_ptr; (iterate 4 exact rfl); assumption; exact rfl; exact rfl; intro H1 hH1 kH1)
      | (apply op_store_own; (iterate 3 exact rfl); assumption; exact rfl; intro H1 hH1 kH1)
      | apply wp_seq
      | apply wp_region0
      | apply wo_nil
      | apply wp_regionD0
      | apply wd_nil
      | (apply wd_cons; (first | exact rfl | exact hnb _ (by decide) | exact nb_hit (hnb _ (by decide)) | exact nb_hit (nb_hit (hnb _ (by decide)))))
      | (apply opd_pure; exact rfl)
      | (apply opd_load; exact rfl)
      | (apply opd_rdb; exact rfl)
      | (apply opd_bsl; exact rfl)
      | (apply opd_app)
      | (apply opd_storew; exact rfl)
      | (apply dand; exact rfl)
    refine hN _ _ ⟨_, _, by assumption, hs, .inr ?_⟩ ?_
    · simp [ho']
    · intro i o hi ho
      solve_by_elim (maxDepth := 10)
  · unfold te30 ic30
    repeat' first
      | apply wo_cons
      | exact put_c0
      | exact put_v0 rfl
      | exact put_v1 rfl
      | (apply op_load_boxc; (iterate 3 exact rfl))
      | (apply op_lit; (iterate 6 exact rfl))
      | (apply op_faddr_link; exact rfl; exact lnk_FL rfl)
      | (apply op_mv_ptr; exact rfl; exact rfl)
      | (apply op_faddr_ptr; exact rfl; exact rfl)
      | (apply op_nck_ptr; exact rfl; exact rfl)
      | (apply op_load_ptr; exact rfl; exact rfl; assumption; exact rfl)
      | (apply op_store_ptr; (iterate 4 exact rfl); assumption; exact rfl; exact rfl; intro H1 hH1 kH1)
      | (apply op_app_hp; exact rfl; exact rfl; (first | omega | (simp only [List.length_map, List.length_cons, List.length_nil, List.length_append]; omega)); assumption; exact rfl; (first | exact put_own0 rfl rfl | exact put_own0 rfl (by assumption) | exact put_own1 rfl); intro H1 hH1 kH1)
      | (apply op_store_own; (iterate 3 exact rfl); assumption; exact rfl; intro H1 hH1 kH1)
      | apply wp_seq
      | apply wp_region0
      | apply wo_nil
      | apply wp_regionD0
      | apply wd_nil
      | (apply wd_cons; (first | exact rfl | exact hnb _ (by decide) | exact nb_hit (hnb _ (by decide)) | exact nb_hit (nb_hit (hnb _ (by decide)))))
      | (apply opd_pure; exact rfl)
      | (apply opd_load; exact rfl)
      | (apply opd_rdb; exact rfl)
      | (apply opd_bsl; exact rfl)
      | (apply opd_app)
      | (apply opd_storew; exact rfl)
      | (apply dand; exact rfl)
    refine hN _ _ ⟨_, _, by assumption, hs, .inr ?_⟩ ?_
    · simp
    · intro i o hi ho
      solve_by_elim (maxDepth := 10)
def h30 : ICode := match tl30 with
  | .seq a _ => a
  | _ => .skip
def sw30 : ICode := match tl30 with
  | .seq _ (.seq a _) => a
  | _ => .skip
theorem tl30_eq : tl30 = .seq h30 (.seq sw30 te30) := rfl
attribute [local irreducible] te30
theorem phi_spR {s s' : St} {t : Tok} {w : List UInt8} (h : spR s t w = some s') : s'.phi ≤ s.phi + 1 := by
  unfold spR at h
  rcases ite_some h with ⟨-, h⟩ | ⟨-, h⟩
  · injection h with h; subst h; rw [phi_push]; simp [isIm]
  rcases ite_some h with ⟨-, h⟩ | ⟨-, h⟩
  · injection h with h; subst h; rw [phi_push]; simp [isIm]
  rcases ite_some h with ⟨-, h⟩ | ⟨-, h⟩
  · injection h with h; subst h; rw [phi_push]; simp [isIm]
  rcases ite_some h with ⟨-, h⟩ | ⟨-, h⟩
  · exact Nat.le_succ_of_le (phi_closing h)
  rcases ite_some h with ⟨-, h⟩ | ⟨-, h⟩
  · exact Nat.le_succ_of_le (phi_closing h)
  rcases ite_some h with ⟨-, h⟩ | ⟨-, h⟩
  · exact Nat.le_succ_of_le (phi_closing h)
  rcases ite_some h with ⟨-, h⟩ | ⟨-, h⟩
  · injection h with h; subst h; exact Nat.le_succ_of_le (phi_comma _ _)
  rcases ite_some h with ⟨-, h⟩ | ⟨-, h⟩
  · injection h with h; subst h; rw [phi_mark]; omega
  injection h with h; subst h; omega
theorem phi_wdR {s s' : St} {t : Tok} (h : wdR s t = some s') : s'.phi ≤ s.phi + 1 := by
  unfold wdR at h
  simp only [← seek_eq] at h
  rcases ite_some h with ⟨-, h⟩ | ⟨-, h⟩
  · injection h with h; subst h; rw [phi_push]; simp [isIm, pend]
  rcases ite_some h with ⟨-, h⟩ | ⟨-, h⟩
  · exact phi_ending h
  rcases ite_some h with ⟨-, h⟩ | ⟨-, h⟩
  · exact phi_ending h
  rcases ite_some h with ⟨-, h⟩ | ⟨-, h⟩
  · exact phi_ending h
  rcases ite_some h with ⟨-, h⟩ | ⟨-, h⟩
  · exact phi_ending h
  injection h with h; subst h; omega
/-- Rule 3, rule 4, and the token's end. -/
theorem tail30 {x : List (Nat × WV)} {H : WHeap} {p : Nat} {s : St} {l : Ln} {t : Tok} {bf : List UInt8} (e0 : frl x 0 = .ptr p 0) (e3 : frl x 3 = .lbox (some 7) (.c (tokC t))) (e4 : frl x 4 = .c (.str bf)) (hnb : ∀ s, s ≠ 3 → wdstOk (FL x []) (some s) = true) (hcl : cleanHp x = true) (h : RepR H p s noF l) (hl : s.phi < 60000000) {N : Post}
    (hN : ∀ fr H', (match (tokenQ (item s t) t bf).map fun s => ({ s with out := s.out ++ [t] } : St) with
      | none => ∃ s2 l2, RepR H' p s2 (flt t) l2
      | some s' => RepR H' p s' noF ⟨t.line, false⟩) → Kp p H H' → N fr H') : WP Vv (tl30) (FL x []) H N [] N := by
  rw [FL_know e0, FL_know (s := 3) (by exact e3), FL_know (s := 4) (by exact e4), tl30_eq]
  have hph := phi_item s t
  simp only [St.phi] at hl hph
  have hb1 : s.stack.length < 1000000000 := by omega
  have hb2 : s.out.length < 1000000000 := by omega
  have hb3 : (item s t).stack.length < 100000000 := by omega
  have hb4 : (item s t).out.length + (item s t).stack.length < 100000000 := by omega
  have hb5 : (item s t).stack.length < 1000000000 := by omega
  unfold h30 sw30 tl30 ic30
  repeat' first
    | apply wo_cons
    | exact put_c0
    | exact put_v0 rfl
    | exact put_v1 rfl
    | (apply op_mv_c; exact rfl; exact rfl)
    | (apply op_load_boxc; (iterate 3 exact rfl))
    | (apply op_bin; (iterate 3 exact rfl))
    | (apply op_faddr_link; exact rfl; exact lnk_FL rfl)
    | (apply op_mv_ptr; exact rfl; exact rfl)
    | (apply op_callS (hc := ⟨item49 t h hb1 hb2⟩); exact rfl; exact rfl; (first | exact rfl | assumption); exact rfl; (first | exact put_c0 | exact put_none | exact put_v0 rfl | exact put_v1 rfl); rintro H1 ⟨r1, k1⟩)
    | (apply op_callS (hc := ⟨specials50 t bf r1 hb3 hb4⟩); exact rfl; exact rfl; (first | exact rfl | assumption); exact rfl; (first | exact put_c0 | exact put_none | exact put_v0 rfl | exact put_v1 rfl); rintro H1 ⟨r1, k1⟩)
    | (apply op_callS (hc := ⟨words51 t r1 hb3 hb4⟩); exact rfl; exact rfl; (first | exact rfl | assumption); exact rfl; (first | exact put_c0 | exact put_none | exact put_v0 rfl | exact put_v1 rfl); rintro H1 ⟨r1, k1⟩)
    | (apply op_callS (hc := ⟨mark52 true r1 hb5⟩); exact rfl; exact rfl; (first | exact rfl | assumption); exact rfl; (first | exact put_c0 | exact put_none | exact put_v0 rfl | exact put_v1 rfl); rintro H1 ⟨r1, k1⟩)
    | apply wp_seq
    | apply wp_region0
    | apply wo_nil
    | apply wp_block
    | apply wp_skip
    | (apply wp_if; exact rfl)
    | (with_reducible apply cnd_i; intro hc)
    | (with_reducible apply cnd_s; intro hc)
    | (with_reducible apply cnd_iF; intro hc)
    | (with_reducible apply cnd_sF; intro hc)
  · rename_i H0 r0 k0
    have e : tokenQ (item s t) t bf = spR (item s t) t bf := by simp [tokenQ, hc]
    rw [e] at hN
    cases hs : spR (item s t) t bf with
    | none =>
      rw [hs] at r1 hN
      refine end30 rfl rfl ?_ r1 (by omega) fun fr H' a b => hN fr H' ⟨_, _, a⟩ ((k0.trans k1).trans b)
      repeat' first | exact hnb | exact nb_nil | refine nb_cons rfl ?_
    | some s' =>
      rw [hs] at r1 hN
      have := phi_spR hs
      simp only [St.phi] at this
      refine end30 rfl rfl ?_ r1 (by omega) fun fr H' a b => hN fr H' a ((k0.trans k1).trans b)
      repeat' first | exact hnb | exact nb_nil | refine nb_cons rfl ?_
  · rename_i H0 r0 k0 hc0
    have e : tokenQ (item s t) t bf = (wdR (item s t) t).map fun s => opR s t := by simp [tokenQ, hc, hc0]
    rw [e] at hN
    cases hs : wdR (item s t) t with
    | none =>
      rw [hs] at r1 hN
      obtain ⟨s2, ho2, r1⟩ := r1
      refine end30 rfl rfl ?_ r1 (by rw [ho2]; omega) fun fr H' a b => hN fr H' ⟨_, _, a⟩ ((k0.trans k1).trans b)
      repeat' first | exact hnb | exact nb_nil | refine nb_cons rfl ?_
    | some s' =>
      rw [hs] at r1 hN
      have := phi_wdR hs
      simp only [St.phi] at this
      refine end30 rfl rfl ?_ r1 ?_ fun fr H' a b => hN fr H' a ((k0.trans k1).trans b)
      · repeat' first | exact hnb | exact nb_nil | refine nb_cons rfl ?_
      · have : (opR s' t).out = s'.out := by unfold opR; split <;> rfl
        rw [this]; omega
  · rename_i H0 r0 k0 hc1 hc2 hc3
    have e : tokenQ (item s t) t bf = some (mark (item s t) true) := by simp [tokenQ, hc, hc1, hc2, hc3]
    rw [e] at hN
    have := phi_mark (item s t) true
    simp only [St.phi] at this
    refine end30 rfl rfl ?_ r1 (by omega) fun fr H' a b => hN fr H' a ((k0.trans k1).trans b)
    repeat' first | exact hnb | exact nb_nil | refine nb_cons rfl ?_
  · rename_i hc1 hc2 hc3
    have e : tokenQ (item s t) t bf = some (item s t) := by simp [tokenQ, hc, hc1, hc2, hc3]
    rw [e] at hN
    refine end30 rfl rfl ?_ r1 (by omega) fun fr H' a b => hN fr H' a (k1.trans b)
    repeat' first | exact hnb | exact nb_nil | refine nb_cons rfl ?_
  · rename_i hc1 hc2
    have e : tokenQ (item s t) t bf = some (item s t) := by simp [tokenQ, hc, hc1, hc2]
    rw [e] at hN
    refine end30 rfl rfl ?_ r1 (by omega) fun fr H' a b => hN fr H' a (k1.trans b)
    repeat' first | exact hnb | exact nb_nil | refine nb_cons rfl ?_
end Go.Proofs.TryL
/- Layout, the reference's Insert: a token whole; the rounds. -/
set_option linter.unusedSimpArgs false
set_option linter.unusedVariables false
namespace Go.Proofs.TryL
open Go.Proofs.Lz
def a30 : ICode := match ic30.body with
  | .seq a _ => a
  | _ => .skip
def b30 : ICode := match ic30.body with
  | .seq _ (.seq a _) => a
  | _ => .skip
def c30 : ICode := match ic30.body with
  | .seq _ (.seq _ (.seq a _)) => a
  | _ => .skip
def d30 : ICode := match ic30.body with
  | .seq _ (.seq _ (.seq _ (.seq a _))) => a
  | _ => .skip
def e30 : ICode := match ic30.body with
  | .seq _ (.seq _ (.seq _ (.seq _ (.seq a _)))) => a
  | _ => .skip
def f30 : ICode := match ic30.body with
  | .seq _ (.seq _ (.seq _ (.seq _ (.seq _ (.seq a _))))) => a
  | _ => .skip
theorem fn30 : Vv.fn 30 = some ⟨.seq a30 (.seq b30 (.seq c30 (.seq d30 (.seq e30 (.seq f30 tl30))))), []⟩ := rfl
attribute [local irreducible] tl30
/-- Behind rule 1. -/
theorem mid30 {x : List (Nat × WV)} {H : WHeap} {p : Nat} {s1 : St} {l : Ln} {t : Tok} {bf : List UInt8} {sk : Bool} (e0 : frl x 0 = .ptr p 0) (e3 : frl x 3 = .lbox (some 7) (.c (tokC t))) (e4 : frl x 4 = .c (.str bf)) (e5 : frl x 5 = .c (.bool sk)) (hnb : ∀ s, s ≠ 3 → wdstOk (FL x []) (some s) = true) (hcl : cleanHp x = true) (h : RepR H p s1 noF l) (hl : s1.phi < 55000000) {N : Post}
    (hN : ∀ fr H', (match (match (if sk = false ∧ l.first = false ∧ l.line < t.line then lines t (s1.stack.length + 1) s1 else some s1) with
      | none => none
      | some s2 => (tokenQ (item s2 t) t bf).map fun s => ({ s with out := s.out ++ [t] } : St)) with
      | none => ∃ s2 l2, RepR H' p s2 (flt t) l2
      | some s' => RepR H' p s' noF ⟨t.line, false⟩) → Kp p H H' → N fr H') : WP Vv e30 (FL x []) H (fun fr' H' => WP Vv (.seq f30 tl30) fr' H' N [] N) [] N := by
  simp only [St.phi] at hl
  have hb1 : s1.stack.length < 100000000 := by omega
  have hb2 : s1.out.length < 100000000 := by omega
  have h0 := h
  obtain ⟨vs, vo, hp, hs, ho⟩ := h
  rw [FL_know e0, FL_know (s := 3) (by exact e3), FL_know (s := 4) (by exact e4), FL_know (s := 5) (by exact e5)]
  unfold e30 f30 ic30
  repeat' first
    | apply wo_cons
    | exact put_c0
    | exact put_v0 rfl
    | exact put_v1 rfl
    | (apply op_mv_c; exact rfl; exact rfl)
    | (apply op_load_boxc; (iterate 3 exact rfl))
    | (apply op_bin; (iterate 3 exact rfl))
    | (apply op_un; exact rfl; exact rfl)
    | (apply op_pick_tc; exact rfl; (with_reducible exact rfl); exact rfl)
    | (apply op_pick_fc; exact rfl; (with_reducible exact rfl); exact rfl)
    | (apply op_faddr_link; exact rfl; exact lnk_FL rfl)
    | (apply op_mv_ptr; exact rfl; exact rfl)
    | (apply op_faddr_ptr; exact rfl; exact rfl)
    | (apply op_nck_ptr; exact rfl; exact rfl)
    | (apply op_load_ptrc; exact rfl; exact rfl; assumption; exact rfl)
    | (apply op_callS (hc := ⟨lines48 t h0 hb1 hb2⟩); exact rfl; exact rfl; (first | exact rfl | assumption); exact rfl; (first | exact put_c0 | exact put_none | exact put_v0 rfl | exact put_v1 rfl); rintro H1 ⟨r1, k1⟩)
    | apply wp_seq
    | apply wp_region0
    | apply wo_nil
    | apply wp_skip
    | apply wp_ret
    | apply wp_regionD0
    | apply wd_nil
    | (apply wp_cond_f; exact rfl; (with_reducible exact rfl))
    | (apply wp_if; exact rfl)
    | (apply wd_cons; (first | exact rfl | exact hnb _ (by decide) | exact nb_hit (hnb _ (by decide)) | exact nb_hit (nb_hit (hnb _ (by decide)))))
    | (apply wd_run; exact rfl; (with_reducible exact rfl); (first | exact rfl | exact hnb _ (by decide) | exact nb_hit (hnb _ (by decide)) | exact nb_hit (nb_hit (hnb _ (by decide)))))
    | (apply wd_skip_t; exact rfl; (with_reducible exact rfl); (first | exact rfl | exact hnb _ (by decide) | exact nb_hit (hnb _ (by decide)) | exact nb_hit (nb_hit (hnb _ (by decide)))); (first | exact put_v0 rfl | exact put_v1 rfl); exact rfl)
    | (apply wd_if; exact rfl)
    | with_reducible apply cnd_nT
    | with_reducible apply cnd_nF
    | (with_reducible apply cnd_ni; intro hc)
    | (with_reducible apply cnd_niF; intro hc)
    | (with_reducible apply cnd_d; intro hc)
    | (with_reducible apply cnd_dF; intro hc)
    | (with_reducible apply cnd_x; intro hc)
    | (apply opd_pure; exact rfl)
    | (apply opd_load; exact rfl)
    | (apply opd_rdb; exact rfl)
    | (apply dand; exact rfl)
  · rename_i c1 c2
    rw [if_pos ⟨c1, c2, hc⟩] at hN
    cases hln : lines t (s1.stack.length + 1) s1 with
    | none =>
      rw [hln] at r1 hN
      obtain ⟨s2, r2⟩ := r1
      obtain ⟨vs2, vo2, hp2, hs2, ho2⟩ := id r2
      repeat' first
        | apply wo_cons
        | exact put_c0
        | (apply op_bin; (iterate 3 exact rfl))
        | (apply op_load_ptrc; exact rfl; exact rfl; assumption; exact rfl)
        | apply wo_nil
        | apply wp_skip
        | apply wp_ret
        | (apply wp_if; exact rfl)
        | (with_reducible apply cnd_ni; intro hc)
        | (with_reducible apply cnd_niF; intro hc)
      · exact hN _ _ ⟨_, _, r2⟩ k1
      · cases hc
    | some s2 =>
      rw [hln] at r1 hN
      have a4 := phi_lines _ _ _ _ hln
      simp only [St.phi] at a4
      obtain ⟨vs2, vo2, hp2, hs2, ho2⟩ := id r1
      repeat' first
        | apply wo_cons
        | exact put_c0
        | (apply op_bin; (iterate 3 exact rfl))
        | (apply op_load_ptrc; exact rfl; exact rfl; assumption; exact rfl)
        | apply wo_nil
        | apply wp_skip
        | apply wp_ret
        | (apply wp_if; exact rfl)
        | (with_reducible apply cnd_ni; intro hc)
        | (with_reducible apply cnd_niF; intro hc)
      · exact absurd rfl hc
      · refine tail30 (bf := bf) (by exact rfl) (by exact rfl) (by exact rfl) ?_ (by exact hcl) r1 (by simp only [St.phi]; omega) fun fr H' a b => hN fr H' a (k1.trans b)
        repeat' first | exact hnb | exact nb_nil | refine nb_cons rfl ?_
  · exact absurd rfl hc
  · rename_i c1 c2 c3
    rw [if_neg (by rintro ⟨-, -, h⟩; exact c3 h)] at hN
    refine tail30 (bf := bf) (by exact rfl) (by exact rfl) (by exact rfl) ?_ (by exact hcl) h0 (by simp only [St.phi]; omega) hN
    repeat' first | exact hnb | exact nb_nil | refine nb_cons rfl ?_
  · exact absurd rfl hc
  · rename_i c1 c2
    rw [if_neg (by rintro ⟨-, h, -⟩; rw [c2] at h; cases h)] at hN
    refine tail30 (bf := bf) (by exact rfl) (by exact rfl) (by exact rfl) ?_ (by exact hcl) h0 (by simp only [St.phi]; omega) hN
    repeat' first | exact hnb | exact nb_nil | refine nb_cons rfl ?_
  · exact absurd rfl hc
  · rename_i c1
    rw [if_neg (by rintro ⟨h, -, -⟩; rw [c1] at h; cases h)] at hN
    refine tail30 (bf := bf) (by exact rfl) (by exact rfl) (by exact rfl) ?_ (by exact hcl) h0 (by simp only [St.phi]; omega) hN
    repeat' first | exact hnb | exact nb_nil | refine nb_cons rfl ?_
attribute [local irreducible] e30
theorem step30 {H : WHeap} {p : Nat} {s : St} {l : Ln} (t : Tok) (h : RepR H p s noF l) (hl : s.phi < 50000000) :
    Shr Vv 30 [.ptr p 0, .c (tokC t)] H (.tup []) (fun H' => (match stepR s t l with
      | none => ∃ s2 l2, RepR H' p s2 (flt t) l2
      | some s' => RepR H' p s' noF ⟨t.line, false⟩) ∧ Kp p H H') := by
  have h0 := h
  obtain ⟨vs, vo, hp, hs, ho⟩ := h
  have a1 := phi_begin s t
  simp only [St.phi] at hl a1
  have hb1 : s.stack.length < 100000000 := by omega
  have hb2 : s.out.length < 100000000 := by omega
  have hb3 : (begin s t).2.stack.length < 100000000 := by omega
  have hb4 : (begin s t).2.out.length < 100000000 := by omega
  refine shr_of fn30 ?_
  unfold a30 b30 c30 d30 ic30
  repeat' first
    | apply wo_cons
    | exact put_c0
    | exact put_v0 rfl
    | (apply op_mv_c; exact rfl; exact rfl)
    | (apply op_load_boxc; (iterate 3 exact rfl))
    | (apply op_mv_ptr; exact rfl; exact rfl)
    | (apply op_faddr_ptr; exact rfl; exact rfl)
    | (apply op_nck_ptr; exact rfl; exact rfl)
    | (apply op_lbox; exact rfl; exact rfl; exact boxed_FL (by first | exact rfl | assumption | exact clean_hit (by assumption)))
    | (apply op_load_ptrc; exact rfl; exact rfl; assumption; exact rfl)
    | (apply op_callS (hc := ⟨open47 t h0 hb1 hb2⟩); exact rfl; exact rfl; (first | exact rfl | assumption); exact rfl; (first | exact put_c0 | exact put_none | exact put_v0 rfl | exact put_v1 rfl); rintro H1 ⟨r1, k1⟩)
    | apply wp_seq
    | apply wp_region0
    | apply wo_nil
    | apply wp_skip
    | (apply wp_if; exact rfl)
    | (with_reducible apply cnd_x; intro hc)
  · refine mid30 (by exact rfl) (by exact rfl) (by exact rfl) (by exact rfl) ?_ (by exact rfl) r1 (by simp only [St.phi]; omega) fun fr H2 a b => finS0 (And.intro ?_ (k1.trans b))
    · repeat' first | exact hnb | exact nb_nil | refine nb_cons rfl ?_
    · simp only [stepR, if_pos hc]
      exact a
  · refine mid30 (by exact rfl) (by exact rfl) (by exact rfl) (by exact rfl) ?_ (by exact rfl) r1 (by simp only [St.phi]; omega) fun fr H2 a b => finS0 (And.intro ?_ (k1.trans b))
    · repeat' first | exact hnb | exact nb_nil | refine nb_cons rfl ?_
    · simp only [stepR, hc, Bool.false_eq_true, if_false]
      exact a
end Go.Proofs.TryL
