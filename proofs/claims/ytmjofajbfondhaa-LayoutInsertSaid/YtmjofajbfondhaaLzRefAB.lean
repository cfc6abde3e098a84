/- Layout, the reference's Insert: the loops, and the whole. -/
import Derived.Test.YtmjofajbfondhaaLzRefAA
import Derived.Test.YtmjofajbfondhaaLzLayStrip2
set_option linter.unusedSimpArgs false
set_option linter.unusedVariables false
namespace Go.Proofs.TryL
open Go.Proofs.Lz
def a10 : ICode := match ic10.body with
  | .seq a _ => a
  | _ => .skip
def b10 : ICode := match ic10.body with
  | .seq _ (.seq a _) => a
  | _ => .skip
def c10 : ICode := match ic10.body with
  | .seq _ (.seq _ (.seq a _)) => a
  | _ => .skip
def d10 : ICode := match ic10.body with
  | .seq _ (.seq _ (.seq _ (.seq a _))) => a
  | _ => .skip
def e10 : ICode := match ic10.body with
  | .seq _ (.seq _ (.seq _ (.seq _ (.seq a _)))) => a
  | _ => .skip
def f10 : ICode := match ic10.body with
  | .seq _ (.seq _ (.seq _ (.seq _ (.seq _ (.seq a _))))) => a
  | _ => .skip
def g10 : ICode := match ic10.body with
  | .seq _ (.seq _ (.seq _ (.seq _ (.seq _ (.seq _ a))))) => a
  | _ => .skip
def z10f : ICode := .seq f10 g10
def z10e : ICode := .seq e10 z10f
def z10c : ICode := .seq c10 (.seq d10 z10e)
theorem fn10 : Vv.fn 10 = some ⟨.seq a10 (.seq b10 z10c), [.tmp 2, .cell 3 (some 4)]⟩ := rfl
def Q10 (r : Except Flt (List Tok)) : WV → Prop := fun w => ∃ c, ClV c (exO r) ∧ w = .tup [.c c, .c (fltC (exF r))]
def R10 (r : Except Flt (List Tok)) : Post := fun fr H => ∃ w, Q10 r w ∧ fin [.tmp 2, .cell 3 (some 4)] w fr H
theorem r10_err {fr : WFr} {H : WHeap} {f : Flt} (h1 : fr.env 2 = .nils) (h2 : fr.env 3 = .lbox (some 4) (.c (fltC f))) : R10 (.error f) fr H :=
  ⟨_, ⟨_, .inl ⟨rfl, rfl⟩, rfl⟩, fin2 (by decide) (.nils h1) h2⟩
attribute [local irreducible] z10f z10e z10c g10 d10
/-! the end -/
theorem end10 {x : List (Nat × WV)} {H : WHeap} {p : Nat} {s : St} {n : Ln} (e3 : frl x 3 = .lbox (some 4) (.c (fltC noF))) (e5 : frl x 5 = .ptr p 0) (hcl : clean 3 x = true) (h : RepR H p s noF n) (hb : s.out.length + s.stack.length < 100000000) :
    WP Vv g10 (FL x []) H (R10 (if 16384 < (s.cut 0).out.length then .error ⟨3, [], 0, 0⟩ else .ok (s.cut 0).out)) [] (R10 (if 16384 < (s.cut 0).out.length then .error ⟨3, [], 0, 0⟩ else .ok (s.cut 0).out)) := by
  rw [FL_know e3, FL_know (s := 5) (by exact e5)]
  unfold g10 ic10
  have hcut := cut33 0 h (Nat.zero_le _) (by omega)
  repeat' first
    | apply wo_cons
    | exact put_v0 rfl
    | (apply op_mv_ptr; exact rfl; exact rfl)
    | (apply op_faddr_ptr; exact rfl; exact rfl)
    | (apply op_nck_ptr; exact rfl; exact rfl)
    | (apply op_callSg (hc := ⟨hcut⟩); exact rfl; exact rfl; exact rfl; (first | exact put_c0 | exact put_none | exact put_v0 rfl | exact put_v1 rfl); rintro H1 ⟨r1, k1⟩)
    | apply wp_seq
    | apply wp_region0
    | apply wo_nil
  obtain ⟨vs, vo, hp, hs, ho⟩ := r1
  rcases ho with ⟨rfl, ho⟩ | rfl
  · have ho' : (s.cut 0).out = [] := by simpa using ho
    rw [ho', if_neg (by simp)]
    repeat' first
      | apply wo_cons
      | exact put_c0
      | exact put_v0 rfl
      | (apply op_bin; (iterate 3 exact rfl))
      | (apply op_len_nils; exact rfl)
      | (apply op_build; (iterate 3 exact rfl))
      | (apply op_mv_nils; exact rfl; exact rfl)
      | (apply op_mv_ptr; exact rfl; exact rfl)
      | (apply op_faddr_ptr; exact rfl; exact rfl)
      | (apply op_nck_ptr; exact rfl; exact rfl)
      | (apply op_store_all; (iterate 4 exact rfl); exact stored0_FL (by first | exact rfl | assumption | exact clean_hit (by assumption)))
      | (apply op_load_ptr; exact rfl; exact rfl; assumption; exact rfl)
      | apply wp_seq
      | apply wp_region0
      | apply wo_nil
      | apply wp_skip
      | apply wp_ret
      | (apply wp_if; exact rfl)
      | (with_reducible apply cnd_d; intro hc)
      | (with_reducible apply cnd_dF; intro hc)
    · omega
    · exact ⟨_, ⟨_, .inl ⟨rfl, rfl⟩, rfl⟩, fin2 (by decide) (.nils rfl) rfl⟩
  · repeat' first
      | apply wo_cons
      | exact put_c0
      | exact put_v0 rfl
      | (apply op_bin; (iterate 3 exact rfl))
      | (apply op_len_viewm; exact rfl)
      | (apply op_build; (iterate 3 exact rfl))
      | (apply op_mv_nils; exact rfl; exact rfl)
      | (apply op_mv_view; (iterate 3 exact rfl))
      | (apply op_mv_ptr; exact rfl; exact rfl)
      | (apply op_faddr_ptr; exact rfl; exact rfl)
      | (apply op_nck_ptr; exact rfl; exact rfl)
      | (apply op_store_all; (iterate 4 exact rfl); exact stored0_FL (by first | exact rfl | assumption | exact clean_hit (by assumption)))
      | (apply op_load_ptr; exact rfl; exact rfl; assumption; exact rfl)
      | apply wp_seq
      | apply wp_region0
      | apply wo_nil
      | apply wp_skip
      | apply wp_ret
      | (apply wp_if; exact rfl)
      | (with_reducible apply cnd_d; intro hc)
      | (with_reducible apply cnd_dF; intro hc)
    · rw [if_pos (by omega)]
      exact r10_err rfl rfl
    · rw [if_neg (by omega)]
      exact ⟨_, ⟨_, .inr rfl, rfl⟩, fin2hp rfl rfl⟩
/-! the last test -/
def NoIB (s : St) (i : Nat) : Prop := ∀ (i' k' : Nat) (a c : El), i' < i → i' < k' → s.stack[i']? = some a → a.form = .im → s.stack[k']? = some c → isPB c = false
theorem rPB3 {e : El} (h : e.form.r = 3) : isPB e = true := by cases hf : e.form <;> simp [hf, Fm.r] at h <;> simp [isPB, hf]
theorem rPB4 {e : El} (h : e.form.r = 4) : isPB e = true := by cases hf : e.form <;> simp [hf, Fm.r] at h <;> simp [isPB, hf]
theorem rPBn {e : El} (h3 : ¬ e.form.r = 3) (h4 : ¬ e.form.r = 4) : isPB e = false := by cases hf : e.form <;> simp [hf, Fm.r] at h3 h4 <;> simp [isPB, hf]
set_option maxHeartbeats 1000000 in
theorem dbl10 {x : List (Nat × WV)} {H : WHeap} {p : Nat} {l : List Tok} {s : St} {n : Ln} (e0 : frl x 0 = .c (tks l)) (e3 : frl x 3 = .lbox (some 4) (.c (fltC noF))) (e5 : frl x 5 = .ptr p 0) (h : RepR H p s noF n) (hb : s.stack.length < 100000000) (hl : s.stack ≠ [] → l ≠ []) (hll : l.length < 1000000000) {N R : Post}
    (hN : open1 s = false → ∀ x', frl x' 3 = .lbox (some 4) (.c (fltC noF)) → frl x' 5 = .ptr p 0 → clean 3 x' = true → N (FL x' []) H) (hR : open1 s = true → ∀ fr H', fr.env 2 = .nils → fr.env 3 = .lbox (some 4) (.c (fltC (flt (l.getLast?.getD zT)))) → R fr H') :
    WP Vv f10 (FL x []) H N [] R := by
  rw [FL_know e0, FL_know (s := 3) (by exact e3), FL_know (s := 5) (by exact e5)]
  unfold f10 ic10
  have h0 := h
  obtain ⟨vs, vo, hp, hs, ho⟩ := h
  repeat' first
    | apply wo_cons
    | exact put_c0
    | (apply op_mv_c; exact rfl; exact rfl)
    | apply wp_seq
    | apply wp_region0
    | apply wo_nil
    | apply wp_block
  refine wp_loop (fun i : Nat => [(0, .c (tks l)), (3, .lbox (some 4) (.c (fltC noF))), (5, .ptr p 0), (7, .c (.int .i64 i))]) (fun i => i ≤ s.stack.length ∧ NoIB s i) (fun i => s.stack.length - i) 0 ?_ ⟨Nat.zero_le _, fun i' k' a c h => by omega⟩ ?_
  · repeat' first
      | exact kp_nil
      | refine kp_cons rfl ?_
  rintro i ⟨hi, hno⟩
  rcases hs with ⟨rfl, hs⟩ | rfl
  · have hs' : s.stack = [] := by simpa using hs
    repeat' first
      | apply wo_cons
      | exact put_c0
      | exact put_v0 rfl
      | (apply op_mv_c; exact rfl; exact rfl)
      | (apply op_add; exact rfl; exact rfl; omega)
      | (apply op_bin; (iterate 3 exact rfl))
      | (apply op_len_nils; exact rfl)
      | (apply op_mv_ptr; exact rfl; exact rfl)
      | (apply op_faddr_ptr; exact rfl; exact rfl)
      | (apply op_nck_ptr; exact rfl; exact rfl)
      | (apply op_load_ptr; exact rfl; exact rfl; assumption; exact rfl)
      | apply wp_seq
      | apply wp_region0
      | apply wo_nil
      | apply wp_block
      | apply wp_skip
      | apply wp_exit
      | (apply exit_go; exact rfl)
      | (apply wp_if; exact rfl)
      | (with_reducible apply cnd_d; intro hc)
      | (with_reducible apply cnd_dF; intro hc)
    · omega
    · exact hN (open1_false fun i k a c _ h1 => by rw [hs'] at h1; cases h1) _ rfl rfl rfl
  · repeat' first
      | apply wo_cons
      | exact put_c0
      | exact put_v0 rfl
      | (apply op_mv_c; exact rfl; exact rfl)
      | (apply op_add; exact rfl; exact rfl; omega)
      | (apply op_bin; (iterate 3 exact rfl))
      | (apply op_len_viewm; exact rfl)
      | (apply op_mv_ptr; exact rfl; exact rfl)
      | (apply op_faddr_ptr; exact rfl; exact rfl)
      | (apply op_nck_ptr; exact rfl; exact rfl)
      | (apply op_load_ptr; exact rfl; exact rfl; assumption; exact rfl)
      | apply wp_seq
      | apply wp_region0
      | apply wo_nil
      | apply wp_block
      | apply wp_skip
      | apply wp_exit
      | (apply exit_go; exact rfl)
      | (apply wp_if; exact rfl)
      | (with_reducible apply cnd_d; intro hc)
      | (with_reducible apply cnd_dF; intro hc)
    · have hi' : i < s.stack.length := by omega
      have hgi : s.stack[i]? = some s.stack[i] := List.getElem?_eq_getElem hi'
      refine wp_loop (fun k : Nat => [(0, .c (tks l)), (3, .lbox (some 4) (.c (fltC noF))), (5, .ptr p 0), (7, .c (.int .i64 i)), (8, .c (.int .i64 k))]) (fun k => i < k ∧ k ≤ s.stack.length ∧ (s.stack[i].form = .im → ∀ (k' : Nat) (c : El), i < k' → k' < k → s.stack[k']? = some c → isPB c = false)) (fun k => s.stack.length - k) (i + 1) ?_ ⟨by omega, by omega, fun _ k' c h1 h2 => by omega⟩ ?_
      · repeat' first
          | exact kp_nil
          | refine kp_cons rfl ?_
      rintro k ⟨hik, hk, hnk⟩
      have hlp : 0 < l.length := List.length_pos_iff.2 (hl (by intro e; rw [e] at hi'; cases hi'))
      have hg : l[l.length - 1]? = some (l.getLast?.getD zT) := by
        rw [← List.getLast?_eq_getElem?, List.getLast?_eq_some_getLast (List.length_pos_iff.1 hlp)]; rfl
      have hop : k < s.stack.length → s.stack[i].form.r = 1 → ∀ h : k < s.stack.length, (s.stack[k].form.r = 3 ∨ s.stack[k].form.r = 4) → open1 s = true := fun hk' h1 h h2 =>
        open1_true hik hgi (by simpa using h1) (List.getElem?_eq_getElem h) (by rcases h2 with h2 | h2; exact rPB3 h2; exact rPB4 h2)
      generalize l.getLast?.getD zT = tl at hg hR
      repeat' first
        | apply wo_cons
        | exact put_c0
        | exact put_v0 rfl
        | (apply op_mv_c; exact rfl; exact rfl)
        | (apply op_load0; exact rfl; exact rfl)
        | (apply op_add; exact rfl; exact rfl; omega)
        | (apply op_sub; exact rfl; exact rfl; omega)
        | (apply op_bin; (iterate 3 exact rfl))
        | (apply op_len_map; exact rfl)
        | (apply op_len_viewm; exact rfl)
        | (apply op_pick_tc; exact rfl; (with_reducible exact rfl); exact rfl)
        | (apply op_pick_fc; exact rfl; (with_reducible exact rfl); exact rfl)
        | (apply op_mv_ptr; exact rfl; exact rfl)
        | (apply op_faddr_ptr; exact rfl; exact rfl)
        | (apply op_nck_ptr; exact rfl; exact rfl)
        | (apply op_load_ptr; exact rfl; exact rfl; assumption; exact rfl)
        | (apply op_ix_viewm; (iterate 3 exact rfl); assumption)
        | (apply op_ix_viewm; (iterate 3 exact rfl); exact List.getElem?_eq_getElem (by omega))
        | (apply op_ix_mapO; exact rfl; exact rfl; assumption; omega)
        | (apply op_faddr_eptr; exact rfl; exact rfl)
        | (apply op_load_eptr; (iterate 3 exact rfl))
        | (apply op_callSg (hc := ⟨fails32 tl h0⟩); exact rfl; exact rfl; exact rfl; (first | exact put_c0 | exact put_none | exact put_v0 rfl | exact put_v1 rfl); rintro H1 ⟨r1, k1⟩)
        | apply wp_seq
        | apply wp_region0
        | apply wo_nil
        | apply wp_block
        | apply wp_skip
        | apply wp_exit
        | apply wp_regionD0
        | (apply wp_cond_t; exact rfl; (with_reducible exact rfl))
        | (apply wp_cond_f; exact rfl; (with_reducible exact rfl))
        | (apply wp_if; exact rfl)
        | (apply wo_run; exact rfl; (with_reducible exact rfl))
        | (apply wo_skip_t; exact rfl; (with_reducible exact rfl))
        | (apply wo_skip_f; exact rfl; (with_reducible exact rfl))
        | (apply wo_skips; exact rfl)
        | (apply wo_if; exact rfl)
        | (apply wd_cons; (first | exact rfl | exact hnb _ (by decide) | exact nb_hit (hnb _ (by decide)) | exact nb_hit (nb_hit (hnb _ (by decide)))))
        | (with_reducible apply cnd_i; intro hc)
        | (with_reducible apply cnd_iF; intro hc)
        | (with_reducible apply cnd_d; intro hc)
        | (with_reducible apply cnd_dF; intro hc)
        | (apply opd_pure; exact rfl)
        | (apply opd_load; exact rfl)
        | (apply dand; exact rfl)
      · obtain ⟨vs1, vo1, hp1, hs1, ho1⟩ := r1
        repeat' first
          | exact put_c0
          | exact put_v0 rfl
          | (apply op_mv_nils; exact rfl; exact rfl)
          | (apply op_store_all; (iterate 4 exact rfl); exact stored0_FL (by first | exact rfl | assumption | exact clean_hit (by assumption)))
          | (apply op_load_ptrc; exact rfl; exact rfl; assumption; exact rfl)
          | apply wp_ret
          | apply wd_nil
          | (apply wd_cons; (first | exact rfl | exact hnb _ (by decide) | exact nb_hit (hnb _ (by decide)) | exact nb_hit (nb_hit (hnb _ (by decide)))))
          | (apply opd_pure; exact rfl)
          | (apply opd_wrb; exact rfl)
          | (apply dand; exact rfl)
        exact hR (hop (by omega) (by assumption) (by omega) (.inl (by assumption))) _ _ rfl rfl
      · obtain ⟨vs1, vo1, hp1, hs1, ho1⟩ := r1
        repeat' first
          | exact put_c0
          | exact put_v0 rfl
          | (apply op_mv_nils; exact rfl; exact rfl)
          | (apply op_store_all; (iterate 4 exact rfl); exact stored0_FL (by first | exact rfl | assumption | exact clean_hit (by assumption)))
          | (apply op_load_ptrc; exact rfl; exact rfl; assumption; exact rfl)
          | apply wp_ret
          | apply wd_nil
          | (apply wd_cons; (first | exact rfl | exact hnb _ (by decide) | exact nb_hit (hnb _ (by decide)) | exact nb_hit (nb_hit (hnb _ (by decide)))))
          | (apply opd_pure; exact rfl)
          | (apply opd_wrb; exact rfl)
          | (apply dand; exact rfl)
        exact hR (hop (by omega) (by assumption) (by omega) (.inr (by assumption))) _ _ rfl rfl
      · rename_i c1 c2 c3
        refine ⟨k + 1, ?_, rfl, ⟨by omega, by omega, fun him k' c h1 h2 h3 => ?_⟩, by omega⟩
        · repeat' first
            | exact kp_nil
            | refine kp_cons rfl ?_
        · by_cases hkk : k' = k
          · subst hkk
            rw [List.getElem?_eq_getElem (by omega)] at h3
            injection h3 with h3
            subst h3
            exact rPBn c3 hc
          · exact hnk him k' c h1 (by omega) h3
      · refine ⟨k + 1, ?_, rfl, ⟨by omega, by omega, fun him k' c h1 h2 h3 => ?_⟩, by omega⟩
        · repeat' first
            | exact kp_nil
            | refine kp_cons rfl ?_
        · rw [him] at hc
          exact absurd rfl hc
      · refine ⟨i + 1, ?_, rfl, ⟨by omega, fun i' k' a c h1 h2 h3 h4 h5 => ?_⟩, by omega⟩
        · repeat' first
            | exact kp_nil
            | refine kp_cons rfl ?_
        · by_cases hii : i' = i
          · subst hii
            rw [hgi] at h3
            injection h3 with h3
            subst h3
            have := (List.getElem?_eq_some_iff.1 h5).1
            exact hnk h4 k' c h2 (by omega) h5
          · exact hno i' k' a c (by omega) h2 h3 h4 h5
    · exact hN (open1_false fun i' k a c h1 h2 h3 h4 => hno i' k a c (by have := (List.getElem?_eq_some_iff.1 h2).1; omega) h1 h2 h3 h4) _ rfl rfl rfl
/-! behind the tokens -/
theorem rear10 {x : List (Nat × WV)} {H : WHeap} {p : Nat} {l : List Tok} {s : St} {n : Ln} (e0 : frl x 0 = .c (tks l)) (e3 : frl x 3 = .lbox (some 4) (.c (fltC noF))) (e5 : frl x 5 = .ptr p 0) (h : RepR H p s noF n) (hb : s.out.length + s.stack.length < 10000000) (hl : (fin1 s).stack ≠ [] → l ≠ []) (hll : l.length < 1000000000) :
    WP Vv z10e (FL x []) H (R10 (endI l s)) [] (R10 (endI l s)) := by
  rw [FL_know e0, FL_know (s := 3) (by exact e3), FL_know (s := 5) (by exact e5)]
  unfold z10e e10 ic10
  have h0 := h
  obtain ⟨vs, vo, hp, hs, ho⟩ := h
  have hb1 : s.out.length < 1000000000 := by omega
  have hb2 : (s.ins [123]).out.length < 1000000000 := by simp [St.ins]; omega
  have key : ∀ {x : List (Nat × WV)} {H : WHeap} {s1 : St}, fin1 s = s1 → s1.out.length + s1.stack.length < 20000000 → frl x 0 = .c (tks l) → frl x 3 = .lbox (some 4) (.c (fltC noF)) → frl x 5 = .ptr p 0 → RepR H p s1 noF n → WP Vv z10f (FL x []) H (R10 (endI l s)) [] (R10 (endI l s)) := by
    intro x H s1 hf hb3 e0 e3 e5 h
    unfold z10f
    refine wp_seq (dbl10 e0 e3 e5 h (by omega) (by rw [← hf]; exact hl) hll ?_ ?_)
    · intro ho x' e3 e5 hcl
      have : endI l s = if 16384 < (s1.cut 0).out.length then .error ⟨3, [], 0, 0⟩ else .ok (s1.cut 0).out := by
        simp only [endI, hf, ho, Bool.false_eq_true, if_false]
      rw [this]
      exact end10 e3 e5 hcl h (by omega)
    · intro ho fr H' h2 h3
      have : endI l s = .error (flt (l.getLast?.getD zT)) := by simp only [endI, hf, ho, if_true]
      rw [this]
      exact r10_err h2 h3
  repeat' first
    | apply wo_cons
    | exact put_c0
    | exact put_v0 rfl
    | (apply op_mv_ptr; exact rfl; exact rfl)
    | (apply op_faddr_ptr; exact rfl; exact rfl)
    | (apply op_nck_ptr; exact rfl; exact rfl)
    | (apply op_load_ptrc; exact rfl; exact rfl; assumption; exact rfl)
    | (apply op_callSg (hc := ⟨insert31 [123] h0 hb1⟩); exact rfl; exact rfl; exact rfl; (first | exact put_c0 | exact put_none | exact put_v0 rfl | exact put_v1 rfl); rintro H1 ⟨r1, k1⟩)
    | (apply op_callSg (hc := ⟨insert31 [125] r1 hb2⟩); exact rfl; exact rfl; exact rfl; (first | exact put_c0 | exact put_none | exact put_v0 rfl | exact put_v1 rfl); rintro H1 ⟨r1, k1⟩)
    | apply wp_seq
    | apply wp_region0
    | apply wo_nil
    | apply wp_skip
    | (apply wp_if; exact rfl)
    | (with_reducible apply cnd_x; intro hc)
  · exact key (s1 := (s.ins [123]).ins [125]) (by simp [fin1, hc]) (by simp [St.ins]; omega) rfl rfl rfl r1
  · exact key (s1 := s) (by simp [fin1, hc]) (by omega) rfl rfl rfl h0
/-! the tokens -/
def Inv10 (p : Nat) (l : List Tok) (i : Nat) (H : WHeap) : Prop := i ≤ l.length ∧ ∃ (s : St) (b : Tok) (n : Ln), RepR H p s noF n ∧ goI (l.drop i) b i s = goI l zT 0 st0 ∧ n.first = decide (i = 0) ∧ (0 < i → n.line = b.line) ∧ befR s = bword b ∧ s.phi ≤ 6 * i
theorem goI_cons (t : Tok) (r : List Tok) (b : Tok) (i : Nat) (s : St) : goI (t :: r) b i s = match stepI s t b i with
    | none => .error (flt t)
    | some s' => goI r t (i + 1) s' := rfl
theorem goI_nil (b : Tok) (i : Nat) (s : St) : goI [] b i s = .ok s := rfl
theorem stackR_nil {l : List Tok} {s : St} (h : goI l zT 0 st0 = .ok s) : (fin1 s).stack ≠ [] → l ≠ [] := stack_nil h
theorem main10 {x : List (Nat × WV)} {H : WHeap} {p : Nat} {l : List Tok} (hll : l.length < 1000000) (ha : l.any (·.auto) = false) (e0 : frl x 0 = .c (tks l)) (e3 : frl x 3 = .lbox (some 4) (.c (fltC noF))) (e5 : frl x 5 = .ptr p 0) (hI : Inv10 p l 0 H) :
    WP Vv d10 (FL x []) H (fun fr' H' => WP Vv z10e fr' H' (R10 (insertS l)) [] (R10 (insertS l))) [] (R10 (insertS l)) := by
  rw [FL_know e0, FL_know (s := 3) (by exact e3), FL_know (s := 5) (by exact e5)]
  unfold d10 ic10
  repeat' first
    | apply wo_cons
    | exact put_c0
    | (apply op_mv_c; exact rfl; exact rfl)
    | apply wp_seq
    | apply wp_region0
    | apply wo_nil
    | apply wp_block
  refine wp_loopH (fun i : Nat => [(0, .c (tks l)), (3, .lbox (some 4) (.c (fltC noF))), (5, .ptr p 0), (6, .c (.int .i64 i))]) (Inv10 p l) (fun i => l.length - i) 0 ?_ hI ?_
  · repeat' first
      | exact kp_nil
      | refine kp_cons rfl ?_
  rintro i H ⟨hi, s, b, n, hR, hgo, hf, hln, hbf, hph⟩
  have hins : insertS l = match goI l zT 0 st0 with
      | .error f => .error f
      | .ok s => endI l s := by unfold insertS; rw [if_neg (by rw [ha]; decide)]; cases goI l zT 0 st0 <;> rfl
  by_cases hlt : i < l.length
  · have ht : l[i]? = some l[i] := List.getElem?_eq_getElem hlt
    generalize l[i] = t at ht
    have hst := step30 t hR (by omega)
    rw [step_eq (i := i) (b := b) hf hln hbf] at hst
    have hd : l.drop i = t :: l.drop (i + 1) := by rw [List.drop_eq_getElem_cons hlt]; rw [List.getElem?_eq_getElem hlt] at ht; injection ht with ht; rw [ht]
    rw [hd, goI_cons] at hgo
    repeat' first
      | apply wo_cons
      | exact put_c0
      | exact put_v0 rfl
      | (apply op_mv_c; exact rfl; exact rfl)
      | (apply op_load0; exact rfl; exact rfl)
      | (apply op_bin; (iterate 3 exact rfl))
      | (apply op_len_map; exact rfl)
      | (apply op_ix_map; (iterate 3 exact rfl); assumption)
      | (apply op_mv_ptr; exact rfl; exact rfl)
      | (apply op_faddr_ptr; exact rfl; exact rfl)
      | (apply op_nck_ptr; exact rfl; exact rfl)
      | (apply op_callS (hc := ⟨hst.run⟩); exact rfl; exact rfl; (first | exact rfl | assumption); exact rfl; (first | exact put_c0 | exact put_none | exact put_v0 rfl | exact put_v1 rfl); rintro H1 ⟨r1, k1⟩)
      | apply wp_seq
      | apply wp_region0
      | apply wo_nil
      | apply wp_block
      | apply wp_skip
      | apply wp_exit
      | (apply exit_go; exact rfl)
      | (apply wp_if; exact rfl)
      | (with_reducible apply cnd_d; intro hc)
      | (with_reducible apply cnd_dF; intro hc)
    · cases hs : stepI s t b i with
      | none =>
        rw [hs] at r1 hgo
        obtain ⟨s2, l2, r2⟩ := r1
        obtain ⟨vs1, vo1, hp1, hs1, ho1⟩ := r2
        repeat' first
          | apply wo_cons
          | exact put_c0
          | exact put_v0 rfl
          | (apply op_mv_c; exact rfl; exact rfl)
          | (apply op_add; exact rfl; exact rfl; omega)
          | (apply op_bin; (iterate 3 exact rfl))
          | (apply op_mv_nils; exact rfl; exact rfl)
          | (apply op_mv_ptr; exact rfl; exact rfl)
          | (apply op_faddr_ptr; exact rfl; exact rfl)
          | (apply op_nck_ptr; exact rfl; exact rfl)
          | (apply op_store_all; (iterate 4 exact rfl); exact stored0_FL (by first | exact rfl | assumption | exact clean_hit (by assumption)))
          | (apply op_load_ptrc; exact rfl; exact rfl; assumption; exact rfl)
          | apply wp_seq
          | apply wp_region0
          | apply wo_nil
          | apply wp_skip
          | apply wp_ret
          | apply wp_regionD0
          | apply wd_nil
          | (apply wp_if; exact rfl)
          | (apply wd_cons; (first | exact rfl | exact hnb _ (by decide) | exact nb_hit (hnb _ (by decide)) | exact nb_hit (nb_hit (hnb _ (by decide)))))
          | (with_reducible apply cnd_ni; intro hc)
          | (with_reducible apply cnd_niF; intro hc)
          | (apply opd_pure; exact rfl)
          | (apply opd_load; exact rfl)
          | (apply opd_wrb; exact rfl)
          | (apply dand; exact rfl)
        · rw [hins, ← hgo]
          exact r10_err rfl rfl
        · cases hc
      | some s' =>
        rw [hs] at r1 hgo
        obtain ⟨vs1, vo1, hp1, hs1, ho1⟩ := id r1
        repeat' first
          | apply wo_cons
          | exact put_c0
          | exact put_v0 rfl
          | (apply op_mv_c; exact rfl; exact rfl)
          | (apply op_add; exact rfl; exact rfl; omega)
          | (apply op_bin; (iterate 3 exact rfl))
          | (apply op_mv_nils; exact rfl; exact rfl)
          | (apply op_mv_ptr; exact rfl; exact rfl)
          | (apply op_faddr_ptr; exact rfl; exact rfl)
          | (apply op_nck_ptr; exact rfl; exact rfl)
          | (apply op_store_all; (iterate 4 exact rfl); exact stored0_FL (by first | exact rfl | assumption | exact clean_hit (by assumption)))
          | (apply op_load_ptrc; exact rfl; exact rfl; assumption; exact rfl)
          | apply wp_seq
          | apply wp_region0
          | apply wo_nil
          | apply wp_skip
          | apply wp_ret
          | apply wp_regionD0
          | apply wd_nil
          | (apply wp_if; exact rfl)
          | (apply wd_cons; (first | exact rfl | exact hnb _ (by decide) | exact nb_hit (hnb _ (by decide)) | exact nb_hit (nb_hit (hnb _ (by decide)))))
          | (with_reducible apply cnd_ni; intro hc)
          | (with_reducible apply cnd_niF; intro hc)
          | (apply opd_pure; exact rfl)
          | (apply opd_load; exact rfl)
          | (apply opd_wrb; exact rfl)
          | (apply dand; exact rfl)
        · exact absurd rfl hc
        · have hp6 := phi_step hs
          refine ⟨i + 1, ?_, ⟨by omega, s', t, _, r1, hgo, by simp, fun _ => rfl, bef_step hs, by omega⟩, by omega⟩
          repeat' first
            | exact kp_nil
            | refine kp_cons rfl ?_
    · omega
  · have hie : i = l.length := by omega
    subst hie
    rw [List.drop_length, goI_nil] at hgo
    repeat' first
      | apply wo_cons
      | exact put_c0
      | exact put_v0 rfl
      | (apply op_mv_c; exact rfl; exact rfl)
      | (apply op_load0; exact rfl; exact rfl)
      | (apply op_bin; (iterate 3 exact rfl))
      | (apply op_len_map; exact rfl)
      | (apply op_ix_map; (iterate 3 exact rfl); exact List.getElem?_eq_getElem (by omega))
      | (apply op_mv_ptr; exact rfl; exact rfl)
      | apply wp_seq
      | apply wp_region0
      | apply wo_nil
      | apply wp_block
      | apply wp_skip
      | apply wp_exit
      | (apply exit_go; exact rfl)
      | (apply wp_if; exact rfl)
      | (with_reducible apply cnd_d; intro hc)
      | (with_reducible apply cnd_dF; intro hc)
    · omega
    · have h2 : insertS l = endI l s := by rw [hins, ← hgo]
      rw [h2]
      simp only [St.phi] at hph
      exact rear10 rfl rfl rfl hR (by omega) (stackR_nil hgo.symm) (by omega)
/-- The reference's Insert gives what the program's gives. -/
theorem insert10 (l : List Tok) (hll : l.length < 1000000) : ∃ w, Q10 (insertS l) w ∧ Rets Vv 10 [.c (tks l)] w := by
  refine rets_ofP fn10 ?_
  unfold a10 b10 ic10
  repeat' first
    | apply wo_cons
    | exact put_c0
    | exact put_v0 rfl
    | (apply op_mv_c; exact rfl; exact rfl)
    | (apply op_mv_nils; exact rfl; exact rfl)
    | (apply op_lbox; exact rfl; exact rfl; exact boxed_FL (by first | exact rfl | assumption | exact clean_hit (by assumption)))
    | apply wp_seq
    | apply wp_region0
    | apply wo_nil
    | apply wp_block
  refine wp_loop (fun i : Nat => [(0, .c (tks l)), (3, .lbox (some 4) (.c (fltC noF))), (4, .c (.int .i64 i))]) (fun i => i ≤ l.length ∧ (l.take i).any (·.auto) = false) (fun i => l.length - i) 0 ?_ ⟨Nat.zero_le _, rfl⟩ ?_
  · repeat' first
      | exact kp_nil
      | refine kp_cons rfl ?_
  rintro i ⟨hi, hau⟩
  repeat' first
    | apply wo_cons
    | exact put_c0
    | exact put_v0 rfl
    | (apply op_mv_c; exact rfl; exact rfl)
    | (apply op_load; (iterate 3 exact rfl))
    | (apply op_add; exact rfl; exact rfl; omega)
    | (apply op_bin; (iterate 3 exact rfl))
    | (apply op_faddr; exact rfl; exact rfl)
    | (apply op_len_map; exact rfl)
    | (apply op_ix_map; (iterate 3 exact rfl); exact List.getElem?_eq_getElem (by omega))
    | (apply op_build; (iterate 3 exact rfl))
    | (apply op_mv_nils; exact rfl; exact rfl)
    | (apply op_store_all; (iterate 4 exact rfl); exact stored0_FL (by first | exact rfl | assumption | exact clean_hit (by assumption)))
    | apply wp_seq
    | apply wp_region0
    | apply wo_nil
    | apply wp_block
    | apply wp_skip
    | apply wp_ret
    | apply wp_exit
    | (apply exit_go; exact rfl)
    | (apply wp_if; exact rfl)
    | (with_reducible apply cnd_d; intro hc)
    | (with_reducible apply cnd_dF; intro hc)
    | (with_reducible apply cnd_x; intro hc)
  · have ha : l.any (·.auto) = true := by rw [List.any_eq_true]; exact ⟨l[i], List.getElem_mem _, hc⟩
    have h2 : insertS l = .error ⟨1, [], 0, 0⟩ := by unfold insertS; rw [if_pos ha]
    rw [h2]
    exact r10_err rfl rfl
  · refine ⟨i + 1, ?_, rfl, ⟨by omega, ?_⟩, by omega⟩
    · repeat' first
        | exact kp_nil
        | refine kp_cons rfl ?_
    · rw [List.take_succ_eq_append_getElem (by omega), List.any_append, hau]
      simp [hc]
  · have hie : i = l.length := by omega
    subst hie
    rw [List.take_length] at hau
    unfold z10c c10 ic10
    repeat' first
      | apply wo_cons
      | exact put_v0 rfl
      | (apply op_buildA; (iterate 3 exact rfl))
      | (apply op_mv_ptr; exact rfl; exact rfl)
      | (apply op_hboxA; (iterate 4 exact rfl))
      | apply wp_seq
      | apply wp_region0
      | apply wo_nil
    apply main10 hll hau
    · exact rfl
    · exact rfl
    · exact rfl
    exact ⟨Nat.zero_le _, st0, zT, ⟨0, true⟩, ⟨_, _, rfl, .inl ⟨rfl, rfl⟩, .inl ⟨rfl, rfl⟩⟩, rfl, rfl, fun h => absurd h (by omega), rfl, by simp [St.phi, st0]⟩
end Go.Proofs.TryL
