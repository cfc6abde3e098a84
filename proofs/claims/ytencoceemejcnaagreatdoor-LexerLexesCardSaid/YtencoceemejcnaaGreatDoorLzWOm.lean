/- The evaluator of LzW without a number of rounds: its equations. -/
import Derived.Test.YtencoceemejcnaaGreatDoorLzW
import Derived.Test.YtencoceemejcnaaGreatDoorLzOm
namespace Go.Proofs.Lz
def V4 (c c':C9):Prop:=∀ f a H,Le (c f a H) (c' f a H)
def jT (s s':A4):Prop:=∀ fr H,Le (s fr H) (s' fr H)
theorem z68 {E:WEnv} {c c':C9} (h:V4 c c') (f:Nat) (args:List WV) (dst:Option Nat) (fr:WFr) (H:q9) :
 Le (O1 E c f args dst fr H) (O1 E c' f args dst fr H):=by
 intro r hr;unfold O1 at hr ⊢;cases hm:E.md f with
 | S=>
   rw [hm] at hr;dsimp only at hr ⊢;split at hr
   . rename_i hc;rw [if_pos hc];cases ha:O9 (N2 (E.tk f) 0 args) false fr H with
     | mk fr1 H1=>
       rw [ha] at hr;dsimp only at hr ⊢;cases hc:c f (W8 (E.tk f) 0 args) H1 with
       | none=>rw [hc] at hr;cases hr
       | some q=>rw [hc] at hr;rw [h _ _ _ _ hc];exact hr
   . cases hr
 | P=>
   rw [hm] at hr;dsimp only at hr ⊢;cases ha:K4 H args with
   | none=>rw [ha] at hr;cases hr
   | some a5=>
     rw [ha] at hr;dsimp only at hr ⊢;cases hc:c f a5 [] with
     | none=>rw [hc] at hr;cases hr
     | some p=>rw [hc] at hr;rw [h _ _ _ _ hc];exact hr
theorem mH {E:WEnv} {c c':C9} (h:V4 c c') (o:IOp) (dst:Option Nat) (fr:WFr) (H:q9):Le (wOp E c o dst fr H) (wOp E c' o dst fr H):=by
 intro r hr;unfold wOp at hr ⊢;split at hr
 . exact z68 h _ _ _ _ _ _ hr
 . rename_i x args;cases ht:xE (fr.rd x) (args.map fr.rd) with
   | none=>rw [ht] at hr;cases hr
   | some p=>
     rw [ht] at hr;exact z68 h _ _ _ _ _ _ hr
 . exact hr
theorem z64 {E:WEnv} {c c':C9} (h:V4 c c') (o:IOper) (fr:WFr) (H:q9):Le (M9 E c o fr H) (M9 E c' o fr H):=by
 intro r hr;unfold M9 at hr ⊢;cases hg:o.guard with
 | none=>rw [hg] at hr;exact mH h _ _ _ _ _ hr
 | some g=>
   rw [hg] at hr;obtain ⟨s,want⟩:=g;dsimp only at hr ⊢;split at hr
   . split at hr
     . rename_i hb;rw [if_pos hb];exact mH h _ _ _ _ _ hr
     . rename_i hb;rw [if_neg hb];exact hr
   . exact hr
   . cases hr
theorem iF {E:WEnv} {c c':C9} (h:V4 c c') (ops:List IOper):∀ (fr:WFr) (H:q9),Le (M7 E c ops fr H) (M7 E c' ops fr H):=by
 induction ops with
 | nil=>intro fr H;exact Le.refl _
 | cons o ops ih=>
   intro fr H r hr;unfold M7 at hr ⊢;cases hs:M9 E c o fr H with
   | none=>rw [hs] at hr;cases hr
   | some p=>rw [hs] at hr;rw [z64 h _ _ _ _ hs];exact ih _ _ _ hr
theorem zg6 {E:WEnv} {c c':C9} (h:V4 c c') (cl:Cls) (o:IOp) (dst:Option Nat) (fr:WFr) (H:q9):Le (wD E c cl o dst fr H) (wD E c' cl o dst fr H):=by
 intro r hr;unfold wD at hr ⊢;split at hr
 . exact hr
 . exact hr
 . exact hr
 . split at hr
   . exact hr
   . exact hr
   . exact hr
   . rename_i f args;cases hm:E.md f with
     | S=>rw [hm] at hr;cases hr
     | P=>
       rw [hm] at hr;dsimp only at hr ⊢;cases ha:K4 H (args.map fr.rd) with
       | none=>rw [ha] at hr;cases hr
       | some a5=>
         rw [ha] at hr;dsimp only at hr ⊢;cases hc:c f a5 [] with
         | none=>rw [hc] at hr;cases hr
         | some p=>rw [hc] at hr;rw [h _ _ _ _ hc];exact hr
   . exact hr
 . split at hr
   . exact hr
   . exact hr
   . exact hr
   . exact mH h _ _ _ _ _ hr
   . exact mH h _ _ _ _ _ hr
   . exact hr
 . exact hr
 . exact hr
theorem qm1 {E:WEnv} {c c':C9} (h:V4 c c') (cl:Cls) (o:IOper) (fr:WFr) (H:q9):Le (Q3 E c cl o fr H) (Q3 E c' cl o fr H):=by
 intro r hr;unfold Q3 at hr ⊢;cases hg:o.guard with
 | none=>rw [hg] at hr;exact zg6 h _ _ _ _ _ _ hr
 | some g=>
   rw [hg] at hr;obtain ⟨s,want⟩:=g;dsimp only at hr ⊢;split at hr
   . split at hr
     . rename_i hb;rw [if_pos hb];exact zg6 h _ _ _ _ _ _ hr
     . rename_i hb;rw [if_neg hb];exact hr
   . exact hr
   . cases hr
theorem z65 {E:WEnv} {c c':C9} (h:V4 c c') (cl:Cls) (o:IOper) (fr:WFr) (H:q9):Le (L8 E c cl o fr H) (L8 E c' cl o fr H):=by
 intro r hr;unfold L8 at hr ⊢;split at hr
 . rename_i hd;rw [if_pos hd];cases hs:Q3 E c cl o fr H with
   | none=>rw [hs] at hr;cases hr
   | some p=>rw [hs] at hr;rw [qm1 h _ _ _ _ _ hs];exact hr
 . cases hr
theorem zl4 {E:WEnv} {c c':C9} (h:V4 c c') (ops:List (Cls×IOper)):∀ (fr:WFr) (H:q9),Le (N1 E c ops fr H) (N1 E c' ops fr H):=by
 induction ops with
 | nil=>intro fr H;exact Le.refl _
 | cons o ops ih=>
   intro fr H r hr;obtain ⟨cl,o⟩:=o;unfold N1 at hr ⊢;cases hs:L8 E c cl o fr H with
   | none=>rw [hs] at hr;cases hr
   | some p=>rw [hs] at hr;rw [z65 h _ _ _ _ _ hs];exact ih _ _ _ hr
theorem tY (l:Nat) {a b:Option (Ex×WFr×q9)} (h:Le a b):Le (Q0 l a) (Q0 l b):=by
 intro r hr;cases a with
 | none=>cases hr
 | some q=>rw [h _ rfl];exact hr
theorem zw5 (l:Nat) {a b:Option (Ex×WFr×q9)} (h:Le a b):Le (wR l a) (wR l b):=by
 intro r hr;cases a with
 | none=>cases hr
 | some q=>rw [h _ rfl];exact hr
def mT (i i':A4->A4):Prop:=∀ s s',jT s s'->jT (i s) (i' s')
theorem ze5 {E:WEnv} {c c':C9} {i i':A4->A4} (h:V4 c c') (hi:mT i i') (code:ICode):jT (wC E c i code) (wC E c' i' code):=by
 induction code with
 | skip=>intro fr H;exact Le.refl _
 | region ops=>
   intro fr H r hr;unfold wC at hr ⊢;cases hs:M7 E c ops { fr with al:=f0 } H with
   | none=>rw [hs] at hr;cases hr
   | some p=>rw [hs] at hr;rw [iF h _ _ _ _ hs];exact hr
 | regionD ops=>
   intro fr H r hr;unfold wC at hr ⊢;cases hs:N1 E c ops { fr with al:=f0 } H with
   | none=>rw [hs] at hr;cases hr
   | some p=>rw [hs] at hr;rw [zl4 h _ _ _ _ hs];exact hr
 | seq a b iha ihb=>
   intro fr H r hr;unfold wC at hr ⊢;cases hs:wC E c i a fr H with
   | none=>rw [hs] at hr;cases hr
   | some p=>
     rw [hs] at hr;rw [iha _ _ _ hs];obtain ⟨e,fr',H'⟩:=p;cases e with
     | nrm=>exact ihb _ _ _ hr
     | _=>exact hr
 | cond x a b iha ihb=>
   intro fr H r hr;unfold wC at hr ⊢;split at hr
   . split at hr
     . rename_i hb;rw [if_pos hb];exact iha _ _ _ hr
     . rename_i hb;rw [if_neg hb];exact ihb _ _ _ hr
   . cases hr
 | block id b ih=>
   intro fr H r hr;unfold wC at hr ⊢;cases hs:wC E c i b fr H with
   | none=>rw [hs] at hr;cases hr
   | some p=>rw [hs] at hr;rw [ih _ _ _ hs];exact hr
 | loop live b ih=>
   intro fr H r hr;unfold wC at hr ⊢;exact hi _ _ (fun fr H=>ih _ _) _ _ _ hr
 | exit id=>intro fr H;exact Le.refl _
 | scope l live b rest ihb ihr=>
   intro fr H r hr;unfold wC at hr ⊢;cases hs:wC E c i b fr H with
   | none=>rw [hs] at hr;cases hr
   | some p=>
     rw [hs] at hr;rw [ihb _ _ _ hs];obtain ⟨e,fr',H'⟩:=p;cases e with
     | goto l'=>
       dsimp only at hr ⊢;split at hr
       . rename_i hl;rw [if_pos hl];have key:jT (i fun fr H=>Q0 l (wC E c i rest (J8 live fr) H)) (i' fun fr H=>Q0 l (wC E c' i' rest (J8 live fr) H)):=
          hi _ _ fun fr H=>tY l (ihr _ _)
         exact zw5 l (key _ _) _ hr
       . rename_i hl;rw [if_neg hl];exact hr
     | _=>exact hr
 | label l=>intro fr H;exact Le.refl _
 | keep l=>intro fr H;exact Le.refl _
 | goto l=>intro fr H;exact Le.refl _
 | ret=>intro fr H;exact Le.refl _
theorem fP (n:Nat):∀ s s':A4,jT s s'->jT (E7 n s) (E7 (n+1) s'):=by
 induction n with
 | zero=>intro s s' _ fr H r hr;cases hr
 | succ n ih=>
   intro s s' h fr H r hr;rw [E7] at hr ⊢;cases hs:s fr H with
   | none=>rw [hs] at hr;cases hr
   | some p=>
     rw [hs] at hr;rw [h _ _ _ hs];obtain ⟨e,fr',H'⟩:=p;cases e with
     | nrm=>exact ih _ _ h _ _ _ hr
     | _=>exact hr
theorem yU (n k:Nat):mT (E7 n) (E7 (n+k)):=by
 induction k with
 | zero=>
   intro s s' h;induction n with
   | zero=>intro fr H r hr;cases hr
   | succ n ih=>
     intro fr H r hr;simp only [Nat.add_zero] at ih ⊢;rw [E7] at hr ⊢;cases hs:s fr H with
     | none=>rw [hs] at hr;cases hr
     | some p=>
       rw [hs] at hr;rw [h _ _ _ hs];obtain ⟨e,fr',H'⟩:=p;cases e with
       | nrm=>exact ih _ _ _ hr
       | _=>exact hr
 | succ k ih=>
   intro s s' h fr H;exact (ih s s' h fr H).trans (fP (n+k) s' s' (fun _ _=>Le.refl _) fr H)
theorem zf9 {E:WEnv} {c c':C9} {i i':A4->A4} (h:V4 c c') (hi:mT i i'):V4 (wFn E c i) (wFn E c' i'):=by
 intro f a H r hr;unfold wFn at hr ⊢;cases hf:E.fnA f a.length with
 | none=>rw [hf] at hr;exact hr
 | some g=>
   rw [hf] at hr;dsimp only at hr ⊢;cases hs:wC E c i g.body { env:=J9 (O2 0 a),al:=f0 } H with
   | none=>rw [hs] at hr;cases hr
   | some p=>rw [hs] at hr;rw [ze5 h hi _ _ _ _ hs];exact hr
theorem z12 (E:WEnv) (n:Nat):V4 (wF E n) (wF E (n+1)):=by
 induction n with
 | zero=>intro f a H r hr;cases hr
 | succ n ih=>exact zf9 ih (yU n 1)
theorem kD (E:WEnv) (n k:Nat):V4 (wF E n) (wF E (n+k)):=by
 induction k with
 | zero=>intro f a H;exact Le.refl _
 | succ k ih=>intro f a H;exact (ih f a H).trans (z12 E (n+k) f a H)
noncomputable def wv (E:WEnv):C9:=fun f a H=>lub fun n=>wF E n f a H
noncomputable def witW:A4->A4:=fun s fr H=>lub fun n=>E7 n s fr H
theorem gJ {E:WEnv} {f:Nat} {a:List WV} {H:q9} {r:WV×q9} (h:wv E f a H=some r):∃ n,wF E n f a H=some r:=cX h
theorem mY {E:WEnv} {f:Nat} {a:List WV} {H:q9} {r:WV×q9} {n:Nat} (h:wF E n f a H=some r):wv E f a H=some r:=
 cE (g:=fun n=>wF E n f a H) (fun n=>z12 E n f a H) h
theorem bE {s:A4} {fr:WFr} {H:q9} {r:Ex×WFr×q9} {n:Nat} (h:E7 n s fr H=some r):witW s fr H=some r:=
 cE (g:=fun n=>E7 n s fr H) (fun n=>fP n s s (fun _ _=>Le.refl _) fr H) h
theorem rS {s:A4} {fr:WFr} {H:q9} {r:Ex×WFr×q9} (h:witW s fr H=some r):∃ n,E7 n s fr H=some r:=cX h
theorem cD (s:A4) (fr:WFr) (H:q9):witW s fr H=match s fr H with
 | some (.nrm,fr',H')=>witW s fr' H'
 | r=>r:=by
 apply Option.ext;intro r;constructor
 . intro h;obtain ⟨n,hn⟩:=rS h;cases n with
   | zero=>cases hn
   | succ n=>
     rw [E7] at hn;cases hs:s fr H with
     | none=>rw [hs] at hn;cases hn
     | some p=>
       rw [hs] at hn;obtain ⟨e,fr',H'⟩:=p;cases e with
       | nrm=>exact bE hn
       | _=>exact hn
 . intro h;cases hs:s fr H with
   | none=>rw [hs] at h;cases h
   | some p=>
     rw [hs] at h;obtain ⟨e,fr',H'⟩:=p;cases e with
     | nrm=>
       obtain ⟨n,hn⟩:=rS h;exact bE (n:=n+1) (by rw [E7,hs];exact hn)
     | _=>exact bE (n:=1) (by rw [E7,hs];exact h)
theorem qu4 (n:Nat):mT (E7 n) witW:=fun s s' h fr H r hr=>bE (yU n 0 s s' h fr H r hr)
theorem jh6 (E:WEnv) (n:Nat):V4 (wF E n) (wv E):=fun _ _ _ _ h=>mY h
theorem zh0 {E:WEnv} {f:Nat} {args:List WV} {dst:Option Nat} {fr:WFr} {H:q9} {r:WFr×q9} (hr:O1 E (wv E) f args dst fr H=some r):∃ n,O1 E (wF E n) f args dst fr H=some r:=by
 unfold O1 at hr;cases hm:E.md f with
 | S=>
   rw [hm] at hr;dsimp only at hr;split at hr
   . rename_i hc0;cases ha:O9 (N2 (E.tk f) 0 args) false fr H with
     | mk fr1 H1=>
       rw [ha] at hr;dsimp only at hr;cases hc:wv E f (W8 (E.tk f) 0 args) H1 with
       | none=>rw [hc] at hr;cases hr
       | some q=>
         obtain ⟨n,hn⟩:=gJ hc;refine ⟨n,?_⟩;unfold O1;rw [hm];dsimp only;rw [if_pos hc0,ha];dsimp only;rw [hn];rw [hc] at hr;exact hr
   . cases hr
 | P=>
   rw [hm] at hr;dsimp only at hr;cases ha:K4 H args with
   | none=>rw [ha] at hr;cases hr
   | some a5=>
     rw [ha] at hr;dsimp only at hr;cases hc:wv E f a5 [] with
     | none=>rw [hc] at hr;cases hr
     | some q=>
       obtain ⟨n,hn⟩:=gJ hc;refine ⟨n,?_⟩;unfold O1;rw [hm];dsimp only;rw [ha];dsimp only;rw [hn];rw [hc] at hr;exact hr
theorem dY {E:WEnv} {o:IOp} {dst:Option Nat} {fr:WFr} {H:q9} {r:WFr×q9} (h:wOp E (wv E) o dst fr H=some r):∃ n,wOp E (wF E n) o dst fr H=some r:=by
 unfold wOp at h;split at h
 . obtain ⟨n,hn⟩:=zh0 h;exact ⟨n,by unfold wOp;exact hn⟩
 . rename_i x args;cases ht:xE (fr.rd x) (args.map fr.rd) with
   | none=>rw [ht] at h;cases h
   | some p=>
     rw [ht] at h;obtain ⟨n,hn⟩:=zh0 h;exact ⟨n,by unfold wOp;dsimp only;rw [ht];exact hn⟩
 . rename_i h1 h2;refine ⟨0,?_⟩;unfold wOp;split
   . exact absurd rfl (h1 _ _)
   . exact absurd rfl (h2 _ _)
   . exact h
theorem j04 {E:WEnv} {o:IOper} {fr:WFr} {H:q9} {r:WFr×q9} (h:M9 E (wv E) o fr H=some r):∃ n,M9 E (wF E n) o fr H=some r:=by
 unfold M9 at h;cases hg:o.guard with
 | none=>
   rw [hg] at h;obtain ⟨n,hn⟩:=dY h;exact ⟨n,by unfold M9;rw [hg];exact hn⟩
 | some g=>
   rw [hg] at h;obtain ⟨s,want⟩:=g;dsimp only at h;cases he:fr.env s with
   | c v=>
     cases v with
     | bool b=>
       rw [he] at h;dsimp only at h;by_cases hb:b=want
       . rw [if_pos hb] at h;obtain ⟨n,hn⟩:=dY h;exact ⟨n,by unfold M9;rw [hg];dsimp only;rw [he];dsimp only;rw [if_pos hb];exact hn⟩
       . rw [if_neg hb] at h;exact ⟨0,by unfold M9;rw [hg];dsimp only;rw [he];dsimp only;rw [if_neg hb];exact h⟩
     | _=>rw [he] at h;cases h
   | skipv=>rw [he] at h;exact ⟨0,by unfold M9;rw [hg];dsimp only;rw [he];exact h⟩
   | _=>rw [he] at h;cases h
theorem ql0 {E:WEnv} (ops:List IOper):∀ {fr:WFr} {H:q9} {r:WFr×q9},M7 E (wv E) ops fr H=some r->∃ n,M7 E (wF E n) ops fr H=some r:=by
 induction ops with
 | nil=>intro fr H r h;exact ⟨0,h⟩
 | cons o ops ih=>
   intro fr H r h;unfold M7 at h;cases hs:M9 E (wv E) o fr H with
   | none=>rw [hs] at h;cases h
   | some p=>
     rw [hs] at h;obtain ⟨n,hn⟩:=j04 hs;obtain ⟨m,hm⟩:=ih h;refine ⟨n+m,?_⟩;unfold M7;rw [z64 (kD E n m) _ _ _ _ hn];rw [Nat.add_comm];exact iF (kD E m n) _ _ _ _ hm
theorem hI {E:WEnv} {cl:Cls} {o:IOp} {dst:Option Nat} {fr:WFr} {H:q9} {r:WFr×q9} (h:wD E (wv E) cl o dst fr H=some r):∃ n,wD E (wF E n) cl o dst fr H=some r:=by
 unfold wD at h;split at h
 . exact ⟨0,by unfold wD;exact h⟩
 . exact ⟨0,by unfold wD;exact h⟩
 . exact ⟨0,by unfold wD;exact h⟩
 . split at h
   . exact ⟨0,by unfold wD;exact h⟩
   . exact ⟨0,by unfold wD;exact h⟩
   . exact ⟨0,by unfold wD;exact h⟩
   . rename_i f args;cases hm:E.md f with
     | S=>rw [hm] at h;cases h
     | P=>
       rw [hm] at h;dsimp only at h;cases ha:K4 H (args.map fr.rd) with
       | none=>rw [ha] at h;cases h
       | some a5=>
         rw [ha] at h;dsimp only at h;cases hc:wv E f a5 [] with
         | none=>rw [hc] at h;cases h
         | some p=>
           obtain ⟨n,hn⟩:=gJ hc;refine ⟨n,?_⟩;unfold wD;dsimp only;rw [hm];dsimp only;rw [ha];dsimp only;rw [hn];rw [hc] at h;exact h
   . cases h
 . split at h
   . exact ⟨0,by unfold wD;exact h⟩
   . exact ⟨0,by unfold wD;exact h⟩
   . exact ⟨0,by unfold wD;exact h⟩
   . obtain ⟨n,hn⟩:=dY h;exact ⟨n,by unfold wD;exact hn⟩
   . obtain ⟨n,hn⟩:=dY h;exact ⟨n,by unfold wD;exact hn⟩
   . cases h
 . exact ⟨0,by unfold wD;exact h⟩
 . exact ⟨0,by unfold wD;exact h⟩
theorem qi9 {E:WEnv} {cl:Cls} {o:IOper} {fr:WFr} {H:q9} {r:WFr×q9} (h:Q3 E (wv E) cl o fr H=some r):∃ n,Q3 E (wF E n) cl o fr H=some r:=by
 unfold Q3 at h;cases hg:o.guard with
 | none=>
   rw [hg] at h;obtain ⟨n,hn⟩:=hI h;exact ⟨n,by unfold Q3;rw [hg];exact hn⟩
 | some g=>
   rw [hg] at h;obtain ⟨s,want⟩:=g;dsimp only at h;cases he:fr.env s with
   | c v=>
     cases v with
     | bool b=>
       rw [he] at h;dsimp only at h;by_cases hb:b=want
       . rw [if_pos hb] at h;obtain ⟨n,hn⟩:=hI h;exact ⟨n,by unfold Q3;rw [hg];dsimp only;rw [he];dsimp only;rw [if_pos hb];exact hn⟩
       . rw [if_neg hb] at h;exact ⟨0,by unfold Q3;rw [hg];dsimp only;rw [he];dsimp only;rw [if_neg hb];exact h⟩
     | _=>rw [he] at h;cases h
   | skipv=>rw [he] at h;exact ⟨0,by unfold Q3;rw [hg];dsimp only;rw [he];exact h⟩
   | _=>rw [he] at h;cases h
theorem q03 {E:WEnv} {cl:Cls} {o:IOper} {fr:WFr} {H:q9} {r:WFr×q9} (h:L8 E (wv E) cl o fr H=some r):∃ n,L8 E (wF E n) cl o fr H=some r:=by
 unfold L8 at h;split at h
 . rename_i hd;cases hs:Q3 E (wv E) cl o fr H with
   | none=>rw [hs] at h;cases h
   | some p=>
     obtain ⟨n,hn⟩:=qi9 hs;exact ⟨n,by unfold L8;rw [if_pos hd,hn];rw [hs] at h;exact h⟩
 . cases h
theorem ji7 {E:WEnv} (ops:List (Cls×IOper)):∀ {fr:WFr} {H:q9} {r:WFr×q9},N1 E (wv E) ops fr H=some r->∃ n,N1 E (wF E n) ops fr H=some r:=by
 induction ops with
 | nil=>intro fr H r h;exact ⟨0,h⟩
 | cons o ops ih=>
   intro fr H r h;obtain ⟨cl,o⟩:=o;unfold N1 at h;cases hs:L8 E (wv E) cl o fr H with
   | none=>rw [hs] at h;cases h
   | some p=>
     rw [hs] at h;obtain ⟨n,hn⟩:=q03 hs;obtain ⟨m,hm⟩:=ih h;refine ⟨n+m,?_⟩;unfold N1;rw [z65 (kD E n m) _ _ _ _ _ hn];rw [Nat.add_comm];exact zl4 (kD E m n) _ _ _ _ hm
theorem uS (E:WEnv) (n k:Nat) (c:ICode):jT (wC E (wF E n) (E7 n) c) (wC E (wF E (n+k)) (E7 (n+k)) c):=ze5 (kD E n k) (yU n k) c
theorem zf7 {s:A4} {sn:Nat->A4} (hm:∀ n k,jT (sn n) (sn (n+k))) (hl:∀ fr H r,s fr H=some r->∃ n,sn n fr H=some r) {fr:WFr} {H:q9} {r:Ex×WFr×q9} (h:witW s fr H=some r):∃ n,E7 n (sn n) fr H=some r:=by
 obtain ⟨m,hm'⟩:=rS h;have key:∀ m fr H,E7 m s fr H=some r->∃ n,E7 m (sn n) fr H=some r:=by
  intro m;induction m with
  | zero=>intro fr H h;cases h
  | succ m ih=>
    intro fr H h;rw [E7] at h;cases hs:s fr H with
    | none=>rw [hs] at h;cases h
    | some p=>
      rw [hs] at h;obtain ⟨n,hn⟩:=hl _ _ _ hs;obtain ⟨e,fr',H'⟩:=p;cases e with
      | nrm=>
        obtain ⟨k,hk⟩:=ih _ _ h;refine ⟨n+k,?_⟩;rw [E7,hm n k _ _ _ hn];have:=yU m 0 _ _ (hm k n) fr' H' r hk;rw [Nat.add_comm n k];exact this
      | _=>exact ⟨n,by rw [E7,hn];exact h⟩
 obtain ⟨n,hn⟩:=key m fr H hm';refine ⟨m+n,?_⟩;have:=yU m n _ _ (hm n m) fr H r hn;rw [Nat.add_comm n m] at this;exact this
theorem qy8 {E:WEnv} (code:ICode):∀ {fr:WFr} {H:q9} {r:Ex×WFr×q9},wC E (wv E) witW code fr H=some r->∃ n,wC E (wF E n) (E7 n) code fr H=some r:=by
 induction code with
 | skip=>intro fr H r h;exact ⟨0,h⟩
 | region ops=>
   intro fr H r h;unfold wC at h;cases hs:M7 E (wv E) ops { fr with al:=f0 } H with
   | none=>rw [hs] at h;cases h
   | some p=>
     rw [hs] at h;obtain ⟨n,hn⟩:=ql0 ops hs;exact ⟨n,by unfold wC;rw [hn];exact h⟩
 | regionD ops=>
   intro fr H r h;unfold wC at h;cases hs:N1 E (wv E) ops { fr with al:=f0 } H with
   | none=>rw [hs] at h;cases h
   | some p=>
     rw [hs] at h;obtain ⟨n,hn⟩:=ji7 ops hs;exact ⟨n,by unfold wC;rw [hn];exact h⟩
 | seq a b iha ihb=>
   intro fr H r h;unfold wC at h;cases hs:wC E (wv E) witW a fr H with
   | none=>rw [hs] at h;cases h
   | some p=>
     rw [hs] at h;obtain ⟨n,hn⟩:=iha hs;obtain ⟨e,fr',H'⟩:=p;cases e with
     | nrm=>
       obtain ⟨m,hm⟩:=ihb h;refine ⟨n+m,?_⟩;unfold wC;rw [uS E n m _ _ _ _ hn,Nat.add_comm];exact uS E m n _ _ _ _ hm
     | _=>exact ⟨n,by unfold wC;rw [hn];exact h⟩
 | cond x a b iha ihb=>
   intro fr H r h;unfold wC at h;split at h
   . rename_i t ht;split at h
     . rename_i hb;obtain ⟨n,hn⟩:=iha h;exact ⟨n,by unfold wC;rw [ht];dsimp only;rw [if_pos hb];exact hn⟩
     . rename_i hb;obtain ⟨n,hn⟩:=ihb h;exact ⟨n,by unfold wC;rw [ht];dsimp only;rw [if_neg hb];exact hn⟩
   . cases h
 | block id b ih=>
   intro fr H r h;unfold wC at h;cases hs:wC E (wv E) witW b fr H with
   | none=>rw [hs] at h;cases h
   | some p=>
     rw [hs] at h;obtain ⟨n,hn⟩:=ih hs;exact ⟨n,by unfold wC;rw [hn];exact h⟩
 | loop live b ih=>
   intro fr H r h;unfold wC at h;obtain ⟨n,hn⟩:=zf7 (sn:=fun n fr H=>wC E (wF E n) (E7 n) b (J8 live fr) H) (fun n k fr H=>uS E n k b _ _) (fun fr H r h=>ih h) h;exact ⟨n,by unfold wC;exact hn⟩
 | exit id=>intro fr H r h;exact ⟨0,h⟩
 | scope l live b rest ihb ihr=>
   intro fr H r h;unfold wC at h;cases hs:wC E (wv E) witW b fr H with
   | none=>rw [hs] at h;cases h
   | some p=>
     rw [hs] at h;obtain ⟨n,hn⟩:=ihb hs;obtain ⟨e,fr',H'⟩:=p;cases e with
     | goto l'=>
       dsimp only at h;by_cases hl:l'=l
       . rw [if_pos hl] at h;generalize hz:witW (fun fr H=>Q0 l (wC E (wv E) witW rest (J8 live fr) H)) fr' H'=z at h;cases z with
         | none=>cases h
         | some q=>
           obtain ⟨m,hm⟩:=zf7 (sn:=fun n fr H=>Q0 l (wC E (wF E n) (E7 n) rest (J8 live fr) H)) (fun n k fr H=>tY l (uS E n k _ _ _)) (by
            intro fr H r hr;cases hq:wC E (wv E) witW rest (J8 live fr) H with
            | none=>rw [hq] at hr;cases hr
            | some q=>rw [hq] at hr;obtain ⟨n,hn⟩:=ihr hq;exact ⟨n,by rw [hn];exact hr⟩) hz
           refine ⟨n+m,?_⟩;have hr':=uS E n m _ _ _ _ hn;have hi':=yU m n _ (fun fr H=>Q0 l (wC E (wF E (n+m)) (E7 (n+m)) rest (J8 live fr) H)) (by
            intro fr H;rw [Nat.add_comm n m];exact tY l (uS E m n _ _ _)) _ _ _ hm
           rw [Nat.add_comm m n] at hi';unfold wC;rw [hr'];dsimp only;rw [if_pos hl,hi'];exact h
       . rw [if_neg hl] at h;exact ⟨n,by unfold wC;rw [hn];dsimp only;rw [if_neg hl];exact h⟩
     | _=>exact ⟨n,by unfold wC;rw [hn];exact h⟩
 | label l=>intro fr H r h;exact ⟨0,h⟩
 | keep l=>intro fr H r h;exact ⟨0,h⟩
 | goto l=>intro fr H r h;exact ⟨0,h⟩
 | ret=>intro fr H r h;exact ⟨0,h⟩
theorem bB (E:WEnv) (f:Nat) (a:List WV) (H:q9):wv E f a H=wFn E (wv E) witW f a H:=by
 apply Option.ext;intro r;constructor
 . intro h;obtain ⟨n,hn⟩:=gJ h;cases n with
   | zero=>cases hn
   | succ n=>exact zf9 (jh6 E n) (qu4 n) f a H r hn
 . intro h;unfold wFn at h;cases hf:E.fnA f a.length with
   | none=>
     rw [hf] at h;refine mY (n:=1) ?_;unfold wF wFn;rw [hf];exact h
   | some g=>
     rw [hf] at h;dsimp only at h;cases hs:wC E (wv E) witW g.body { env:=J9 (O2 0 a),al:=f0 } H with
     | none=>rw [hs] at h;cases h
     | some p=>
       obtain ⟨n,hn⟩:=qy8 g.body hs;refine mY (n:=n+1) ?_;unfold wF wFn;rw [hf];dsimp only;rw [hn];rw [hs] at h;exact h
end Go.Proofs.Lz
