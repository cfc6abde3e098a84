/- The evaluator of LzW without a number of rounds: its equations. -/
import Derived.Test.YtlimfobeoodkjaaGreatDoorLzW
import Derived.Test.YtlimfobeoodkjaaGreatDoorLzCode12
namespace Go.Proofs.Lz
def I8 (c c':u5):Prop:=∀ f a H,Le (c f a H) (c' f a H)
def T8 (s s':y0):Prop:=∀ fr H,Le (s fr H) (s' fr H)
theorem dZ {E:WEnv} {c c':u5} (h:I8 c c') (f:Nat) (args:List WV) (dst:Option Nat) (fr:WFr) (H:q8) :
 Le (F5 E c f args dst fr H) (F5 E c' f args dst fr H):=by
 intro r hr;unfold F5 at hr ⊢;cases hm:E.md f with
 | S=>
   rw [hm] at hr;dsimp only at hr ⊢;split at hr
   . rename_i hc;rw [if_pos hc];cases ha:K1 (C2 (E.tk f) 0 args) false fr H with
     | mk fr1 H1=>
       rw [ha] at hr;dsimp only at hr ⊢;cases hc:c f (L6 (E.tk f) 0 args) H1 with
       | none=>rw [hc] at hr;cases hr
       | some q=>rw [hc] at hr;rw [h _ _ _ _ hc];exact hr
   . cases hr
 | P=>
   rw [hm] at hr;dsimp only at hr ⊢;cases ha:i8 H args with
   | none=>rw [ha] at hr;cases hr
   | some a5=>
     rw [ha] at hr;dsimp only at hr ⊢;cases hc:c f a5 [] with
     | none=>rw [hc] at hr;cases hr
     | some p=>rw [hc] at hr;rw [h _ _ _ _ hc];exact hr
theorem uB {E:WEnv} {c c':u5} (h:I8 c c') (o:IOp) (dst:Option Nat) (fr:WFr) (H:q8):Le (wOp E c o dst fr H) (wOp E c' o dst fr H):=by
 intro r hr;unfold wOp at hr ⊢;split at hr
 . exact dZ h _ _ _ _ _ _ hr
 . rename_i x args;cases ht:zQ (fr.rd x) (args.map fr.rd) with
   | none=>rw [ht] at hr;cases hr
   | some p=>
     rw [ht] at hr;exact dZ h _ _ _ _ _ _ hr
 . exact hr
theorem dU {E:WEnv} {c c':u5} (h:I8 c c') (o:IOper) (fr:WFr) (H:q8):Le (A8 E c o fr H) (A8 E c' o fr H):=by
 intro r hr;unfold A8 at hr ⊢;cases hg:o.guard with
 | none=>rw [hg] at hr;exact uB h _ _ _ _ _ hr
 | some g=>
   rw [hg] at hr;obtain ⟨s,want⟩:=g;dsimp only at hr ⊢;split at hr
   . split at hr
     . rename_i hb;rw [if_pos hb];exact uB h _ _ _ _ _ hr
     . rename_i hb;rw [if_neg hb];exact hr
   . exact hr
   . cases hr
theorem aF {E:WEnv} {c c':u5} (h:I8 c c') (ops:List IOper):∀ (fr:WFr) (H:q8),Le (B1 E c ops fr H) (B1 E c' ops fr H):=by
 induction ops with
 | nil=>intro fr H;exact Le.refl _
 | cons o ops ih=>
   intro fr H r hr;unfold B1 at hr ⊢;cases hs:A8 E c o fr H with
   | none=>rw [hs] at hr;cases hr
   | some p=>rw [hs] at hr;rw [dU h _ _ _ _ hs];exact ih _ _ _ hr
theorem sM {E:WEnv} {c c':u5} (h:I8 c c') (cl:Cls) (o:IOp) (dst:Option Nat) (fr:WFr) (H:q8):Le (wD E c cl o dst fr H) (wD E c' cl o dst fr H):=by
 intro r hr;unfold wD at hr ⊢;split at hr
 . exact hr
 . exact hr
 . exact hr
 . split at hr
   . exact hr
   . exact hr
   . exact hr
   . rename_i f args;cases hm:E.md f with
     | S=>rw [hm] at hr;cases hr
     | P=>
       rw [hm] at hr;dsimp only at hr ⊢;cases ha:i8 H (args.map fr.rd) with
       | none=>rw [ha] at hr;cases hr
       | some a5=>
         rw [ha] at hr;dsimp only at hr ⊢;cases hc:c f a5 [] with
         | none=>rw [hc] at hr;cases hr
         | some p=>rw [hc] at hr;rw [h _ _ _ _ hc];exact hr
   . exact hr
 . split at hr
   . exact hr
   . exact hr
   . exact hr
   . exact uB h _ _ _ _ _ hr
   . exact uB h _ _ _ _ _ hr
   . exact hr
 . exact hr
 . exact hr
 . exact hr
theorem zq5 {E:WEnv} {c c':u5} (h:I8 c c') (cl:Cls) (o:IOper) (fr:WFr) (H:q8):Le (G3 E c cl o fr H) (G3 E c' cl o fr H):=by
 intro r hr;unfold G3 at hr ⊢;cases hg:o.guard with
 | none=>rw [hg] at hr;exact sM h _ _ _ _ _ _ hr
 | some g=>
   rw [hg] at hr;obtain ⟨s,want⟩:=g;dsimp only at hr ⊢;split at hr
   . split at hr
     . rename_i hb;rw [if_pos hb];exact sM h _ _ _ _ _ _ hr
     . rename_i hb;rw [if_neg hb];exact hr
   . exact hr
   . cases hr
theorem cJ {E:WEnv} {c c':u5} (h:I8 c c') (cl:Cls) (o:IOper) (fr:WFr) (H:q8):Le (H4 E c cl o fr H) (H4 E c' cl o fr H):=by
 intro r hr;unfold H4 at hr ⊢;split at hr
 . rename_i hd;rw [if_pos hd];cases hs:G3 E c cl o fr H with
   | none=>rw [hs] at hr;cases hr
   | some p=>rw [hs] at hr;rw [zq5 h _ _ _ _ _ hs];exact hr
 . cases hr
theorem aO {E:WEnv} {c c':u5} (h:I8 c c') (ops:List (Cls×IOper)):∀ (fr:WFr) (H:q8),Le (D8 E c ops fr H) (D8 E c' ops fr H):=by
 induction ops with
 | nil=>intro fr H;exact Le.refl _
 | cons o ops ih=>
   intro fr H r hr;obtain ⟨cl,o⟩:=o;unfold D8 at hr ⊢;cases hs:H4 E c cl o fr H with
   | none=>rw [hs] at hr;cases hr
   | some p=>rw [hs] at hr;rw [cJ h _ _ _ _ _ hs];exact ih _ _ _ hr
theorem uX (l:Nat) {a b:Option (Ex×WFr×q8)} (h:Le a b):Le (E5 l a) (E5 l b):=by
 intro r hr;cases a with
 | none=>cases hr
 | some q=>rw [h _ rfl];exact hr
theorem zl5 (l:Nat) {a b:Option (Ex×WFr×q8)} (h:Le a b):Le (U3 l a) (U3 l b):=by
 intro r hr;cases a with
 | none=>cases hr
 | some q=>rw [h _ rfl];exact hr
def xA (i i':y0->y0):Prop:=∀ s s',T8 s s'->T8 (i s) (i' s')
theorem fC {E:WEnv} {c c':u5} {i i':y0->y0} (h:I8 c c') (hi:xA i i') (code:ICode):T8 (wC E c i code) (wC E c' i' code):=by
 induction code with
 | skip=>intro fr H;exact Le.refl _
 | stuck=>intro fr H r hr;cases hr
 | regionW bs=>intro fr H r hr;unfold wC at hr;cases hr
 | region ops=>
   intro fr H r hr;unfold wC at hr ⊢;cases hs:B1 E c ops { fr with al:=x6 } H with
   | none=>rw [hs] at hr;cases hr
   | some p=>rw [hs] at hr;rw [aF h _ _ _ _ hs];exact hr
 | regionD ops=>
   intro fr H r hr;unfold wC at hr ⊢;cases hs:D8 E c ops { fr with al:=x6 } H with
   | none=>rw [hs] at hr;cases hr
   | some p=>rw [hs] at hr;rw [aO h _ _ _ _ hs];exact hr
 | seq a b iha ihb=>
   intro fr H r hr;unfold wC at hr ⊢;cases hs:wC E c i a fr H with
   | none=>rw [hs] at hr;cases hr
   | some p=>
     rw [hs] at hr;rw [iha _ _ _ hs];obtain ⟨e,fr',H'⟩:=p;cases e with
     | nrm=>exact ihb _ _ _ hr
     | _=>exact hr
 | cond x a b iha ihb=>
   intro fr H r hr;unfold wC at hr ⊢;split at hr
   . split at hr
     . rename_i hb;rw [if_pos hb];exact iha _ _ _ hr
     . rename_i hb;rw [if_neg hb];exact ihb _ _ _ hr
   . cases hr
 | block id b ih=>
   intro fr H r hr;unfold wC at hr ⊢;cases hs:wC E c i b fr H with
   | none=>rw [hs] at hr;cases hr
   | some p=>rw [hs] at hr;rw [ih _ _ _ hs];exact hr
 | loop live b ih=>
   intro fr H r hr;unfold wC at hr ⊢;exact hi _ _ (fun fr H=>ih _ _) _ _ _ hr
 | exit id=>intro fr H;exact Le.refl _
 | scope l live b rest ihb ihr=>
   intro fr H r hr;unfold wC at hr ⊢;cases hs:wC E c i b fr H with
   | none=>rw [hs] at hr;cases hr
   | some p=>
     rw [hs] at hr;rw [ihb _ _ _ hs];obtain ⟨e,fr',H'⟩:=p;cases e with
     | goto l'=>
       dsimp only at hr ⊢;split at hr
       . rename_i hl;rw [if_pos hl];have key:T8 (i fun fr H=>E5 l (wC E c i rest (f7 live fr) H)) (i' fun fr H=>E5 l (wC E c' i' rest (f7 live fr) H)):=
          hi _ _ fun fr H=>uX l (ihr _ _)
         exact zl5 l (key _ _) _ hr
       . rename_i hl;rw [if_neg hl];exact hr
     | _=>exact hr
 | label l=>intro fr H;exact Le.refl _
 | keep l=>intro fr H;exact Le.refl _
 | goto l=>intro fr H;exact Le.refl _
 | ret=>intro fr H;exact Le.refl _
theorem sP (n:Nat):∀ s s':y0,T8 s s'->T8 (m6 n s) (m6 (n+1) s'):=by
 induction n with
 | zero=>intro s s' _ fr H r hr;cases hr
 | succ n ih=>
   intro s s' h fr H r hr;rw [m6] at hr ⊢;cases hs:s fr H with
   | none=>rw [hs] at hr;cases hr
   | some p=>
     rw [hs] at hr;rw [h _ _ _ hs];obtain ⟨e,fr',H'⟩:=p;cases e with
     | nrm=>exact ih _ _ h _ _ _ hr
     | _=>exact hr
theorem jB (n k:Nat):xA (m6 n) (m6 (n+k)):=by
 induction k with
 | zero=>
   intro s s' h;induction n with
   | zero=>intro fr H r hr;cases hr
   | succ n ih=>
     intro fr H r hr;simp only [Nat.add_zero] at ih ⊢;rw [m6] at hr ⊢;cases hs:s fr H with
     | none=>rw [hs] at hr;cases hr
     | some p=>
       rw [hs] at hr;rw [h _ _ _ hs];obtain ⟨e,fr',H'⟩:=p;cases e with
       | nrm=>exact ih _ _ _ hr
       | _=>exact hr
 | succ k ih=>
   intro s s' h fr H;exact (ih s s' h fr H).trans (sP (n+k) s' s' (fun _ _=>Le.refl _) fr H)
theorem lA {E:WEnv} {c c':u5} {i i':y0->y0} (h:I8 c c') (hi:xA i i'):I8 (wFn E c i) (wFn E c' i'):=by
 intro f a H r hr;unfold wFn at hr ⊢;cases hf:E.fnA f a.length with
 | none=>rw [hf] at hr;exact hr
 | some g=>
   rw [hf] at hr;dsimp only at hr ⊢;cases hs:wC E c i g.body { env:=o0 (D9 0 a),al:=x6 } H with
   | none=>rw [hs] at hr;cases hr
   | some p=>rw [hs] at hr;rw [fC h hi _ _ _ _ hs];exact hr
theorem dK (E:WEnv) (n:Nat):I8 (wF E n) (wF E (n+1)):=by
 induction n with
 | zero=>intro f a H r hr;cases hr
 | succ n ih=>exact lA ih (jB n 1)
theorem jQ (E:WEnv) (n k:Nat):I8 (wF E n) (wF E (n+k)):=by
 induction k with
 | zero=>intro f a H;exact Le.refl _
 | succ k ih=>intro f a H;exact (ih f a H).trans (dK E (n+k) f a H)
noncomputable def wv (E:WEnv):u5:=fun f a H=>lub fun n=>wF E n f a H
noncomputable def witW:y0->y0:=fun s fr H=>lub fun n=>m6 n s fr H
theorem wK {E:WEnv} {f:Nat} {a:List WV} {H:q8} {r:WV×q8} (h:wv E f a H=some r):∃ n,wF E n f a H=some r:=pA h
theorem uH {E:WEnv} {f:Nat} {a:List WV} {H:q8} {r:WV×q8} {n:Nat} (h:wF E n f a H=some r):wv E f a H=some r:=
 gJ (g:=fun n=>wF E n f a H) (fun n=>dK E n f a H) h
theorem yU {s:y0} {fr:WFr} {H:q8} {r:Ex×WFr×q8} {n:Nat} (h:m6 n s fr H=some r):witW s fr H=some r:=
 gJ (g:=fun n=>m6 n s fr H) (fun n=>sP n s s (fun _ _=>Le.refl _) fr H) h
theorem kM {s:y0} {fr:WFr} {H:q8} {r:Ex×WFr×q8} (h:witW s fr H=some r):∃ n,m6 n s fr H=some r:=pA h
theorem dE (s:y0) (fr:WFr) (H:q8):witW s fr H=match s fr H with
 | some (.nrm,fr',H')=>witW s fr' H'
 | r=>r:=by
 apply Option.ext;intro r;constructor
 . intro h;obtain ⟨n,hn⟩:=kM h;cases n with
   | zero=>cases hn
   | succ n=>
     rw [m6] at hn;cases hs:s fr H with
     | none=>rw [hs] at hn;cases hn
     | some p=>
       rw [hs] at hn;obtain ⟨e,fr',H'⟩:=p;cases e with
       | nrm=>exact yU hn
       | _=>exact hn
 . intro h;cases hs:s fr H with
   | none=>rw [hs] at h;cases h
   | some p=>
     rw [hs] at h;obtain ⟨e,fr',H'⟩:=p;cases e with
     | nrm=>
       obtain ⟨n,hn⟩:=kM h;exact yU (n:=n+1) (by rw [m6,hs];exact hn)
     | _=>exact yU (n:=1) (by rw [m6,hs];exact h)
theorem zu9 (n:Nat):xA (m6 n) witW:=fun s s' h fr H r hr=>yU (jB n 0 s s' h fr H r hr)
theorem fW (E:WEnv) (n:Nat):I8 (wF E n) (wv E):=fun _ _ _ _ h=>uH h
theorem mA {E:WEnv} {f:Nat} {args:List WV} {dst:Option Nat} {fr:WFr} {H:q8} {r:WFr×q8} (hr:F5 E (wv E) f args dst fr H=some r):∃ n,F5 E (wF E n) f args dst fr H=some r:=by
 unfold F5 at hr;cases hm:E.md f with
 | S=>
   rw [hm] at hr;dsimp only at hr;split at hr
   . rename_i hc0;cases ha:K1 (C2 (E.tk f) 0 args) false fr H with
     | mk fr1 H1=>
       rw [ha] at hr;dsimp only at hr;cases hc:wv E f (L6 (E.tk f) 0 args) H1 with
       | none=>rw [hc] at hr;cases hr
       | some q=>
         obtain ⟨n,hn⟩:=wK hc;refine ⟨n,?_⟩;unfold F5;rw [hm];dsimp only;rw [if_pos hc0,ha];dsimp only;rw [hn];rw [hc] at hr;exact hr
   . cases hr
 | P=>
   rw [hm] at hr;dsimp only at hr;cases ha:i8 H args with
   | none=>rw [ha] at hr;cases hr
   | some a5=>
     rw [ha] at hr;dsimp only at hr;cases hc:wv E f a5 [] with
     | none=>rw [hc] at hr;cases hr
     | some q=>
       obtain ⟨n,hn⟩:=wK hc;refine ⟨n,?_⟩;unfold F5;rw [hm];dsimp only;rw [ha];dsimp only;rw [hn];rw [hc] at hr;exact hr
theorem xF {E:WEnv} {o:IOp} {dst:Option Nat} {fr:WFr} {H:q8} {r:WFr×q8} (h:wOp E (wv E) o dst fr H=some r):∃ n,wOp E (wF E n) o dst fr H=some r:=by
 unfold wOp at h;split at h
 . obtain ⟨n,hn⟩:=mA h;exact ⟨n,by unfold wOp;exact hn⟩
 . rename_i x args;cases ht:zQ (fr.rd x) (args.map fr.rd) with
   | none=>rw [ht] at h;cases h
   | some p=>
     rw [ht] at h;obtain ⟨n,hn⟩:=mA h;exact ⟨n,by unfold wOp;dsimp only;rw [ht];exact hn⟩
 . rename_i h1 h2;refine ⟨0,?_⟩;unfold wOp;split
   . exact absurd rfl (h1 _ _)
   . exact absurd rfl (h2 _ _)
   . exact h
theorem fU {E:WEnv} {o:IOper} {fr:WFr} {H:q8} {r:WFr×q8} (h:A8 E (wv E) o fr H=some r):∃ n,A8 E (wF E n) o fr H=some r:=by
 unfold A8 at h;cases hg:o.guard with
 | none=>
   rw [hg] at h;obtain ⟨n,hn⟩:=xF h;exact ⟨n,by unfold A8;rw [hg];exact hn⟩
 | some g=>
   rw [hg] at h;obtain ⟨s,want⟩:=g;dsimp only at h;cases he:fr.env s with
   | c v=>
     cases v with
     | bool b=>
       rw [he] at h;dsimp only at h;by_cases hb:b=want
       . rw [if_pos hb] at h;obtain ⟨n,hn⟩:=xF h;exact ⟨n,by unfold A8;rw [hg];dsimp only;rw [he];dsimp only;rw [if_pos hb];exact hn⟩
       . rw [if_neg hb] at h;exact ⟨0,by unfold A8;rw [hg];dsimp only;rw [he];dsimp only;rw [if_neg hb];exact h⟩
     | _=>rw [he] at h;cases h
   | skipv=>rw [he] at h;exact ⟨0,by unfold A8;rw [hg];dsimp only;rw [he];exact h⟩
   | _=>rw [he] at h;cases h
theorem zw7 {E:WEnv} (ops:List IOper):∀ {fr:WFr} {H:q8} {r:WFr×q8},B1 E (wv E) ops fr H=some r->∃ n,B1 E (wF E n) ops fr H=some r:=by
 induction ops with
 | nil=>intro fr H r h;exact ⟨0,h⟩
 | cons o ops ih=>
   intro fr H r h;unfold B1 at h;cases hs:A8 E (wv E) o fr H with
   | none=>rw [hs] at h;cases h
   | some p=>
     rw [hs] at h;obtain ⟨n,hn⟩:=fU hs;obtain ⟨m,hm⟩:=ih h;refine ⟨n+m,?_⟩;unfold B1;rw [dU (jQ E n m) _ _ _ _ hn];rw [Nat.add_comm];exact aF (jQ E m n) _ _ _ _ hm
theorem nY {E:WEnv} {cl:Cls} {o:IOp} {dst:Option Nat} {fr:WFr} {H:q8} {r:WFr×q8} (h:wD E (wv E) cl o dst fr H=some r):∃ n,wD E (wF E n) cl o dst fr H=some r:=by
 unfold wD at h;split at h
 . exact ⟨0,by unfold wD;exact h⟩
 . exact ⟨0,by unfold wD;exact h⟩
 . exact ⟨0,by unfold wD;exact h⟩
 . split at h
   . exact ⟨0,by unfold wD;exact h⟩
   . exact ⟨0,by unfold wD;exact h⟩
   . exact ⟨0,by unfold wD;exact h⟩
   . rename_i f args;cases hm:E.md f with
     | S=>rw [hm] at h;cases h
     | P=>
       rw [hm] at h;dsimp only at h;cases ha:i8 H (args.map fr.rd) with
       | none=>rw [ha] at h;cases h
       | some a5=>
         rw [ha] at h;dsimp only at h;cases hc:wv E f a5 [] with
         | none=>rw [hc] at h;cases h
         | some p=>
           obtain ⟨n,hn⟩:=wK hc;refine ⟨n,?_⟩;unfold wD;dsimp only;rw [hm];dsimp only;rw [ha];dsimp only;rw [hn];rw [hc] at h;exact h
   . cases h
 . split at h
   . exact ⟨0,by unfold wD;exact h⟩
   . exact ⟨0,by unfold wD;exact h⟩
   . exact ⟨0,by unfold wD;exact h⟩
   . obtain ⟨n,hn⟩:=xF h;exact ⟨n,by unfold wD;exact hn⟩
   . obtain ⟨n,hn⟩:=xF h;exact ⟨n,by unfold wD;exact hn⟩
   . cases h
 . exact ⟨0,by unfold wD;exact h⟩
 . exact ⟨0,by unfold wD;exact h⟩
 . cases h
theorem zs7 {E:WEnv} {cl:Cls} {o:IOper} {fr:WFr} {H:q8} {r:WFr×q8} (h:G3 E (wv E) cl o fr H=some r):∃ n,G3 E (wF E n) cl o fr H=some r:=by
 unfold G3 at h;cases hg:o.guard with
 | none=>
   rw [hg] at h;obtain ⟨n,hn⟩:=nY h;exact ⟨n,by unfold G3;rw [hg];exact hn⟩
 | some g=>
   rw [hg] at h;obtain ⟨s,want⟩:=g;dsimp only at h;cases he:fr.env s with
   | c v=>
     cases v with
     | bool b=>
       rw [he] at h;dsimp only at h;by_cases hb:b=want
       . rw [if_pos hb] at h;obtain ⟨n,hn⟩:=nY h;exact ⟨n,by unfold G3;rw [hg];dsimp only;rw [he];dsimp only;rw [if_pos hb];exact hn⟩
       . rw [if_neg hb] at h;exact ⟨0,by unfold G3;rw [hg];dsimp only;rw [he];dsimp only;rw [if_neg hb];exact h⟩
     | _=>rw [he] at h;cases h
   | skipv=>rw [he] at h;exact ⟨0,by unfold G3;rw [hg];dsimp only;rw [he];exact h⟩
   | _=>rw [he] at h;cases h
theorem zw6 {E:WEnv} {cl:Cls} {o:IOper} {fr:WFr} {H:q8} {r:WFr×q8} (h:H4 E (wv E) cl o fr H=some r):∃ n,H4 E (wF E n) cl o fr H=some r:=by
 unfold H4 at h;split at h
 . rename_i hd;cases hs:G3 E (wv E) cl o fr H with
   | none=>rw [hs] at h;cases h
   | some p=>
     obtain ⟨n,hn⟩:=zs7 hs;exact ⟨n,by unfold H4;rw [if_pos hd,hn];rw [hs] at h;exact h⟩
 . cases h
theorem zh0 {E:WEnv} (ops:List (Cls×IOper)):∀ {fr:WFr} {H:q8} {r:WFr×q8},D8 E (wv E) ops fr H=some r->∃ n,D8 E (wF E n) ops fr H=some r:=by
 induction ops with
 | nil=>intro fr H r h;exact ⟨0,h⟩
 | cons o ops ih=>
   intro fr H r h;obtain ⟨cl,o⟩:=o;unfold D8 at h;cases hs:H4 E (wv E) cl o fr H with
   | none=>rw [hs] at h;cases h
   | some p=>
     rw [hs] at h;obtain ⟨n,hn⟩:=zw6 hs;obtain ⟨m,hm⟩:=ih h;refine ⟨n+m,?_⟩;unfold D8;rw [cJ (jQ E n m) _ _ _ _ _ hn];rw [Nat.add_comm];exact aO (jQ E m n) _ _ _ _ hm
theorem qE (E:WEnv) (n k:Nat) (c:ICode):T8 (wC E (wF E n) (m6 n) c) (wC E (wF E (n+k)) (m6 (n+k)) c):=fC (jQ E n k) (jB n k) c
theorem nO {s:y0} {sn:Nat->y0} (hm:∀ n k,T8 (sn n) (sn (n+k))) (hl:∀ fr H r,s fr H=some r->∃ n,sn n fr H=some r) {fr:WFr} {H:q8} {r:Ex×WFr×q8} (h:witW s fr H=some r):∃ n,m6 n (sn n) fr H=some r:=by
 obtain ⟨m,hm'⟩:=kM h;have key:∀ m fr H,m6 m s fr H=some r->∃ n,m6 m (sn n) fr H=some r:=by
  intro m;induction m with
  | zero=>intro fr H h;cases h
  | succ m ih=>
    intro fr H h;rw [m6] at h;cases hs:s fr H with
    | none=>rw [hs] at h;cases h
    | some p=>
      rw [hs] at h;obtain ⟨n,hn⟩:=hl _ _ _ hs;obtain ⟨e,fr',H'⟩:=p;cases e with
      | nrm=>
        obtain ⟨k,hk⟩:=ih _ _ h;refine ⟨n+k,?_⟩;rw [m6,hm n k _ _ _ hn];have:=jB m 0 _ _ (hm k n) fr' H' r hk;rw [Nat.add_comm n k];exact this
      | _=>exact ⟨n,by rw [m6,hn];exact h⟩
 obtain ⟨n,hn⟩:=key m fr H hm';refine ⟨m+n,?_⟩;have:=jB m n _ _ (hm n m) fr H r hn;rw [Nat.add_comm n m] at this;exact this
theorem zm1 {E:WEnv} (code:ICode):∀ {fr:WFr} {H:q8} {r:Ex×WFr×q8},wC E (wv E) witW code fr H=some r->∃ n,wC E (wF E n) (m6 n) code fr H=some r:=by
 induction code with
 | skip=>intro fr H r h;exact ⟨0,h⟩
 | stuck=>intro fr H r h;cases h
 | regionW bs=>intro fr H r h;unfold wC at h;cases h
 | region ops=>
   intro fr H r h;unfold wC at h;cases hs:B1 E (wv E) ops { fr with al:=x6 } H with
   | none=>rw [hs] at h;cases h
   | some p=>
     rw [hs] at h;obtain ⟨n,hn⟩:=zw7 ops hs;exact ⟨n,by unfold wC;rw [hn];exact h⟩
 | regionD ops=>
   intro fr H r h;unfold wC at h;cases hs:D8 E (wv E) ops { fr with al:=x6 } H with
   | none=>rw [hs] at h;cases h
   | some p=>
     rw [hs] at h;obtain ⟨n,hn⟩:=zh0 ops hs;exact ⟨n,by unfold wC;rw [hn];exact h⟩
 | seq a b iha ihb=>
   intro fr H r h;unfold wC at h;cases hs:wC E (wv E) witW a fr H with
   | none=>rw [hs] at h;cases h
   | some p=>
     rw [hs] at h;obtain ⟨n,hn⟩:=iha hs;obtain ⟨e,fr',H'⟩:=p;cases e with
     | nrm=>
       obtain ⟨m,hm⟩:=ihb h;refine ⟨n+m,?_⟩;unfold wC;rw [qE E n m _ _ _ _ hn,Nat.add_comm];exact qE E m n _ _ _ _ hm
     | _=>exact ⟨n,by unfold wC;rw [hn];exact h⟩
 | cond x a b iha ihb=>
   intro fr H r h;unfold wC at h;split at h
   . rename_i t ht;split at h
     . rename_i hb;obtain ⟨n,hn⟩:=iha h;exact ⟨n,by unfold wC;rw [ht];dsimp only;rw [if_pos hb];exact hn⟩
     . rename_i hb;obtain ⟨n,hn⟩:=ihb h;exact ⟨n,by unfold wC;rw [ht];dsimp only;rw [if_neg hb];exact hn⟩
   . cases h
 | block id b ih=>
   intro fr H r h;unfold wC at h;cases hs:wC E (wv E) witW b fr H with
   | none=>rw [hs] at h;cases h
   | some p=>
     rw [hs] at h;obtain ⟨n,hn⟩:=ih hs;exact ⟨n,by unfold wC;rw [hn];exact h⟩
 | loop live b ih=>
   intro fr H r h;unfold wC at h;obtain ⟨n,hn⟩:=nO (sn:=fun n fr H=>wC E (wF E n) (m6 n) b (f7 live fr) H) (fun n k fr H=>qE E n k b _ _) (fun fr H r h=>ih h) h;exact ⟨n,by unfold wC;exact hn⟩
 | exit id=>intro fr H r h;exact ⟨0,h⟩
 | scope l live b rest ihb ihr=>
   intro fr H r h;unfold wC at h;cases hs:wC E (wv E) witW b fr H with
   | none=>rw [hs] at h;cases h
   | some p=>
     rw [hs] at h;obtain ⟨n,hn⟩:=ihb hs;obtain ⟨e,fr',H'⟩:=p;cases e with
     | goto l'=>
       dsimp only at h;by_cases hl:l'=l
       . rw [if_pos hl] at h;generalize hz:witW (fun fr H=>E5 l (wC E (wv E) witW rest (f7 live fr) H)) fr' H'=z at h;cases z with
         | none=>cases h
         | some q=>
           obtain ⟨m,hm⟩:=nO (sn:=fun n fr H=>E5 l (wC E (wF E n) (m6 n) rest (f7 live fr) H)) (fun n k fr H=>uX l (qE E n k _ _ _)) (by
            intro fr H r hr;cases hq:wC E (wv E) witW rest (f7 live fr) H with
            | none=>rw [hq] at hr;cases hr
            | some q=>rw [hq] at hr;obtain ⟨n,hn⟩:=ihr hq;exact ⟨n,by rw [hn];exact hr⟩) hz
           refine ⟨n+m,?_⟩;have hr':=qE E n m _ _ _ _ hn;have hi':=jB m n _ (fun fr H=>E5 l (wC E (wF E (n+m)) (m6 (n+m)) rest (f7 live fr) H)) (by
            intro fr H;rw [Nat.add_comm n m];exact uX l (qE E m n _ _ _)) _ _ _ hm
           rw [Nat.add_comm m n] at hi';unfold wC;rw [hr'];dsimp only;rw [if_pos hl,hi'];exact h
       . rw [if_neg hl] at h;exact ⟨n,by unfold wC;rw [hn];dsimp only;rw [if_neg hl];exact h⟩
     | _=>exact ⟨n,by unfold wC;rw [hn];exact h⟩
 | label l=>intro fr H r h;exact ⟨0,h⟩
 | keep l=>intro fr H r h;exact ⟨0,h⟩
 | goto l=>intro fr H r h;exact ⟨0,h⟩
 | ret=>intro fr H r h;exact ⟨0,h⟩
theorem uS (E:WEnv) (f:Nat) (a:List WV) (H:q8):wv E f a H=wFn E (wv E) witW f a H:=by
 apply Option.ext;intro r;constructor
 . intro h;obtain ⟨n,hn⟩:=wK h;cases n with
   | zero=>cases hn
   | succ n=>exact lA (fW E n) (zu9 n) f a H r hn
 . intro h;unfold wFn at h;cases hf:E.fnA f a.length with
   | none=>
     rw [hf] at h;refine uH (n:=1) ?_;unfold wF wFn;rw [hf];exact h
   | some g=>
     rw [hf] at h;dsimp only at h;cases hs:wC E (wv E) witW g.body { env:=o0 (D9 0 a),al:=x6 } H with
     | none=>rw [hs] at h;cases h
     | some p=>
       obtain ⟨n,hn⟩:=zm1 g.body hs;refine uH (n:=n+1) ?_;unfold wF wFn;rw [hf];dsimp only;rw [hn];rw [hs] at h;exact h
end Go.Proofs.Lz
