/- The evaluator of LzW without a number of rounds: its equations. -/
import Derived.Test.YtclbpddolhgibaaGreatDoorLzW
import Derived.Test.YtclbpddolhgibaaGreatDoorLzCode06
namespace Go.Proofs.Lz
def H9 (c c':x9):Prop:=∀ f a H,Le (c f a H) (c' f a H)
def V5 (s s':w9):Prop:=∀ fr H,Le (s fr H) (s' fr H)
theorem nZ {E:WEnv} {c c':x9} (h:H9 c c') (f:Nat) (args:List WV) (dst:Option Nat) (fr:WFr) (H:q8) :
 Le (G5 E c f args dst fr H) (G5 E c' f args dst fr H):=by
 intro r hr;unfold G5 at hr ⊢;cases hm:E.md f with
 | S=>
   rw [hm] at hr;dsimp only at hr ⊢;split at hr
   . rename_i hc;rw [if_pos hc];cases ha:G9 (C0 (E.tk f) 0 args) false fr H with
     | mk fr1 H1=>
       rw [ha] at hr;dsimp only at hr ⊢;cases hc:c f (M5 (E.tk f) 0 args) H1 with
       | none=>rw [hc] at hr;cases hr
       | some q=>rw [hc] at hr;rw [h _ _ _ _ hc];exact hr
   . cases hr
 | P=>
   rw [hm] at hr;dsimp only at hr ⊢;cases ha:f4 H args with
   | none=>rw [ha] at hr;cases hr
   | some a5=>
     rw [ha] at hr;dsimp only at hr ⊢;cases hc:c f a5 [] with
     | none=>rw [hc] at hr;cases hr
     | some p=>rw [hc] at hr;rw [h _ _ _ _ hc];exact hr
theorem xW {E:WEnv} {c c':x9} (h:H9 c c') (o:IOp) (dst:Option Nat) (fr:WFr) (H:q8):Le (wOp E c o dst fr H) (wOp E c' o dst fr H):=by
 intro r hr;unfold wOp at hr ⊢;split at hr
 . exact nZ h _ _ _ _ _ _ hr
 . rename_i x args;cases ht:Y3 (fr.rd x) (args.map fr.rd) with
   | none=>rw [ht] at hr;cases hr
   | some p=>
     rw [ht] at hr;exact nZ h _ _ _ _ _ _ hr
 . exact hr
theorem sP {E:WEnv} {c c':x9} (h:H9 c c') (o:IOper) (fr:WFr) (H:q8):Le (i8 E c o fr H) (i8 E c' o fr H):=by
 intro r hr;unfold i8 at hr ⊢;cases hg:o.guard with
 | none=>rw [hg] at hr;exact xW h _ _ _ _ _ hr
 | some g=>
   rw [hg] at hr;obtain ⟨s,want⟩:=g;dsimp only at hr ⊢;split at hr
   . split at hr
     . rename_i hb;rw [if_pos hb];exact xW h _ _ _ _ _ hr
     . rename_i hb;rw [if_neg hb];exact hr
   . exact hr
   . cases hr
theorem cG {E:WEnv} {c c':x9} (h:H9 c c') (ops:List IOper):∀ (fr:WFr) (H:q8),Le (B5 E c ops fr H) (B5 E c' ops fr H):=by
 induction ops with
 | nil=>intro fr H;exact Le.refl _
 | cons o ops ih=>
   intro fr H r hr;unfold B5 at hr ⊢;cases hs:i8 E c o fr H with
   | none=>rw [hs] at hr;cases hr
   | some p=>rw [hs] at hr;rw [sP h _ _ _ _ hs];exact ih _ _ _ hr
theorem rZ {E:WEnv} {c c':x9} (h:H9 c c') (cl:Cls) (o:IOp) (dst:Option Nat) (fr:WFr) (H:q8):Le (wD E c cl o dst fr H) (wD E c' cl o dst fr H):=by
 intro r hr;unfold wD at hr ⊢;split at hr
 . exact hr
 . exact hr
 . exact hr
 . split at hr
   . exact hr
   . exact hr
   . exact hr
   . rename_i f args;cases hm:E.md f with
     | S=>rw [hm] at hr;cases hr
     | P=>
       rw [hm] at hr;dsimp only at hr ⊢;cases ha:f4 H (args.map fr.rd) with
       | none=>rw [ha] at hr;cases hr
       | some a5=>
         rw [ha] at hr;dsimp only at hr ⊢;cases hc:c f a5 [] with
         | none=>rw [hc] at hr;cases hr
         | some p=>rw [hc] at hr;rw [h _ _ _ _ hc];exact hr
   . exact hr
 . split at hr
   . exact hr
   . exact hr
   . exact hr
   . exact xW h _ _ _ _ _ hr
   . exact xW h _ _ _ _ _ hr
   . exact hr
 . exact hr
 . exact hr
 . exact hr
theorem zn9 {E:WEnv} {c c':x9} (h:H9 c c') (cl:Cls) (o:IOper) (fr:WFr) (H:q8):Le (E2 E c cl o fr H) (E2 E c' cl o fr H):=by
 intro r hr;unfold E2 at hr ⊢;cases hg:o.guard with
 | none=>rw [hg] at hr;exact rZ h _ _ _ _ _ _ hr
 | some g=>
   rw [hg] at hr;obtain ⟨s,want⟩:=g;dsimp only at hr ⊢;split at hr
   . split at hr
     . rename_i hb;rw [if_pos hb];exact rZ h _ _ _ _ _ _ hr
     . rename_i hb;rw [if_neg hb];exact hr
   . exact hr
   . cases hr
theorem aJ {E:WEnv} {c c':x9} (h:H9 c c') (cl:Cls) (o:IOper) (fr:WFr) (H:q8):Le (e9 E c cl o fr H) (e9 E c' cl o fr H):=by
 intro r hr;unfold e9 at hr ⊢;split at hr
 . rename_i hd;rw [if_pos hd];cases hs:E2 E c cl o fr H with
   | none=>rw [hs] at hr;cases hr
   | some p=>rw [hs] at hr;rw [zn9 h _ _ _ _ _ hs];exact hr
 . cases hr
theorem cA {E:WEnv} {c c':x9} (h:H9 c c') (ops:List (Cls×IOper)):∀ (fr:WFr) (H:q8),Le (A3 E c ops fr H) (A3 E c' ops fr H):=by
 induction ops with
 | nil=>intro fr H;exact Le.refl _
 | cons o ops ih=>
   intro fr H r hr;obtain ⟨cl,o⟩:=o;unfold A3 at hr ⊢;cases hs:e9 E c cl o fr H with
   | none=>rw [hs] at hr;cases hr
   | some p=>rw [hs] at hr;rw [aJ h _ _ _ _ _ hs];exact ih _ _ _ hr
theorem pO (l:Nat) {a b:Option (Ex×WFr×q8)} (h:Le a b):Le (K5 l a) (K5 l b):=by
 intro r hr;cases a with
 | none=>cases hr
 | some q=>rw [h _ rfl];exact hr
theorem zm1 (l:Nat) {a b:Option (Ex×WFr×q8)} (h:Le a b):Le (jG l a) (jG l b):=by
 intro r hr;cases a with
 | none=>cases hr
 | some q=>rw [h _ rfl];exact hr
def xR (i i':w9->w9):Prop:=∀ s s',V5 s s'->V5 (i s) (i' s')
theorem rH {E:WEnv} {c c':x9} {i i':w9->w9} (h:H9 c c') (hi:xR i i') (code:ICode):V5 (wC E c i code) (wC E c' i' code):=by
 induction code with
 | skip=>intro fr H;exact Le.refl _
 | regionW bs=>intro fr H r hr;unfold wC at hr;cases hr
 | region ops=>
   intro fr H r hr;unfold wC at hr ⊢;cases hs:B5 E c ops { fr with al:=j8 } H with
   | none=>rw [hs] at hr;cases hr
   | some p=>rw [hs] at hr;rw [cG h _ _ _ _ hs];exact hr
 | regionD ops=>
   intro fr H r hr;unfold wC at hr ⊢;cases hs:A3 E c ops { fr with al:=j8 } H with
   | none=>rw [hs] at hr;cases hr
   | some p=>rw [hs] at hr;rw [cA h _ _ _ _ hs];exact hr
 | seq a b iha ihb=>
   intro fr H r hr;unfold wC at hr ⊢;cases hs:wC E c i a fr H with
   | none=>rw [hs] at hr;cases hr
   | some p=>
     rw [hs] at hr;rw [iha _ _ _ hs];obtain ⟨e,fr',H'⟩:=p;cases e with
     | nrm=>exact ihb _ _ _ hr
     | _=>exact hr
 | cond x a b iha ihb=>
   intro fr H r hr;unfold wC at hr ⊢;split at hr
   . split at hr
     . rename_i hb;rw [if_pos hb];exact iha _ _ _ hr
     . rename_i hb;rw [if_neg hb];exact ihb _ _ _ hr
   . cases hr
 | block id b ih=>
   intro fr H r hr;unfold wC at hr ⊢;cases hs:wC E c i b fr H with
   | none=>rw [hs] at hr;cases hr
   | some p=>rw [hs] at hr;rw [ih _ _ _ hs];exact hr
 | loop live b ih=>
   intro fr H r hr;unfold wC at hr ⊢;exact hi _ _ (fun fr H=>ih _ _) _ _ _ hr
 | exit id=>intro fr H;exact Le.refl _
 | scope l live b rest ihb ihr=>
   intro fr H r hr;unfold wC at hr ⊢;cases hs:wC E c i b fr H with
   | none=>rw [hs] at hr;cases hr
   | some p=>
     rw [hs] at hr;rw [ihb _ _ _ hs];obtain ⟨e,fr',H'⟩:=p;cases e with
     | goto l'=>
       dsimp only at hr ⊢;split at hr
       . rename_i hl;rw [if_pos hl];have key:V5 (i fun fr H=>K5 l (wC E c i rest (o8 live fr) H)) (i' fun fr H=>K5 l (wC E c' i' rest (o8 live fr) H)):=
          hi _ _ fun fr H=>pO l (ihr _ _)
         exact zm1 l (key _ _) _ hr
       . rename_i hl;rw [if_neg hl];exact hr
     | _=>exact hr
 | label l=>intro fr H;exact Le.refl _
 | keep l=>intro fr H;exact Le.refl _
 | goto l=>intro fr H;exact Le.refl _
 | ret=>intro fr H;exact Le.refl _
theorem lC (n:Nat):∀ s s':w9,V5 s s'->V5 (u9 n s) (u9 (n+1) s'):=by
 induction n with
 | zero=>intro s s' _ fr H r hr;cases hr
 | succ n ih=>
   intro s s' h fr H r hr;rw [u9] at hr ⊢;cases hs:s fr H with
   | none=>rw [hs] at hr;cases hr
   | some p=>
     rw [hs] at hr;rw [h _ _ _ hs];obtain ⟨e,fr',H'⟩:=p;cases e with
     | nrm=>exact ih _ _ h _ _ _ hr
     | _=>exact hr
theorem zY (n k:Nat):xR (u9 n) (u9 (n+k)):=by
 induction k with
 | zero=>
   intro s s' h;induction n with
   | zero=>intro fr H r hr;cases hr
   | succ n ih=>
     intro fr H r hr;simp only [Nat.add_zero] at ih ⊢;rw [u9] at hr ⊢;cases hs:s fr H with
     | none=>rw [hs] at hr;cases hr
     | some p=>
       rw [hs] at hr;rw [h _ _ _ hs];obtain ⟨e,fr',H'⟩:=p;cases e with
       | nrm=>exact ih _ _ _ hr
       | _=>exact hr
 | succ k ih=>
   intro s s' h fr H;exact (ih s s' h fr H).trans (lC (n+k) s' s' (fun _ _=>Le.refl _) fr H)
theorem cP {E:WEnv} {c c':x9} {i i':w9->w9} (h:H9 c c') (hi:xR i i'):H9 (wFn E c i) (wFn E c' i'):=by
 intro f a H r hr;unfold wFn at hr ⊢;cases hf:E.fnA f a.length with
 | none=>rw [hf] at hr;exact hr
 | some g=>
   rw [hf] at hr;dsimp only at hr ⊢;cases hs:wC E c i g.body { env:=l8 (D6 0 a),al:=j8 } H with
   | none=>rw [hs] at hr;cases hr
   | some p=>rw [hs] at hr;rw [rH h hi _ _ _ _ hs];exact hr
theorem tK (E:WEnv) (n:Nat):H9 (wF E n) (wF E (n+1)):=by
 induction n with
 | zero=>intro f a H r hr;cases hr
 | succ n ih=>exact cP ih (zY n 1)
theorem wT (E:WEnv) (n k:Nat):H9 (wF E n) (wF E (n+k)):=by
 induction k with
 | zero=>intro f a H;exact Le.refl _
 | succ k ih=>intro f a H;exact (ih f a H).trans (tK E (n+k) f a H)
noncomputable def wv (E:WEnv):x9:=fun f a H=>lub fun n=>wF E n f a H
noncomputable def witW:w9->w9:=fun s fr H=>lub fun n=>u9 n s fr H
theorem wJ {E:WEnv} {f:Nat} {a:List WV} {H:q8} {r:WV×q8} (h:wv E f a H=some r):∃ n,wF E n f a H=some r:=uQ h
theorem pD {E:WEnv} {f:Nat} {a:List WV} {H:q8} {r:WV×q8} {n:Nat} (h:wF E n f a H=some r):wv E f a H=some r:=
 pF (g:=fun n=>wF E n f a H) (fun n=>tK E n f a H) h
theorem vN {s:w9} {fr:WFr} {H:q8} {r:Ex×WFr×q8} {n:Nat} (h:u9 n s fr H=some r):witW s fr H=some r:=
 pF (g:=fun n=>u9 n s fr H) (fun n=>lC n s s (fun _ _=>Le.refl _) fr H) h
theorem bS {s:w9} {fr:WFr} {H:q8} {r:Ex×WFr×q8} (h:witW s fr H=some r):∃ n,u9 n s fr H=some r:=uQ h
theorem zf2 (s:w9) (fr:WFr) (H:q8):witW s fr H=match s fr H with
 | some (.nrm,fr',H')=>witW s fr' H'
 | r=>r:=by
 apply Option.ext;intro r;constructor
 . intro h;obtain ⟨n,hn⟩:=bS h;cases n with
   | zero=>cases hn
   | succ n=>
     rw [u9] at hn;cases hs:s fr H with
     | none=>rw [hs] at hn;cases hn
     | some p=>
       rw [hs] at hn;obtain ⟨e,fr',H'⟩:=p;cases e with
       | nrm=>exact vN hn
       | _=>exact hn
 . intro h;cases hs:s fr H with
   | none=>rw [hs] at h;cases h
   | some p=>
     rw [hs] at h;obtain ⟨e,fr',H'⟩:=p;cases e with
     | nrm=>
       obtain ⟨n,hn⟩:=bS h;exact vN (n:=n+1) (by rw [u9,hs];exact hn)
     | _=>exact vN (n:=1) (by rw [u9,hs];exact h)
theorem ze2 (n:Nat):xR (u9 n) witW:=fun s s' h fr H r hr=>vN (zY n 0 s s' h fr H r hr)
theorem zn6 (E:WEnv) (n:Nat):H9 (wF E n) (wv E):=fun _ _ _ _ h=>pD h
theorem dB {E:WEnv} {f:Nat} {args:List WV} {dst:Option Nat} {fr:WFr} {H:q8} {r:WFr×q8} (hr:G5 E (wv E) f args dst fr H=some r):∃ n,G5 E (wF E n) f args dst fr H=some r:=by
 unfold G5 at hr;cases hm:E.md f with
 | S=>
   rw [hm] at hr;dsimp only at hr;split at hr
   . rename_i hc0;cases ha:G9 (C0 (E.tk f) 0 args) false fr H with
     | mk fr1 H1=>
       rw [ha] at hr;dsimp only at hr;cases hc:wv E f (M5 (E.tk f) 0 args) H1 with
       | none=>rw [hc] at hr;cases hr
       | some q=>
         obtain ⟨n,hn⟩:=wJ hc;refine ⟨n,?_⟩;unfold G5;rw [hm];dsimp only;rw [if_pos hc0,ha];dsimp only;rw [hn];rw [hc] at hr;exact hr
   . cases hr
 | P=>
   rw [hm] at hr;dsimp only at hr;cases ha:f4 H args with
   | none=>rw [ha] at hr;cases hr
   | some a5=>
     rw [ha] at hr;dsimp only at hr;cases hc:wv E f a5 [] with
     | none=>rw [hc] at hr;cases hr
     | some q=>
       obtain ⟨n,hn⟩:=wJ hc;refine ⟨n,?_⟩;unfold G5;rw [hm];dsimp only;rw [ha];dsimp only;rw [hn];rw [hc] at hr;exact hr
theorem yJ {E:WEnv} {o:IOp} {dst:Option Nat} {fr:WFr} {H:q8} {r:WFr×q8} (h:wOp E (wv E) o dst fr H=some r):∃ n,wOp E (wF E n) o dst fr H=some r:=by
 unfold wOp at h;split at h
 . obtain ⟨n,hn⟩:=dB h;exact ⟨n,by unfold wOp;exact hn⟩
 . rename_i x args;cases ht:Y3 (fr.rd x) (args.map fr.rd) with
   | none=>rw [ht] at h;cases h
   | some p=>
     rw [ht] at h;obtain ⟨n,hn⟩:=dB h;exact ⟨n,by unfold wOp;dsimp only;rw [ht];exact hn⟩
 . rename_i h1 h2;refine ⟨0,?_⟩;unfold wOp;split
   . exact absurd rfl (h1 _ _)
   . exact absurd rfl (h2 _ _)
   . exact h
theorem eV {E:WEnv} {o:IOper} {fr:WFr} {H:q8} {r:WFr×q8} (h:i8 E (wv E) o fr H=some r):∃ n,i8 E (wF E n) o fr H=some r:=by
 unfold i8 at h;cases hg:o.guard with
 | none=>
   rw [hg] at h;obtain ⟨n,hn⟩:=yJ h;exact ⟨n,by unfold i8;rw [hg];exact hn⟩
 | some g=>
   rw [hg] at h;obtain ⟨s,want⟩:=g;dsimp only at h;cases he:fr.env s with
   | c v=>
     cases v with
     | bool b=>
       rw [he] at h;dsimp only at h;by_cases hb:b=want
       . rw [if_pos hb] at h;obtain ⟨n,hn⟩:=yJ h;exact ⟨n,by unfold i8;rw [hg];dsimp only;rw [he];dsimp only;rw [if_pos hb];exact hn⟩
       . rw [if_neg hb] at h;exact ⟨0,by unfold i8;rw [hg];dsimp only;rw [he];dsimp only;rw [if_neg hb];exact h⟩
     | _=>rw [he] at h;cases h
   | skipv=>rw [he] at h;exact ⟨0,by unfold i8;rw [hg];dsimp only;rw [he];exact h⟩
   | _=>rw [he] at h;cases h
theorem zk8 {E:WEnv} (ops:List IOper):∀ {fr:WFr} {H:q8} {r:WFr×q8},B5 E (wv E) ops fr H=some r->∃ n,B5 E (wF E n) ops fr H=some r:=by
 induction ops with
 | nil=>intro fr H r h;exact ⟨0,h⟩
 | cons o ops ih=>
   intro fr H r h;unfold B5 at h;cases hs:i8 E (wv E) o fr H with
   | none=>rw [hs] at h;cases h
   | some p=>
     rw [hs] at h;obtain ⟨n,hn⟩:=eV hs;obtain ⟨m,hm⟩:=ih h;refine ⟨n+m,?_⟩;unfold B5;rw [sP (wT E n m) _ _ _ _ hn];rw [Nat.add_comm];exact cG (wT E m n) _ _ _ _ hm
theorem cM {E:WEnv} {cl:Cls} {o:IOp} {dst:Option Nat} {fr:WFr} {H:q8} {r:WFr×q8} (h:wD E (wv E) cl o dst fr H=some r):∃ n,wD E (wF E n) cl o dst fr H=some r:=by
 unfold wD at h;split at h
 . exact ⟨0,by unfold wD;exact h⟩
 . exact ⟨0,by unfold wD;exact h⟩
 . exact ⟨0,by unfold wD;exact h⟩
 . split at h
   . exact ⟨0,by unfold wD;exact h⟩
   . exact ⟨0,by unfold wD;exact h⟩
   . exact ⟨0,by unfold wD;exact h⟩
   . rename_i f args;cases hm:E.md f with
     | S=>rw [hm] at h;cases h
     | P=>
       rw [hm] at h;dsimp only at h;cases ha:f4 H (args.map fr.rd) with
       | none=>rw [ha] at h;cases h
       | some a5=>
         rw [ha] at h;dsimp only at h;cases hc:wv E f a5 [] with
         | none=>rw [hc] at h;cases h
         | some p=>
           obtain ⟨n,hn⟩:=wJ hc;refine ⟨n,?_⟩;unfold wD;dsimp only;rw [hm];dsimp only;rw [ha];dsimp only;rw [hn];rw [hc] at h;exact h
   . cases h
 . split at h
   . exact ⟨0,by unfold wD;exact h⟩
   . exact ⟨0,by unfold wD;exact h⟩
   . exact ⟨0,by unfold wD;exact h⟩
   . obtain ⟨n,hn⟩:=yJ h;exact ⟨n,by unfold wD;exact hn⟩
   . obtain ⟨n,hn⟩:=yJ h;exact ⟨n,by unfold wD;exact hn⟩
   . cases h
 . exact ⟨0,by unfold wD;exact h⟩
 . exact ⟨0,by unfold wD;exact h⟩
 . cases h
theorem zi2 {E:WEnv} {cl:Cls} {o:IOper} {fr:WFr} {H:q8} {r:WFr×q8} (h:E2 E (wv E) cl o fr H=some r):∃ n,E2 E (wF E n) cl o fr H=some r:=by
 unfold E2 at h;cases hg:o.guard with
 | none=>
   rw [hg] at h;obtain ⟨n,hn⟩:=cM h;exact ⟨n,by unfold E2;rw [hg];exact hn⟩
 | some g=>
   rw [hg] at h;obtain ⟨s,want⟩:=g;dsimp only at h;cases he:fr.env s with
   | c v=>
     cases v with
     | bool b=>
       rw [he] at h;dsimp only at h;by_cases hb:b=want
       . rw [if_pos hb] at h;obtain ⟨n,hn⟩:=cM h;exact ⟨n,by unfold E2;rw [hg];dsimp only;rw [he];dsimp only;rw [if_pos hb];exact hn⟩
       . rw [if_neg hb] at h;exact ⟨0,by unfold E2;rw [hg];dsimp only;rw [he];dsimp only;rw [if_neg hb];exact h⟩
     | _=>rw [he] at h;cases h
   | skipv=>rw [he] at h;exact ⟨0,by unfold E2;rw [hg];dsimp only;rw [he];exact h⟩
   | _=>rw [he] at h;cases h
theorem zz7 {E:WEnv} {cl:Cls} {o:IOper} {fr:WFr} {H:q8} {r:WFr×q8} (h:e9 E (wv E) cl o fr H=some r):∃ n,e9 E (wF E n) cl o fr H=some r:=by
 unfold e9 at h;split at h
 . rename_i hd;cases hs:E2 E (wv E) cl o fr H with
   | none=>rw [hs] at h;cases h
   | some p=>
     obtain ⟨n,hn⟩:=zi2 hs;exact ⟨n,by unfold e9;rw [if_pos hd,hn];rw [hs] at h;exact h⟩
 . cases h
theorem zq5 {E:WEnv} (ops:List (Cls×IOper)):∀ {fr:WFr} {H:q8} {r:WFr×q8},A3 E (wv E) ops fr H=some r->∃ n,A3 E (wF E n) ops fr H=some r:=by
 induction ops with
 | nil=>intro fr H r h;exact ⟨0,h⟩
 | cons o ops ih=>
   intro fr H r h;obtain ⟨cl,o⟩:=o;unfold A3 at h;cases hs:e9 E (wv E) cl o fr H with
   | none=>rw [hs] at h;cases h
   | some p=>
     rw [hs] at h;obtain ⟨n,hn⟩:=zz7 hs;obtain ⟨m,hm⟩:=ih h;refine ⟨n+m,?_⟩;unfold A3;rw [aJ (wT E n m) _ _ _ _ _ hn];rw [Nat.add_comm];exact cA (wT E m n) _ _ _ _ hm
theorem qB (E:WEnv) (n k:Nat) (c:ICode):V5 (wC E (wF E n) (u9 n) c) (wC E (wF E (n+k)) (u9 (n+k)) c):=rH (wT E n k) (zY n k) c
theorem nR {s:w9} {sn:Nat->w9} (hm:∀ n k,V5 (sn n) (sn (n+k))) (hl:∀ fr H r,s fr H=some r->∃ n,sn n fr H=some r) {fr:WFr} {H:q8} {r:Ex×WFr×q8} (h:witW s fr H=some r):∃ n,u9 n (sn n) fr H=some r:=by
 obtain ⟨m,hm'⟩:=bS h;have key:∀ m fr H,u9 m s fr H=some r->∃ n,u9 m (sn n) fr H=some r:=by
  intro m;induction m with
  | zero=>intro fr H h;cases h
  | succ m ih=>
    intro fr H h;rw [u9] at h;cases hs:s fr H with
    | none=>rw [hs] at h;cases h
    | some p=>
      rw [hs] at h;obtain ⟨n,hn⟩:=hl _ _ _ hs;obtain ⟨e,fr',H'⟩:=p;cases e with
      | nrm=>
        obtain ⟨k,hk⟩:=ih _ _ h;refine ⟨n+k,?_⟩;rw [u9,hm n k _ _ _ hn];have:=zY m 0 _ _ (hm k n) fr' H' r hk;rw [Nat.add_comm n k];exact this
      | _=>exact ⟨n,by rw [u9,hn];exact h⟩
 obtain ⟨n,hn⟩:=key m fr H hm';refine ⟨m+n,?_⟩;have:=zY m n _ _ (hm n m) fr H r hn;rw [Nat.add_comm n m] at this;exact this
theorem zr4 {E:WEnv} (code:ICode):∀ {fr:WFr} {H:q8} {r:Ex×WFr×q8},wC E (wv E) witW code fr H=some r->∃ n,wC E (wF E n) (u9 n) code fr H=some r:=by
 induction code with
 | skip=>intro fr H r h;exact ⟨0,h⟩
 | regionW bs=>intro fr H r h;unfold wC at h;cases h
 | region ops=>
   intro fr H r h;unfold wC at h;cases hs:B5 E (wv E) ops { fr with al:=j8 } H with
   | none=>rw [hs] at h;cases h
   | some p=>
     rw [hs] at h;obtain ⟨n,hn⟩:=zk8 ops hs;exact ⟨n,by unfold wC;rw [hn];exact h⟩
 | regionD ops=>
   intro fr H r h;unfold wC at h;cases hs:A3 E (wv E) ops { fr with al:=j8 } H with
   | none=>rw [hs] at h;cases h
   | some p=>
     rw [hs] at h;obtain ⟨n,hn⟩:=zq5 ops hs;exact ⟨n,by unfold wC;rw [hn];exact h⟩
 | seq a b iha ihb=>
   intro fr H r h;unfold wC at h;cases hs:wC E (wv E) witW a fr H with
   | none=>rw [hs] at h;cases h
   | some p=>
     rw [hs] at h;obtain ⟨n,hn⟩:=iha hs;obtain ⟨e,fr',H'⟩:=p;cases e with
     | nrm=>
       obtain ⟨m,hm⟩:=ihb h;refine ⟨n+m,?_⟩;unfold wC;rw [qB E n m _ _ _ _ hn,Nat.add_comm];exact qB E m n _ _ _ _ hm
     | _=>exact ⟨n,by unfold wC;rw [hn];exact h⟩
 | cond x a b iha ihb=>
   intro fr H r h;unfold wC at h;split at h
   . rename_i t ht;split at h
     . rename_i hb;obtain ⟨n,hn⟩:=iha h;exact ⟨n,by unfold wC;rw [ht];dsimp only;rw [if_pos hb];exact hn⟩
     . rename_i hb;obtain ⟨n,hn⟩:=ihb h;exact ⟨n,by unfold wC;rw [ht];dsimp only;rw [if_neg hb];exact hn⟩
   . cases h
 | block id b ih=>
   intro fr H r h;unfold wC at h;cases hs:wC E (wv E) witW b fr H with
   | none=>rw [hs] at h;cases h
   | some p=>
     rw [hs] at h;obtain ⟨n,hn⟩:=ih hs;exact ⟨n,by unfold wC;rw [hn];exact h⟩
 | loop live b ih=>
   intro fr H r h;unfold wC at h;obtain ⟨n,hn⟩:=nR (sn:=fun n fr H=>wC E (wF E n) (u9 n) b (o8 live fr) H) (fun n k fr H=>qB E n k b _ _) (fun fr H r h=>ih h) h;exact ⟨n,by unfold wC;exact hn⟩
 | exit id=>intro fr H r h;exact ⟨0,h⟩
 | scope l live b rest ihb ihr=>
   intro fr H r h;unfold wC at h;cases hs:wC E (wv E) witW b fr H with
   | none=>rw [hs] at h;cases h
   | some p=>
     rw [hs] at h;obtain ⟨n,hn⟩:=ihb hs;obtain ⟨e,fr',H'⟩:=p;cases e with
     | goto l'=>
       dsimp only at h;by_cases hl:l'=l
       . rw [if_pos hl] at h;generalize hz:witW (fun fr H=>K5 l (wC E (wv E) witW rest (o8 live fr) H)) fr' H'=z at h;cases z with
         | none=>cases h
         | some q=>
           obtain ⟨m,hm⟩:=nR (sn:=fun n fr H=>K5 l (wC E (wF E n) (u9 n) rest (o8 live fr) H)) (fun n k fr H=>pO l (qB E n k _ _ _)) (by
            intro fr H r hr;cases hq:wC E (wv E) witW rest (o8 live fr) H with
            | none=>rw [hq] at hr;cases hr
            | some q=>rw [hq] at hr;obtain ⟨n,hn⟩:=ihr hq;exact ⟨n,by rw [hn];exact hr⟩) hz
           refine ⟨n+m,?_⟩;have hr':=qB E n m _ _ _ _ hn;have hi':=zY m n _ (fun fr H=>K5 l (wC E (wF E (n+m)) (u9 (n+m)) rest (o8 live fr) H)) (by
            intro fr H;rw [Nat.add_comm n m];exact pO l (qB E m n _ _ _)) _ _ _ hm
           rw [Nat.add_comm m n] at hi';unfold wC;rw [hr'];dsimp only;rw [if_pos hl,hi'];exact h
       . rw [if_neg hl] at h;exact ⟨n,by unfold wC;rw [hn];dsimp only;rw [if_neg hl];exact h⟩
     | _=>exact ⟨n,by unfold wC;rw [hn];exact h⟩
 | label l=>intro fr H r h;exact ⟨0,h⟩
 | keep l=>intro fr H r h;exact ⟨0,h⟩
 | goto l=>intro fr H r h;exact ⟨0,h⟩
 | ret=>intro fr H r h;exact ⟨0,h⟩
theorem sV (E:WEnv) (f:Nat) (a:List WV) (H:q8):wv E f a H=wFn E (wv E) witW f a H:=by
 apply Option.ext;intro r;constructor
 . intro h;obtain ⟨n,hn⟩:=wJ h;cases n with
   | zero=>cases hn
   | succ n=>exact cP (zn6 E n) (ze2 n) f a H r hn
 . intro h;unfold wFn at h;cases hf:E.fnA f a.length with
   | none=>
     rw [hf] at h;refine pD (n:=1) ?_;unfold wF wFn;rw [hf];exact h
   | some g=>
     rw [hf] at h;dsimp only at h;cases hs:wC E (wv E) witW g.body { env:=l8 (D6 0 a),al:=j8 } H with
     | none=>rw [hs] at h;cases h
     | some p=>
       obtain ⟨n,hn⟩:=zr4 g.body hs;refine pD (n:=n+1) ?_;unfold wF wFn;rw [hf];dsimp only;rw [hn];rw [hs] at h;exact h
end Go.Proofs.Lz
