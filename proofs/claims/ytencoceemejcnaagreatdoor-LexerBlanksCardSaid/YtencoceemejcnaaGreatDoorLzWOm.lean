/- The evaluator of LzW without a number of rounds: its equations. -/
import Derived.Test.YtencoceemejcnaaGreatDoorLzW
import Derived.Test.YtencoceemejcnaaGreatDoorLzOm
namespace Go.Proofs.Lz
def zj5 (c c':za5):Prop:=∀ f a H,Le (c f a H) (c' f a H)
def q84 (s s':WRun):Prop:=∀ fr H,Le (s fr H) (s' fr H)
theorem q96 {E:WEnv} {c c':za5} (h:zj5 c c') (f:Nat) (args:List WV) (dst:Option Nat) (fr:WFr) (H:z18) :
 Le (zd1 E c f args dst fr H) (zd1 E c' f args dst fr H):=by
 intro r hr
 unfold zd1 at hr ⊢
 cases hm:E.md f with
 | S=>
   rw [hm] at hr
   dsimp only at hr ⊢
   split at hr
   · rename_i hc
     rw [if_pos hc]
     cases ha:zh3 (zi1 (E.tk f) 0 args) false fr H with
     | mk fr1 H1=>
       rw [ha] at hr
       dsimp only at hr ⊢
       cases hc:c f (q30 (E.tk f) 0 args) H1 with
       | none=>rw [hc] at hr;cases hr
       | some q=>rw [hc] at hr;rw [h _ _ _ _ hc];exact hr
   · cases hr
 | P=>
   rw [hm] at hr
   dsimp only at hr ⊢
   cases ha:zh5 H args with
   | none=>rw [ha] at hr;cases hr
   | some a5=>
     rw [ha] at hr
     dsimp only at hr ⊢
     cases hc:c f a5 [] with
     | none=>rw [hc] at hr;cases hr
     | some p=>rw [hc] at hr;rw [h _ _ _ _ hc];exact hr
theorem qa3 {E:WEnv} {c c':za5} (h:zj5 c c') (o:IOp) (dst:Option Nat) (fr:WFr) (H:z18):Le (wOp E c o dst fr H) (wOp E c' o dst fr H):=by
 intro r hr
 unfold wOp at hr ⊢
 split at hr
 · exact q96 h _ _ _ _ _ _ hr
 · rename_i x args
   cases ht:q17 (fr.rd x) (args.map fr.rd) with
   | none=>rw [ht] at hr;cases hr
   | some p=>
     rw [ht] at hr
     exact q96 h _ _ _ _ _ _ hr
 · exact hr
theorem qz2 {E:WEnv} {c c':za5} (h:zj5 c c') (o:IOper) (fr:WFr) (H:z18):Le (wStp E c o fr H) (wStp E c' o fr H):=by
 intro r hr
 unfold wStp at hr ⊢
 cases hg:o.guard with
 | none=>rw [hg] at hr;exact qa3 h _ _ _ _ _ hr
 | some g=>
   rw [hg] at hr
   obtain ⟨s,want⟩:=g
   dsimp only at hr ⊢
   split at hr
   · split at hr
     · rename_i hb;rw [if_pos hb];exact qa3 h _ _ _ _ _ hr
     · rename_i hb;rw [if_neg hb];exact hr
   · exact hr
   · cases hr
theorem qy0 {E:WEnv} {c c':za5} (h:zj5 c c') (ops:List IOper):∀ (fr:WFr) (H:z18),Le (wOps E c ops fr H) (wOps E c' ops fr H):=by
 induction ops with
 | nil=>intro fr H;exact Le.refl _
 | cons o ops ih=>
   intro fr H r hr
   unfold wOps at hr ⊢
   cases hs:wStp E c o fr H with
   | none=>rw [hs] at hr;cases hr
   | some p=>rw [hs] at hr;rw [qz2 h _ _ _ _ hs];exact ih _ _ _ hr
theorem jz8 {E:WEnv} {c c':za5} (h:zj5 c c') (cl:Cls) (o:IOp) (dst:Option Nat) (fr:WFr) (H:z18):Le (wD E c cl o dst fr H) (wD E c' cl o dst fr H):=by
 intro r hr
 unfold wD at hr ⊢
 split at hr
 · exact hr
 · exact hr
 · exact hr
 · split at hr
   · exact hr
   · exact hr
   · exact hr
   · rename_i f args
     cases hm:E.md f with
     | S=>rw [hm] at hr;cases hr
     | P=>
       rw [hm] at hr
       dsimp only at hr ⊢
       cases ha:zh5 H (args.map fr.rd) with
       | none=>rw [ha] at hr;cases hr
       | some a5=>
         rw [ha] at hr
         dsimp only at hr ⊢
         cases hc:c f a5 [] with
         | none=>rw [hc] at hr;cases hr
         | some p=>rw [hc] at hr;rw [h _ _ _ _ hc];exact hr
   · exact hr
 · split at hr
   · exact hr
   · exact hr
   · exact hr
   · exact qa3 h _ _ _ _ _ hr
   · exact qa3 h _ _ _ _ _ hr
   · exact hr
 · exact hr
 · exact hr
theorem jl9 {E:WEnv} {c c':za5} (h:zj5 c c') (cl:Cls) (o:IOper) (fr:WFr) (H:z18):Le (zw3 E c cl o fr H) (zw3 E c' cl o fr H):=by
 intro r hr
 unfold zw3 at hr ⊢
 cases hg:o.guard with
 | none=>rw [hg] at hr;exact jz8 h _ _ _ _ _ _ hr
 | some g=>
   rw [hg] at hr
   obtain ⟨s,want⟩:=g
   dsimp only at hr ⊢
   split at hr
   · split at hr
     · rename_i hb;rw [if_pos hb];exact jz8 h _ _ _ _ _ _ hr
     · rename_i hb;rw [if_neg hb];exact hr
   · exact hr
   · cases hr
theorem qn6 {E:WEnv} {c c':za5} (h:zj5 c c') (cl:Cls) (o:IOper) (fr:WFr) (H:z18):Le (zq1 E c cl o fr H) (zq1 E c' cl o fr H):=by
 intro r hr
 unfold zq1 at hr ⊢
 split at hr
 · rename_i hd
   rw [if_pos hd]
   cases hs:zw3 E c cl o fr H with
   | none=>rw [hs] at hr;cases hr
   | some p=>rw [hs] at hr;rw [jl9 h _ _ _ _ _ hs];exact hr
 · cases hr
theorem ql7 {E:WEnv} {c c':za5} (h:zj5 c c') (ops:List (Cls×IOper)):∀ (fr:WFr) (H:z18),Le (zr6 E c ops fr H) (zr6 E c' ops fr H):=by
 induction ops with
 | nil=>intro fr H;exact Le.refl _
 | cons o ops ih=>
   intro fr H r hr
   obtain ⟨cl,o⟩:=o
   unfold zr6 at hr ⊢
   cases hs:zq1 E c cl o fr H with
   | none=>rw [hs] at hr;cases hr
   | some p=>rw [hs] at hr;rw [qn6 h _ _ _ _ _ hs];exact ih _ _ _ hr
theorem zx2 (l:Nat) {a b:Option (Ex×WFr×z18)} (h:Le a b):Le (zf9 l a) (zf9 l b):=by
 intro r hr
 cases a with
 | none=>cases hr
 | some q=>rw [h _ rfl];exact hr
theorem qz7 (l:Nat) {a b:Option (Ex×WFr×z18)} (h:Le a b):Le (zx1 l a) (zx1 l b):=by
 intro r hr
 cases a with
 | none=>cases hr
 | some q=>rw [h _ rfl];exact hr
def w38 (i i':WRun→WRun):Prop:=∀ s s',q84 s s'→q84 (i s) (i' s')
theorem jp3 {E:WEnv} {c c':za5} {i i':WRun→WRun} (h:zj5 c c') (hi:w38 i i') (code:ICode):q84 (wC E c i code) (wC E c' i' code):=by
 induction code with
 | skip=>intro fr H;exact Le.refl _
 | region ops=>
   intro fr H r hr
   unfold wC at hr ⊢
   cases hs:wOps E c ops { fr with al:=noAl } H with
   | none=>rw [hs] at hr;cases hr
   | some p=>rw [hs] at hr;rw [qy0 h _ _ _ _ hs];exact hr
 | regionD ops=>
   intro fr H r hr
   unfold wC at hr ⊢
   cases hs:zr6 E c ops { fr with al:=noAl } H with
   | none=>rw [hs] at hr;cases hr
   | some p=>rw [hs] at hr;rw [ql7 h _ _ _ _ hs];exact hr
 | seq a b iha ihb=>
   intro fr H r hr
   unfold wC at hr ⊢
   cases hs:wC E c i a fr H with
   | none=>rw [hs] at hr;cases hr
   | some p=>
     rw [hs] at hr;rw [iha _ _ _ hs]
     obtain ⟨e,fr',H'⟩:=p
     cases e with
     | nrm=>exact ihb _ _ _ hr
     | _=>exact hr
 | cond x a b iha ihb=>
   intro fr H r hr
   unfold wC at hr ⊢
   split at hr
   · split at hr
     · rename_i hb;rw [if_pos hb];exact iha _ _ _ hr
     · rename_i hb;rw [if_neg hb];exact ihb _ _ _ hr
   · cases hr
 | block id b ih=>
   intro fr H r hr
   unfold wC at hr ⊢
   cases hs:wC E c i b fr H with
   | none=>rw [hs] at hr;cases hr
   | some p=>rw [hs] at hr;rw [ih _ _ _ hs];exact hr
 | loop live b ih=>
   intro fr H r hr
   unfold wC at hr ⊢
   exact hi _ _ (fun fr H=>ih _ _) _ _ _ hr
 | exit id=>intro fr H;exact Le.refl _
 | scope l live b rest ihb ihr=>
   intro fr H r hr
   unfold wC at hr ⊢
   cases hs:wC E c i b fr H with
   | none=>rw [hs] at hr;cases hr
   | some p=>
     rw [hs] at hr;rw [ihb _ _ _ hs]
     obtain ⟨e,fr',H'⟩:=p
     cases e with
     | goto l'=>
       dsimp only at hr ⊢
       split at hr
       · rename_i hl
         rw [if_pos hl]
         have key:q84 (i fun fr H=>zf9 l (wC E c i rest (zo4 live fr) H)) (i' fun fr H=>zf9 l (wC E c' i' rest (zo4 live fr) H)):=
          hi _ _ fun fr H=>zx2 l (ihr _ _)
         exact qz7 l (key _ _) _ hr
       · rename_i hl;rw [if_neg hl];exact hr
     | _=>exact hr
 | label l=>intro fr H;exact Le.refl _
 | keep l=>intro fr H;exact Le.refl _
 | goto l=>intro fr H;exact Le.refl _
 | ret=>intro fr H;exact Le.refl _
theorem qt7 (n:Nat):∀ s s':WRun,q84 s s'→q84 (witF n s) (witF (n+1) s'):=by
 induction n with
 | zero=>intro s s' _ fr H r hr;cases hr
 | succ n ih=>
   intro s s' h fr H r hr
   rw [witF] at hr ⊢
   cases hs:s fr H with
   | none=>rw [hs] at hr;cases hr
   | some p=>
     rw [hs] at hr;rw [h _ _ _ hs]
     obtain ⟨e,fr',H'⟩:=p
     cases e with
     | nrm=>exact ih _ _ h _ _ _ hr
     | _=>exact hr
theorem q60 (n k:Nat):w38 (witF n) (witF (n+k)):=by
 induction k with
 | zero=>
   intro s s' h
   induction n with
   | zero=>intro fr H r hr;cases hr
   | succ n ih=>
     intro fr H r hr
     simp only [Nat.add_zero] at ih ⊢
     rw [witF] at hr ⊢
     cases hs:s fr H with
     | none=>rw [hs] at hr;cases hr
     | some p=>
       rw [hs] at hr;rw [h _ _ _ hs]
       obtain ⟨e,fr',H'⟩:=p
       cases e with
       | nrm=>exact ih _ _ _ hr
       | _=>exact hr
 | succ k ih=>
   intro s s' h fr H
   exact (ih s s' h fr H).trans (qt7 (n+k) s' s' (fun _ _=>Le.refl _) fr H)
theorem jc9 {E:WEnv} {c c':za5} {i i':WRun→WRun} (h:zj5 c c') (hi:w38 i i'):zj5 (wFn E c i) (wFn E c' i'):=by
 intro f a H r hr
 unfold wFn at hr ⊢
 cases hf:E.fnA f a.length with
 | none=>rw [hf] at hr;exact hr
 | some g=>
   rw [hf] at hr
   dsimp only at hr ⊢
   cases hs:wC E c i g.body { env:=zg1 (zk5 0 a),al:=noAl } H with
   | none=>rw [hs] at hr;cases hr
   | some p=>rw [hs] at hr;rw [jp3 h hi _ _ _ _ hs];exact hr
theorem jv8 (E:WEnv) (n:Nat):zj5 (wF E n) (wF E (n+1)):=by
 induction n with
 | zero=>intro f a H r hr;cases hr
 | succ n ih=>exact jc9 ih (q60 n 1)
theorem jt7 (E:WEnv) (n k:Nat):zj5 (wF E n) (wF E (n+k)):=by
 induction k with
 | zero=>intro f a H;exact Le.refl _
 | succ k ih=>intro f a H;exact (ih f a H).trans (jv8 E (n+k) f a H)
noncomputable def wv (E:WEnv):za5:=fun f a H=>lub fun n=>wF E n f a H
noncomputable def witW:WRun→WRun:=fun s fr H=>lub fun n=>witF n s fr H
theorem qd1 {E:WEnv} {f:Nat} {a:List WV} {H:z18} {r:WV×z18} (h:wv E f a H=some r):∃ n,wF E n f a H=some r:=qs8 h
theorem wb6 {E:WEnv} {f:Nat} {a:List WV} {H:z18} {r:WV×z18} {n:Nat} (h:wF E n f a H=some r):wv E f a H=some r:=
 jw0 (g:=fun n=>wF E n f a H) (fun n=>jv8 E n f a H) h
theorem qr0 {s:WRun} {fr:WFr} {H:z18} {r:Ex×WFr×z18} {n:Nat} (h:witF n s fr H=some r):witW s fr H=some r:=
 jw0 (g:=fun n=>witF n s fr H) (fun n=>qt7 n s s (fun _ _=>Le.refl _) fr H) h
theorem qe2 {s:WRun} {fr:WFr} {H:z18} {r:Ex×WFr×z18} (h:witW s fr H=some r):∃ n,witF n s fr H=some r:=qs8 h
theorem j60 (s:WRun) (fr:WFr) (H:z18):witW s fr H=match s fr H with
 | some (.nrm,fr',H')=>witW s fr' H'
 | r=>r:=by
 apply Option.ext
 intro r
 constructor
 · intro h
   obtain ⟨n,hn⟩:=qe2 h
   cases n with
   | zero=>cases hn
   | succ n=>
     rw [witF] at hn
     cases hs:s fr H with
     | none=>rw [hs] at hn;cases hn
     | some p=>
       rw [hs] at hn
       obtain ⟨e,fr',H'⟩:=p
       cases e with
       | nrm=>exact qr0 hn
       | _=>exact hn
 · intro h
   cases hs:s fr H with
   | none=>rw [hs] at h;cases h
   | some p=>
     rw [hs] at h
     obtain ⟨e,fr',H'⟩:=p
     cases e with
     | nrm=>
       obtain ⟨n,hn⟩:=qe2 h
       exact qr0 (n:=n+1) (by rw [witF,hs];exact hn)
     | _=>exact qr0 (n:=1) (by rw [witF,hs];exact h)
theorem wi1 (n:Nat):w38 (witF n) witW:=fun s s' h fr H r hr=>qr0 (q60 n 0 s s' h fr H r hr)
theorem jx6 (E:WEnv) (n:Nat):zj5 (wF E n) (wv E):=fun _ _ _ _ h=>wb6 h
theorem qb7 {E:WEnv} {f:Nat} {args:List WV} {dst:Option Nat} {fr:WFr} {H:z18} {r:WFr×z18} (hr:zd1 E (wv E) f args dst fr H=some r):∃ n,zd1 E (wF E n) f args dst fr H=some r:=by
 unfold zd1 at hr
 cases hm:E.md f with
 | S=>
   rw [hm] at hr
   dsimp only at hr
   split at hr
   · rename_i hc0
     cases ha:zh3 (zi1 (E.tk f) 0 args) false fr H with
     | mk fr1 H1=>
       rw [ha] at hr
       dsimp only at hr
       cases hc:wv E f (q30 (E.tk f) 0 args) H1 with
       | none=>rw [hc] at hr;cases hr
       | some q=>
         obtain ⟨n,hn⟩:=qd1 hc
         refine ⟨n,?_⟩
         unfold zd1
         rw [hm]
         dsimp only
         rw [if_pos hc0,ha]
         dsimp only
         rw [hn]
         rw [hc] at hr
         exact hr
   · cases hr
 | P=>
   rw [hm] at hr
   dsimp only at hr
   cases ha:zh5 H args with
   | none=>rw [ha] at hr;cases hr
   | some a5=>
     rw [ha] at hr
     dsimp only at hr
     cases hc:wv E f a5 [] with
     | none=>rw [hc] at hr;cases hr
     | some q=>
       obtain ⟨n,hn⟩:=qd1 hc
       refine ⟨n,?_⟩
       unfold zd1
       rw [hm]
       dsimp only
       rw [ha]
       dsimp only
       rw [hn]
       rw [hc] at hr
       exact hr
theorem qo8 {E:WEnv} {o:IOp} {dst:Option Nat} {fr:WFr} {H:z18} {r:WFr×z18} (h:wOp E (wv E) o dst fr H=some r):∃ n,wOp E (wF E n) o dst fr H=some r:=by
 unfold wOp at h
 split at h
 · obtain ⟨n,hn⟩:=qb7 h
   exact ⟨n,by unfold wOp;exact hn⟩
 · rename_i x args
   cases ht:q17 (fr.rd x) (args.map fr.rd) with
   | none=>rw [ht] at h;cases h
   | some p=>
     rw [ht] at h
     obtain ⟨n,hn⟩:=qb7 h
     exact ⟨n,by unfold wOp;dsimp only;rw [ht];exact hn⟩
 · rename_i h1 h2
   refine ⟨0,?_⟩
   unfold wOp
   split
   · exact absurd rfl (h1 _ _)
   · exact absurd rfl (h2 _ _)
   · exact h
theorem w50 {E:WEnv} {o:IOper} {fr:WFr} {H:z18} {r:WFr×z18} (h:wStp E (wv E) o fr H=some r):∃ n,wStp E (wF E n) o fr H=some r:=by
 unfold wStp at h
 cases hg:o.guard with
 | none=>
   rw [hg] at h
   obtain ⟨n,hn⟩:=qo8 h
   exact ⟨n,by unfold wStp;rw [hg];exact hn⟩
 | some g=>
   rw [hg] at h
   obtain ⟨s,want⟩:=g
   dsimp only at h
   cases he:fr.env s with
   | c v=>
     cases v with
     | bool b=>
       rw [he] at h
       dsimp only at h
       by_cases hb:b=want
       · rw [if_pos hb] at h
         obtain ⟨n,hn⟩:=qo8 h
         exact ⟨n,by unfold wStp;rw [hg];dsimp only;rw [he];dsimp only;rw [if_pos hb];exact hn⟩
       · rw [if_neg hb] at h
         exact ⟨0,by unfold wStp;rw [hg];dsimp only;rw [he];dsimp only;rw [if_neg hb];exact h⟩
     | _=>rw [he] at h;cases h
   | skipv=>rw [he] at h;exact ⟨0,by unfold wStp;rw [hg];dsimp only;rw [he];exact h⟩
   | _=>rw [he] at h;cases h
theorem w80 {E:WEnv} (ops:List IOper):∀ {fr:WFr} {H:z18} {r:WFr×z18},wOps E (wv E) ops fr H=some r→∃ n,wOps E (wF E n) ops fr H=some r:=by
 induction ops with
 | nil=>intro fr H r h;exact ⟨0,h⟩
 | cons o ops ih=>
   intro fr H r h
   unfold wOps at h
   cases hs:wStp E (wv E) o fr H with
   | none=>rw [hs] at h;cases h
   | some p=>
     rw [hs] at h
     obtain ⟨n,hn⟩:=w50 hs
     obtain ⟨m,hm⟩:=ih h
     refine ⟨n+m,?_⟩
     unfold wOps
     rw [qz2 (jt7 E n m) _ _ _ _ hn]
     rw [Nat.add_comm]
     exact qy0 (jt7 E m n) _ _ _ _ hm
theorem wf5 {E:WEnv} {cl:Cls} {o:IOp} {dst:Option Nat} {fr:WFr} {H:z18} {r:WFr×z18} (h:wD E (wv E) cl o dst fr H=some r):∃ n,wD E (wF E n) cl o dst fr H=some r:=by
 unfold wD at h
 split at h
 · exact ⟨0,by unfold wD;exact h⟩
 · exact ⟨0,by unfold wD;exact h⟩
 · exact ⟨0,by unfold wD;exact h⟩
 · split at h
   · exact ⟨0,by unfold wD;exact h⟩
   · exact ⟨0,by unfold wD;exact h⟩
   · exact ⟨0,by unfold wD;exact h⟩
   · rename_i f args
     cases hm:E.md f with
     | S=>rw [hm] at h;cases h
     | P=>
       rw [hm] at h
       dsimp only at h
       cases ha:zh5 H (args.map fr.rd) with
       | none=>rw [ha] at h;cases h
       | some a5=>
         rw [ha] at h
         dsimp only at h
         cases hc:wv E f a5 [] with
         | none=>rw [hc] at h;cases h
         | some p=>
           obtain ⟨n,hn⟩:=qd1 hc
           refine ⟨n,?_⟩
           unfold wD
           dsimp only
           rw [hm]
           dsimp only
           rw [ha]
           dsimp only
           rw [hn]
           rw [hc] at h
           exact h
   · cases h
 · split at h
   · exact ⟨0,by unfold wD;exact h⟩
   · exact ⟨0,by unfold wD;exact h⟩
   · exact ⟨0,by unfold wD;exact h⟩
   · obtain ⟨n,hn⟩:=qo8 h
     exact ⟨n,by unfold wD;exact hn⟩
   · obtain ⟨n,hn⟩:=qo8 h
     exact ⟨n,by unfold wD;exact hn⟩
   · cases h
 · exact ⟨0,by unfold wD;exact h⟩
 · exact ⟨0,by unfold wD;exact h⟩
theorem w24 {E:WEnv} {cl:Cls} {o:IOper} {fr:WFr} {H:z18} {r:WFr×z18} (h:zw3 E (wv E) cl o fr H=some r):∃ n,zw3 E (wF E n) cl o fr H=some r:=by
 unfold zw3 at h
 cases hg:o.guard with
 | none=>
   rw [hg] at h
   obtain ⟨n,hn⟩:=wf5 h
   exact ⟨n,by unfold zw3;rw [hg];exact hn⟩
 | some g=>
   rw [hg] at h
   obtain ⟨s,want⟩:=g
   dsimp only at h
   cases he:fr.env s with
   | c v=>
     cases v with
     | bool b=>
       rw [he] at h
       dsimp only at h
       by_cases hb:b=want
       · rw [if_pos hb] at h
         obtain ⟨n,hn⟩:=wf5 h
         exact ⟨n,by unfold zw3;rw [hg];dsimp only;rw [he];dsimp only;rw [if_pos hb];exact hn⟩
       · rw [if_neg hb] at h
         exact ⟨0,by unfold zw3;rw [hg];dsimp only;rw [he];dsimp only;rw [if_neg hb];exact h⟩
     | _=>rw [he] at h;cases h
   | skipv=>rw [he] at h;exact ⟨0,by unfold zw3;rw [hg];dsimp only;rw [he];exact h⟩
   | _=>rw [he] at h;cases h
theorem jq0 {E:WEnv} {cl:Cls} {o:IOper} {fr:WFr} {H:z18} {r:WFr×z18} (h:zq1 E (wv E) cl o fr H=some r):∃ n,zq1 E (wF E n) cl o fr H=some r:=by
 unfold zq1 at h
 split at h
 · rename_i hd
   cases hs:zw3 E (wv E) cl o fr H with
   | none=>rw [hs] at h;cases h
   | some p=>
     obtain ⟨n,hn⟩:=w24 hs
     exact ⟨n,by unfold zq1;rw [if_pos hd,hn];rw [hs] at h;exact h⟩
 · cases h
theorem w00 {E:WEnv} (ops:List (Cls×IOper)):∀ {fr:WFr} {H:z18} {r:WFr×z18},zr6 E (wv E) ops fr H=some r→∃ n,zr6 E (wF E n) ops fr H=some r:=by
 induction ops with
 | nil=>intro fr H r h;exact ⟨0,h⟩
 | cons o ops ih=>
   intro fr H r h
   obtain ⟨cl,o⟩:=o
   unfold zr6 at h
   cases hs:zq1 E (wv E) cl o fr H with
   | none=>rw [hs] at h;cases h
   | some p=>
     rw [hs] at h
     obtain ⟨n,hn⟩:=jq0 hs
     obtain ⟨m,hm⟩:=ih h
     refine ⟨n+m,?_⟩
     unfold zr6
     rw [qn6 (jt7 E n m) _ _ _ _ _ hn]
     rw [Nat.add_comm]
     exact ql7 (jt7 E m n) _ _ _ _ hm
theorem zr5 (E:WEnv) (n k:Nat) (c:ICode):q84 (wC E (wF E n) (witF n) c) (wC E (wF E (n+k)) (witF (n+k)) c):=jp3 (jt7 E n k) (q60 n k) c
theorem w21 {s:WRun} {sn:Nat→WRun} (hm:∀ n k,q84 (sn n) (sn (n+k))) (hl:∀ fr H r,s fr H=some r→∃ n,sn n fr H=some r) {fr:WFr} {H:z18} {r:Ex×WFr×z18} (h:witW s fr H=some r):∃ n,witF n (sn n) fr H=some r:=by
 obtain ⟨m,hm'⟩:=qe2 h
 have key:∀ m fr H,witF m s fr H=some r→∃ n,witF m (sn n) fr H=some r:=by
  intro m
  induction m with
  | zero=>intro fr H h;cases h
  | succ m ih=>
    intro fr H h
    rw [witF] at h
    cases hs:s fr H with
    | none=>rw [hs] at h;cases h
    | some p=>
      rw [hs] at h
      obtain ⟨n,hn⟩:=hl _ _ _ hs
      obtain ⟨e,fr',H'⟩:=p
      cases e with
      | nrm=>
        obtain ⟨k,hk⟩:=ih _ _ h
        refine ⟨n+k,?_⟩
        rw [witF,hm n k _ _ _ hn]
        have:=q60 m 0 _ _ (hm k n) fr' H' r hk
        rw [Nat.add_comm n k]
        exact this
      | _=>exact ⟨n,by rw [witF,hn];exact h⟩
 obtain ⟨n,hn⟩:=key m fr H hm'
 refine ⟨m+n,?_⟩
 have:=q60 m n _ _ (hm n m) fr H r hn
 rw [Nat.add_comm n m] at this
 exact this
theorem v02 {E:WEnv} (code:ICode):∀ {fr:WFr} {H:z18} {r:Ex×WFr×z18},wC E (wv E) witW code fr H=some r→∃ n,wC E (wF E n) (witF n) code fr H=some r:=by
 induction code with
 | skip=>intro fr H r h;exact ⟨0,h⟩
 | region ops=>
   intro fr H r h
   unfold wC at h
   cases hs:wOps E (wv E) ops { fr with al:=noAl } H with
   | none=>rw [hs] at h;cases h
   | some p=>
     rw [hs] at h
     obtain ⟨n,hn⟩:=w80 ops hs
     exact ⟨n,by unfold wC;rw [hn];exact h⟩
 | regionD ops=>
   intro fr H r h
   unfold wC at h
   cases hs:zr6 E (wv E) ops { fr with al:=noAl } H with
   | none=>rw [hs] at h;cases h
   | some p=>
     rw [hs] at h
     obtain ⟨n,hn⟩:=w00 ops hs
     exact ⟨n,by unfold wC;rw [hn];exact h⟩
 | seq a b iha ihb=>
   intro fr H r h
   unfold wC at h
   cases hs:wC E (wv E) witW a fr H with
   | none=>rw [hs] at h;cases h
   | some p=>
     rw [hs] at h
     obtain ⟨n,hn⟩:=iha hs
     obtain ⟨e,fr',H'⟩:=p
     cases e with
     | nrm=>
       obtain ⟨m,hm⟩:=ihb h
       refine ⟨n+m,?_⟩
       unfold wC
       rw [zr5 E n m _ _ _ _ hn,Nat.add_comm]
       exact zr5 E m n _ _ _ _ hm
     | _=>exact ⟨n,by unfold wC;rw [hn];exact h⟩
 | cond x a b iha ihb=>
   intro fr H r h
   unfold wC at h
   split at h
   · rename_i t ht
     split at h
     · rename_i hb
       obtain ⟨n,hn⟩:=iha h
       exact ⟨n,by unfold wC;rw [ht];dsimp only;rw [if_pos hb];exact hn⟩
     · rename_i hb
       obtain ⟨n,hn⟩:=ihb h
       exact ⟨n,by unfold wC;rw [ht];dsimp only;rw [if_neg hb];exact hn⟩
   · cases h
 | block id b ih=>
   intro fr H r h
   unfold wC at h
   cases hs:wC E (wv E) witW b fr H with
   | none=>rw [hs] at h;cases h
   | some p=>
     rw [hs] at h
     obtain ⟨n,hn⟩:=ih hs
     exact ⟨n,by unfold wC;rw [hn];exact h⟩
 | loop live b ih=>
   intro fr H r h
   unfold wC at h
   obtain ⟨n,hn⟩:=w21 (sn:=fun n fr H=>wC E (wF E n) (witF n) b (zo4 live fr) H) (fun n k fr H=>zr5 E n k b _ _) (fun fr H r h=>ih h) h
   exact ⟨n,by unfold wC;exact hn⟩
 | exit id=>intro fr H r h;exact ⟨0,h⟩
 | scope l live b rest ihb ihr=>
   intro fr H r h
   unfold wC at h
   cases hs:wC E (wv E) witW b fr H with
   | none=>rw [hs] at h;cases h
   | some p=>
     rw [hs] at h
     obtain ⟨n,hn⟩:=ihb hs
     obtain ⟨e,fr',H'⟩:=p
     cases e with
     | goto l'=>
       dsimp only at h
       by_cases hl:l'=l
       · rw [if_pos hl] at h
         generalize hz:witW (fun fr H=>zf9 l (wC E (wv E) witW rest (zo4 live fr) H)) fr' H'=z at h
         cases z with
         | none=>cases h
         | some q=>
           obtain ⟨m,hm⟩:=w21 (sn:=fun n fr H=>zf9 l (wC E (wF E n) (witF n) rest (zo4 live fr) H)) (fun n k fr H=>zx2 l (zr5 E n k _ _ _)) (by
            intro fr H r hr
            cases hq:wC E (wv E) witW rest (zo4 live fr) H with
            | none=>rw [hq] at hr;cases hr
            | some q=>rw [hq] at hr;obtain ⟨n,hn⟩:=ihr hq;exact ⟨n,by rw [hn];exact hr⟩) hz
           refine ⟨n+m,?_⟩
           have hr':=zr5 E n m _ _ _ _ hn
           have hi':=q60 m n _ (fun fr H=>zf9 l (wC E (wF E (n+m)) (witF (n+m)) rest (zo4 live fr) H)) (by
            intro fr H
            rw [Nat.add_comm n m]
            exact zx2 l (zr5 E m n _ _ _)) _ _ _ hm
           rw [Nat.add_comm m n] at hi'
           unfold wC
           rw [hr']
           dsimp only
           rw [if_pos hl,hi']
           exact h
       · rw [if_neg hl] at h
         exact ⟨n,by unfold wC;rw [hn];dsimp only;rw [if_neg hl];exact h⟩
     | _=>exact ⟨n,by unfold wC;rw [hn];exact h⟩
 | label l=>intro fr H r h;exact ⟨0,h⟩
 | keep l=>intro fr H r h;exact ⟨0,h⟩
 | goto l=>intro fr H r h;exact ⟨0,h⟩
 | ret=>intro fr H r h;exact ⟨0,h⟩
theorem wd7 (E:WEnv) (f:Nat) (a:List WV) (H:z18):wv E f a H=wFn E (wv E) witW f a H:=by
 apply Option.ext
 intro r
 constructor
 · intro h
   obtain ⟨n,hn⟩:=qd1 h
   cases n with
   | zero=>cases hn
   | succ n=>exact jc9 (jx6 E n) (wi1 n) f a H r hn
 · intro h
   unfold wFn at h
   cases hf:E.fnA f a.length with
   | none=>
     rw [hf] at h
     refine wb6 (n:=1) ?_
     unfold wF wFn
     rw [hf]
     exact h
   | some g=>
     rw [hf] at h
     dsimp only at h
     cases hs:wC E (wv E) witW g.body { env:=zg1 (zk5 0 a),al:=noAl } H with
     | none=>rw [hs] at h;cases h
     | some p=>
       obtain ⟨n,hn⟩:=v02 g.body hs
       refine wb6 (n:=n+1) ?_
       unfold wF wFn
       rw [hf]
       dsimp only
       rw [hn]
       rw [hs] at h
       exact h
end Go.Proofs.Lz
