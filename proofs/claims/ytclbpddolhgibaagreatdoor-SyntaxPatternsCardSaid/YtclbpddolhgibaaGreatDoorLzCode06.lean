/- The small code of the functions that the laws reach, a5 the kernel reckons it (printed by gencode.py). -/
import Derived.Test.YtclbpddolhgibaaGreatDoorLzEv
import Derived.Test.YtclbpddolhgibaaGreatDoorLzComp
import Derived.Test.YtclbpddolhgibaaGreatDoorProg
import Derived.KernelRfl
namespace Go.Proofs.Lz
def Le {α:Type} (a b:Option α):Prop:=∀ r,a=some r->b=some r
theorem Le.refl {α:Type} (a:Option α):Le a a:=fun _ h=>h
theorem Le.trans {α:Type} {a b c:Option α} (h:Le a b) (k:Le b c):Le a c:=fun r hr=>k r (h r hr)
open Classical in
noncomputable def lub {α:Type} (g:Nat->Option α):Option α:=
 if h:∃ n r,g n=some r then g (Classical.choose h) else none
theorem uQ {α:Type} {g:Nat->Option α} {r:α} (h:lub g=some r):∃ n,g n=some r:=by
 unfold lub at h;split at h
 . exact ⟨_,h⟩
 . cases h
theorem pF {α:Type} {g:Nat->Option α} (hm:∀ n,Le (g n) (g (n+1))) {n:Nat} {r:α} (h:g n=some r):lub g=some r:=by
 have hle:∀ k m,Le (g m) (g (m+k)):=by
  intro k;induction k with
  | zero=>intro m;exact Le.refl _
  | succ k ih=>intro m;exact (ih m).trans (hm (m+k))
 have hex:∃ n r,g n=some r:=⟨n,r,h⟩;unfold lub;rw [dif_pos hex];obtain ⟨r',hr'⟩:=Classical.choose_spec hex;generalize Classical.choose hex=m at hr' ⊢;have h1:g (m+n)=some r':=hle n m _ hr';have h2:g (n+m)=some r:=hle m n _ h;rw [Nat.add_comm] at h2;rw [hr',<-h1,h2]
def F7 (c c':j5):Prop:=∀ f a H,Le (c f a H) (c' f a H)
def zN (s s':Run):Prop:=∀ fr H,Le (s fr H) (s' fr H)
theorem pN {E:Env} {c c':j5} (h:F7 c c'):F7 (s9 E c) (s9 E c'):=by
 intro f a H r hr;unfold s9 at hr ⊢;cases hm:E.md f with
 | S=>rw [hm] at hr;exact h _ _ _ _ hr
 | P=>
   rw [hm] at hr;dsimp only at hr ⊢;cases ha:l5 H a with
   | none=>rw [ha] at hr;cases hr
   | some a5=>
     rw [ha] at hr;dsimp only at hr ⊢;cases hc:c f a5 [] with
     | none=>rw [hc] at hr;cases hr
     | some p=>rw [hc] at hr;rw [h _ _ _ _ hc];exact hr
theorem gV {E:Env} {c c':j5} (h:F7 c c') (o:IOp) (dst:Option Nat) (fr:Fr) (H:q7):Le (a8 E c o dst fr H) (a8 E c' o dst fr H):=by
 intro r hr;unfold a8 at hr ⊢;split at hr
 . rename_i f args;unfold F8 at hr ⊢;cases hc:s9 E c f (args.map fr.opd) H with
   | none=>rw [hc] at hr;cases hr
   | some p=>rw [hc] at hr;rw [pN h _ _ _ _ hc];exact hr
 . rename_i x args;cases ht:X9 (fr.opd x) (args.map fr.opd) with
   | none=>rw [ht] at hr;cases hr
   | some p=>
     rw [ht] at hr;unfold F8 at hr ⊢;dsimp only at hr ⊢;cases hc:s9 E c p.1 p.2 H with
     | none=>rw [hc] at hr;cases hr
     | some q=>rw [hc] at hr;rw [pN h _ _ _ _ hc];exact hr
 . exact hr
theorem zm8 {E:Env} {c c':j5} (h:F7 c c') (o:IOper) (fr:Fr) (H:q7):Le (stp E c o fr H) (stp E c' o fr H):=by
 intro r hr;unfold stp at hr ⊢;cases hg:o.guard with
 | none=>rw [hg] at hr;exact gV h _ _ _ _ _ hr
 | some g=>
   rw [hg] at hr;obtain ⟨s,want⟩:=g;dsimp only at hr ⊢;split at hr
   . split at hr
     . rename_i hb;rw [if_pos hb];exact gV h _ _ _ _ _ hr
     . rename_i hb;rw [if_neg hb];exact hr
   . exact hr
   . cases hr
theorem fF {E:Env} {c c':j5} (h:F7 c c') (ops:List IOper):∀ (fr:Fr) (H:q7),Le (K0 E c ops fr H) (K0 E c' ops fr H):=by
 induction ops with
 | nil=>intro fr H;exact Le.refl _
 | cons o ops ih=>
   intro fr H r hr;unfold K0 at hr ⊢;cases hs:stp E c o fr H with
   | none=>rw [hs] at hr;cases hr
   | some p=>rw [hs] at hr;rw [zm8 h _ _ _ _ hs];exact ih _ _ _ hr
theorem nU {E:Env} {c c':j5} (h:F7 c c') (cl:Cls) (o:IOp) (dst:Option Nat) (fr:Fr) (H:q7):Le (doD E c cl o dst fr H) (doD E c' cl o dst fr H):=by
 intro r hr;unfold doD at hr ⊢;split at hr
 . exact hr
 . exact hr
 . exact hr
 . split at hr<;>first
    | exact hr
    | (rename_i f args
       split at hr
       . rename_i hm;rw [if_pos hm];cases hc:s9 E c f (args.map fr.opd) H with
         | none=>rw [hc] at hr;cases hr
         | some p=>rw [hc] at hr;rw [pN h _ _ _ _ hc];exact hr
       . cases hr)
 . split at hr<;>first
    | exact hr
    | exact gV h _ _ _ _ _ hr
 . exact hr
 . exact hr
 . exact hr
theorem oW {E:Env} {c c':j5} (h:F7 c c') (cl:Cls) (o:IOper) (fr:Fr) (H:q7):Le (A0 E c cl o fr H) (A0 E c' cl o fr H):=by
 intro r hr;unfold A0 at hr ⊢;cases hg:o.guard with
 | none=>rw [hg] at hr;exact nU h _ _ _ _ _ _ hr
 | some g=>
   rw [hg] at hr;obtain ⟨s,want⟩:=g;dsimp only at hr ⊢;split at hr
   . split at hr
     . rename_i hb;rw [if_pos hb];exact nU h _ _ _ _ _ _ hr
     . rename_i hb;rw [if_neg hb];exact hr
   . exact hr
   . cases hr
theorem sQ {E:Env} {c c':j5} (h:F7 c c') (cl:Cls) (o:IOper) (fr:Fr) (H:q7):Le (m6 E c cl o fr H) (m6 E c' cl o fr H):=by
 intro r hr;unfold m6 at hr ⊢;split at hr
 . rename_i hd;rw [if_pos hd];cases hs:A0 E c cl o fr H with
   | none=>rw [hs] at hr;cases hr
   | some p=>rw [hs] at hr;rw [oW h _ _ _ _ _ hs];exact hr
 . cases hr
theorem zh5 {E:Env} {c c':j5} (h:F7 c c') (ops:List (Cls×IOper)):∀ (fr:Fr) (H:q7),Le (E5 E c ops fr H) (E5 E c' ops fr H):=by
 induction ops with
 | nil=>intro fr H;exact Le.refl _
 | cons o ops ih=>
   intro fr H r hr;obtain ⟨cl,o⟩:=o;unfold E5 at hr ⊢;cases hs:m6 E c cl o fr H with
   | none=>rw [hs] at hr;cases hr
   | some p=>rw [hs] at hr;rw [sQ h _ _ _ _ _ hs];exact ih _ _ _ hr
theorem z86 (l:Nat) {a b:Option (Ex×Fr×q7)} (h:Le a b):Le (J0 l a) (J0 l b):=by
 intro r hr;cases a with
 | none=>cases hr
 | some q=>rw [h _ rfl];exact hr
theorem z24 (l:Nat) {a b:Option (Ex×Fr×q7)} (h:Le a b):Le (K8 l a) (K8 l b):=by
 intro r hr;cases a with
 | none=>cases hr
 | some q=>rw [h _ rfl];exact hr
theorem zy1 {E:Env} {c c':j5} (h:F7 c c') (ops:List (Cls×IOper)):∀ (fr:Fr) (H:q7),Le (L8 E c ops fr H) (L8 E c' ops fr H):=by
 induction ops with
 | nil=>intro fr H;exact Le.refl _
 | cons x ops ih=>
   obtain ⟨cl,o⟩:=x;intro fr H r hr;unfold L8 at hr ⊢;cases hs:m6 E c cl o fr H with
   | none=>rw [hs] at hr;cases hr
   | some p=>
     rw [hs] at hr;rw [sQ h _ _ _ _ _ hs];dsimp only at hr ⊢;cases hq:L8 E c ops p.1 p.2 with
     | none=>rw [hq] at hr;cases hr
     | some q=>rw [hq] at hr;rw [ih _ _ _ hq];exact hr
theorem zv3 {E:Env} {c c':j5} (h:F7 c c') (ops:List (Cls×IOper)) (fr:Fr) (H:q7):Le (Y5 E c ops fr H) (Y5 E c' ops fr H):=by
 intro r hr;unfold Y5 at hr ⊢;cases hq:L8 E c ops fr H with
 | none=>rw [hq] at hr;cases hr
 | some q=>rw [hq] at hr;rw [zy1 h _ _ _ _ hq];exact hr
theorem hM {E:Env} {c c':j5} (h:F7 c c') (bs:List (List (Cls×IOper))):∀ (fr:Fr) (H:q7),Le (Q9 E c bs fr H) (Q9 E c' bs fr H):=by
 induction bs with
 | nil=>intro fr H;exact Le.refl _
 | cons b bs ih=>
   intro fr H r hr;unfold Q9 at hr ⊢;cases hs:Y5 E c b fr H with
   | none=>rw [hs] at hr;cases hr
   | some p=>rw [hs] at hr;rw [zv3 h _ _ _ _ hs];exact ih _ _ _ hr
def pT (i i':Run->Run):Prop:=∀ s s',zN s s'->zN (i s) (i' s')
theorem zh6 {E:Env} {c c':j5} {i i':Run->Run} (h:F7 c c') (hi:pT i i') (code:ICode):zN (evC E c i code) (evC E c' i' code):=by
 induction code with
 | skip=>intro fr H;exact Le.refl _
 | region ops=>
   intro fr H r hr;unfold evC at hr ⊢;cases hs:K0 E c ops { fr with al:=j8 } H with
   | none=>rw [hs] at hr;cases hr
   | some p=>rw [hs] at hr;rw [fF h _ _ _ _ hs];exact hr
 | regionW ops=>
   intro fr H r hr;unfold evC at hr ⊢;cases hs:Q9 E c ops { fr with al:=j8 } H with
   | none=>rw [hs] at hr;cases hr
   | some p=>rw [hs] at hr;rw [hM h _ _ _ _ hs];exact hr
 | regionD ops=>
   intro fr H r hr;unfold evC at hr ⊢;cases hs:E5 E c ops { fr with al:=j8 } H with
   | none=>rw [hs] at hr;cases hr
   | some p=>rw [hs] at hr;rw [zh5 h _ _ _ _ hs];exact hr
 | seq a b iha ihb=>
   intro fr H r hr;unfold evC at hr ⊢;cases hs:evC E c i a fr H with
   | none=>rw [hs] at hr;cases hr
   | some p=>
     rw [hs] at hr;rw [iha _ _ _ hs];obtain ⟨e,fr',H'⟩:=p;cases e with
     | nrm=>exact ihb _ _ _ hr
     | _=>exact hr
 | cond x a b iha ihb=>
   intro fr H r hr;unfold evC at hr ⊢;split at hr
   . split at hr
     . rename_i hb;rw [if_pos hb];exact iha _ _ _ hr
     . rename_i hb;rw [if_neg hb];exact ihb _ _ _ hr
   . cases hr
 | block id b ih=>
   intro fr H r hr;unfold evC at hr ⊢;cases hs:evC E c i b fr H with
   | none=>rw [hs] at hr;cases hr
   | some p=>rw [hs] at hr;rw [ih _ _ _ hs];exact hr
 | loop live b ih=>
   intro fr H r hr;unfold evC at hr ⊢;exact hi _ _ (fun fr H=>ih _ _) _ _ _ hr
 | exit id=>intro fr H;exact Le.refl _
 | scope l live b rest ihb ihr=>
   intro fr H r hr;unfold evC at hr ⊢;cases hs:evC E c i b fr H with
   | none=>rw [hs] at hr;cases hr
   | some p=>
     rw [hs] at hr;rw [ihb _ _ _ hs];obtain ⟨e,fr',H'⟩:=p;cases e with
     | goto l'=>
       dsimp only at hr ⊢;split at hr
       . rename_i hl;rw [if_pos hl];have key:zN (i fun fr H=>J0 l (evC E c i rest (keep live fr) H)) (i' fun fr H=>J0 l (evC E c' i' rest (keep live fr) H)):=
          hi _ _ fun fr H=>z86 l (ihr _ _)
         exact z24 l (key _ _) _ hr
       . rename_i hl;rw [if_neg hl];exact hr
     | _=>exact hr
 | label l=>intro fr H;exact Le.refl _
 | keep l=>intro fr H;exact Le.refl _
 | goto l=>intro fr H;exact Le.refl _
 | ret=>intro fr H;exact Le.refl _
theorem zr9 (n:Nat):∀ s s':Run,zN s s'->zN (itF n s) (itF (n+1) s'):=by
 induction n with
 | zero=>intro s s' _ fr H r hr;cases hr
 | succ n ih=>
   intro s s' h fr H r hr;rw [itF] at hr ⊢;cases hs:s fr H with
   | none=>rw [hs] at hr;cases hr
   | some p=>
     rw [hs] at hr;rw [h _ _ _ hs];obtain ⟨e,fr',H'⟩:=p;cases e with
     | nrm=>exact ih _ _ h _ _ _ hr
     | _=>exact hr
theorem zb2 (n k:Nat):pT (itF n) (itF (n+k)):=by
 induction k with
 | zero=>
   intro s s' h;induction n with
   | zero=>intro fr H r hr;cases hr
   | succ n ih=>
     intro fr H r hr;simp only [Nat.add_zero] at ih ⊢;rw [itF] at hr ⊢;cases hs:s fr H with
     | none=>rw [hs] at hr;cases hr
     | some p=>
       rw [hs] at hr;rw [h _ _ _ hs];obtain ⟨e,fr',H'⟩:=p;cases e with
       | nrm=>exact ih _ _ _ hr
       | _=>exact hr
 | succ k ih=>
   intro s s' h fr H;exact (ih s s' h fr H).trans (zr9 (n+k) s' s' (fun _ _=>Le.refl _) fr H)
theorem zk7 {E:Env} {c c':j5} {i i':Run->Run} (h:F7 c c') (hi:pT i i'):F7 (P9 E c i) (P9 E c' i'):=by
 intro f a H r hr;unfold P9 at hr ⊢;cases hf:E.fnA f a.length with
 | none=>rw [hf] at hr;exact hr
 | some g=>
   rw [hf] at hr;dsimp only at hr ⊢;cases hs:evC E c i g.body { env:=s5 (binds 0 a),al:=j8 } H with
   | none=>rw [hs] at hr;cases hr
   | some p=>rw [hs] at hr;rw [zh6 h hi _ _ _ _ hs];exact hr
theorem zi0 (E:Env) (n:Nat):F7 (evF E n) (evF E (n+1)):=by
 induction n with
 | zero=>intro f a H r hr;cases hr
 | succ n ih=>exact zk7 ih (zb2 n 1)
noncomputable def ev (E:Env):j5:=fun f a H=>lub fun n=>evF E n f a H
noncomputable def itW:Run->Run:=fun s fr H=>lub fun n=>itF n s fr H
theorem zw6 {E:Env} {f:Nat} {a:List HV} {H:q7} {r:HV×q7} (h:ev E f a H=some r):∃ n,evF E n f a H=some r:=uQ h
theorem zq2 {E:Env} {f:Nat} {a:List HV} {H:q7} {r:HV×q7} {n:Nat} (h:evF E n f a H=some r):ev E f a H=some r:=
 pF (g:=fun n=>evF E n f a H) (fun n=>zi0 E n f a H) h
end Go.Proofs.Lz
namespace Go.Proofs.TryzL
open Go.Proofs.Lz
def mds:Nat->Md:=mdL []
def ic3:IFn:=⟨rg [xo 2 (.lbox (some 6) (.t 0)),xo 3 (.lbox (some 6) (.t 1)),xv 4 (kb false)] (.seq (rg [xo 5 (.load (some 6) (.t 2)),xo 6 (.load (some 6) (.t 3)),xo 7 (.bsl true 26 (some 6) [.int .i64 0,.str [],.int .i64 0,.str [],.frz none [],.frz none []] 2 [(0,.t 5),(1,.t 6)]),xo 8 (.build [ci 0,cs [],ci 0,cs [],.nils,.nils,.nils,.nils,.nils,.nils,.nils,.nils,.nils,.nils] [(0,1,ki 9),(7,1,.t 7)]),xo 9 (.call 4 [.t 8]),xo 10 (.un .not (.t 9))] (cd 10 (kq [] (rg [xo 11 (.call 5 []),xm 4 11] (.ret))) (kS [2,3]))) (.seq (.regionD [(.rdb 2,xo 12 (.load (some 6) (.t 2))),(.rdb 3,xo 13 (.load (some 6) (.t 3))),(.rd,xo 14 (.call 6 [.t 12,.t 13])),(.rdb 2,xo 15 (.load (some 6) (.t 2))),(.rdb 3,xo 16 (.load (some 6) (.t 3))),(.rd,xo 17 (.call 7 [.t 15,.t 16])),(.pure,xo 18 (.eqb false (.t 14) (.t 17))),(.pure,xm 19 18),(.rdb 2,xt 20 19 (.load (some 6) (.t 2))),(.rdb 2,xt 21 19 (.load (some 6) (.t 2))),(.rd,xt 22 19 (.call 6 [.t 20,.t 21])),(.pure,xP 23 19 22),(.pure,xm 24 23),(.rdb 3,xt 25 24 (.load (some 6) (.t 3))),(.rdb 2,xt 26 24 (.load (some 6) (.t 2))),(.rd,xt 27 24 (.call 6 [.t 25,.t 26])),(.rdb 2,xt 28 24 (.load (some 6) (.t 2))),(.rdb 3,xt 29 24 (.load (some 6) (.t 3))),(.rd,xt 30 24 (.call 6 [.t 28,.t 29])),(.pure,xt 31 24 (.eqb false (.t 27) (.t 30))),(.pure,xP 32 24 31),(.pure,xm 33 32),(.rd,xt 34 33 (.call 5 [])),(.pure,xP 35 33 34),(.pure,xm 4 35)]) (.ret))),[.tmp 4]⟩
def ic4:IFn:=⟨rg [xo 1 (.lbox (some 14) (.t 0)),xv 2 (kb false)] (rg [xo 3 (.load (some 14) (.t 1)),xo 4 (.call 8 [.t 3]),xo 5 (.bin .leq (.t 4) (ki 110)),xm 6 5,xt 7 6 (.load (some 14) (.t 1)),xt 8 6 (.call 9 [.t 7]),xt 9 6 (.bin .leq (.t 8) (ki 600)),xP 10 6 9,xm 2 10] (.ret)),[.tmp 2]⟩
def ic6:IFn:=⟨rg [xo 2 (.lbox (some 6) (.t 0)),xo 3 (.lbox (some 6) (.t 1)),xv 4 (kb false)] (rg [xa 5 0 2,xl 6 5,xa 7 0 3,xl 8 7,xo 9 (.bin .eql (.t 6) (.t 8)),xm 10 9,xt 11 10 (.faddr 1 (.t 2)),xt 12 10 (.load none (.t 11)),xt 13 10 (.faddr 1 (.t 3)),xt 14 10 (.load none (.t 13)),xt 15 10 (.bin .eql (.t 12) (.t 14)),xP 16 10 15,xm 17 16,xt 18 17 (.faddr 2 (.t 2)),xt 19 17 (.load none (.t 18)),xt 20 17 (.faddr 2 (.t 3)),xt 21 17 (.load none (.t 20)),xt 22 17 (.bin .eql (.t 19) (.t 21)),xP 23 17 22,xm 24 23,xt 25 24 (.faddr 3 (.t 2)),xt 26 24 (.load none (.t 25)),xt 27 24 (.faddr 3 (.t 3)),xt 28 24 (.load none (.t 27)),xt 29 24 (.bin .eql (.t 26) (.t 28)),xP 30 24 29,xm 31 30,xt 32 31 (.faddr 5 (.t 2)),xt 33 31 (.load none (.t 32)),xt 34 31 (.faddr 5 (.t 3)),xt 35 31 (.load none (.t 34)),xt 36 31 (.call 13 [.t 33,.t 35]),xP 37 31 36,xm 38 37,xt 39 38 (.faddr 4 (.t 2)),xt 40 38 (.load none (.t 39)),xt 41 38 (.faddr 4 (.t 3)),xt 42 38 (.load none (.t 41)),xt 43 38 (.call 14 [.t 40,.t 42,.k (.c (.fn 6 [] []))]),xP 44 38 43,xm 4 44] (.ret)),[.tmp 4]⟩
def ic7:IFn:=⟨rg [xo 2 (.lbox (some 6) (.t 0)),xo 3 (.lbox (some 6) (.t 1)),xv 4 (kb false)] (rg [xa 5 0 2,xl 6 5,xa 7 0 3,xl 8 7,xo 9 (.bin .eql (.t 6) (.t 8)),xm 10 9,xt 11 10 (.faddr 1 (.t 2)),xt 12 10 (.load none (.t 11)),xt 13 10 (.faddr 1 (.t 3)),xt 14 10 (.load none (.t 13)),xt 15 10 (.bin .eql (.t 12) (.t 14)),xP 16 10 15,xm 17 16,xt 18 17 (.faddr 2 (.t 2)),xt 19 17 (.load none (.t 18)),xt 20 17 (.faddr 2 (.t 3)),xt 21 17 (.load none (.t 20)),xt 22 17 (.bin .eql (.t 19) (.t 21)),xP 23 17 22,xm 24 23,xt 25 24 (.faddr 3 (.t 2)),xt 26 24 (.load none (.t 25)),xt 27 24 (.faddr 3 (.t 3)),xt 28 24 (.load none (.t 27)),xt 29 24 (.bin .eql (.t 26) (.t 28)),xP 30 24 29,xm 31 30,xt 32 31 (.faddr 5 (.t 2)),xt 33 31 (.load none (.t 32)),xt 34 31 (.faddr 5 (.t 3)),xt 35 31 (.load none (.t 34)),xt 36 31 (.call 15 [.t 33,.t 35]),xP 37 31 36,xm 38 37,xt 39 38 (.faddr 4 (.t 2)),xt 40 38 (.load none (.t 39)),xt 41 38 (.faddr 4 (.t 3)),xt 42 38 (.load none (.t 41)),xt 43 38 (.call 16 [.t 40,.t 42]),xP 44 38 43,xm 4 44] (.ret)),[.tmp 4]⟩
def ic8:IFn:=⟨rg [xo 1 (.lbox (some 14) (.t 0)),xv 2 (ki 0)] (rg [xo 3 (.load (some 14) (.t 1)),xo 4 (.call 17 [.t 3]),xo 5 (.fld none 0 (.t 4)),xm 2 5] (.ret)),[.tmp 2]⟩
def ic9:IFn:=⟨rg [xo 1 (.lbox (some 14) (.t 0)),xv 2 (ki 0)] (rg [xo 3 (.load (some 14) (.t 1)),xo 4 (.call 17 [.t 3]),xo 5 (.fld none 1 (.t 4)),xm 2 5] (.ret)),[.tmp 2]⟩
def z32:ICode:=rg [xo 14 (.bin .lss (.t 13) (.t 12))] (.seq (cd 14 (kS [0,1,12,13]) (kq [] (.exit 0))) (.seq (.block 1 (rg [xm 15 13,xm 5 15] (.seq (.regionD [(.pure,xm 16 0),(.pure,xm 17 5),(.rd,xo 18 (.ix none (.t 16) (.t 17))),(.rd,xl 19 18),(.pure,xm 20 1),(.pure,xm 21 5),(.rd,xo 22 (.ix none (.t 20) (.t 21))),(.rd,xl 23 22),(.pure,xo 24 (.bin .neq (.t 19) (.t 23)))]) (cd 24 (kq [] (rg [xv 4 (kb false)] (.ret))) (kS [0,1,12,13]))))) (.region [xo 25 (.bin .add (.t 13) (ki 1)),xm 13 25])))
def dV:IFn:=⟨rg [xv 4 (kb false)] (.seq (rg [xm 6 0,xo 7 (.len false (.t 6)),xm 8 1,xo 9 (.len false (.t 8)),xo 10 (.bin .neq (.t 7) (.t 9))] (cd 10 (kq [] (rg [xv 4 (kb false)] (.ret))) (kS [0,1]))) (.seq (rg [xm 11 0,xo 12 (.len false (.t 11)),xv 13 (ki 0)] (.block 0 (.loop [0,1,12,13] z32))) (rg [xv 4 (kb true)] (.ret)))),[.tmp 4]⟩
def eD:ICode:=rg [xo 18 (.bin .lss (.t 17) (.t 16))] (.seq (cd 18 (kS [1,2,15,16,17]) (kq [] (.exit 0))) (.seq (.block 1 (rg [xm 19 17,xo 20 (.ix (some 6) (.t 15) (.t 17)),xo 21 (.load (some 6) (.t 20)),xo 8 (.lbox (some 6) (.k (.agg [ci 0,cs [],ci 0,cs [],.nils,.nils]))),xm 7 19,xn (.store (some 6) (.t 8) (.t 21))] (rg [xm 22 1,xm 23 7,xo 24 (.ix (some 6) (.t 22) (.t 23)),xo 25 (.load (some 6) (.t 24)),xo 9 (.lbox (some 6) (.k (.agg [ci 0,cs [],ci 0,cs [],.nils,.nils]))),xn (.store (some 6) (.t 9) (.t 25))] (rg [xm 26 2,xo 27 (.load (some 6) (.t 8)),xo 28 (.load (some 6) (.t 9)),xo 29 (.callv (.t 26) [.t 27,.t 28]),xo 30 (.un .not (.t 29))] (cd 30 (kq [] (rg [xv 6 (kb false)] (.ret))) (kS [1,2,15,16,17])))))) (.region [xo 31 (.bin .add (.t 17) (ki 1)),xm 17 31])))
def mN:IFn:=⟨rg [xv 6 (kb false)] (.seq (rg [xm 10 0,xo 11 (.len false (.t 10)),xm 12 1,xo 13 (.len false (.t 12)),xo 14 (.bin .neq (.t 11) (.t 13))] (cd 14 (kq [] (rg [xv 6 (kb false)] (.ret))) (kS [0,1,2]))) (.seq (rg [xm 15 0,xo 16 (.len false (.t 15)),xv 17 (ki 0)] (.block 0 (.loop [1,2,15,16,17] eD))) (rg [xv 6 (kb true)] (.ret)))),[.tmp 6]⟩
def zb0:ICode:=.seq (rg [xm 11 5,xm 12 0,xo 13 (.len false (.t 12)),xo 14 (.bin .lss (.t 11) (.t 13))] (cd 14 (kS [0,1,5]) (kq [] (.exit 0)))) (.seq (.block 1 (.seq (.regionD [(.pure,xm 17 0),(.pure,xm 18 5),(.rd,xo 19 (.ix none (.t 17) (.t 18))),(.rd,xl 20 19),(.pure,xm 21 1),(.pure,xm 22 5),(.rd,xo 23 (.ix none (.t 21) (.t 22))),(.rd,xl 24 23),(.pure,xo 25 (.bin .neq (.t 20) (.t 24)))]) (cd 25 (kq [] (rg [xv 4 (kb false)] (.ret))) (kS [0,1,5])))) (.region [xm 15 5,xo 16 (.bin .add (.t 15) (ki 1)),xm 5 16]))
def dC:IFn:=⟨rg [xv 4 (kb false)] (.seq (rg [xm 6 0,xo 7 (.len false (.t 6)),xm 8 1,xo 9 (.len false (.t 8)),xo 10 (.bin .neq (.t 7) (.t 9))] (cd 10 (kq [] (rg [xv 4 (kb false)] (.ret))) (kS [0,1]))) (.seq (rg [xv 5 (ki 0)] (.block 0 (.loop [0,1,5] zb0))) (rg [xv 4 (kb true)] (.ret)))),[.tmp 4]⟩
def zm6:ICode:=.seq (rg [xm 11 5,xm 12 0,xo 13 (.len false (.t 12)),xo 14 (.bin .lss (.t 11) (.t 13))] (cd 14 (kS [0,1,5]) (kq [] (.exit 0)))) (.seq (.block 1 (.seq (.regionD [(.pure,xm 17 0),(.pure,xm 18 5),(.rd,xo 19 (.ix (some 6) (.t 17) (.t 18))),(.rd,xo 20 (.load (some 6) (.t 19))),(.pure,xm 21 1),(.pure,xm 22 5),(.rd,xo 23 (.ix (some 6) (.t 21) (.t 22))),(.rd,xo 24 (.load (some 6) (.t 23))),(.rd,xo 25 (.call 7 [.t 20,.t 24])),(.pure,xo 26 (.un .not (.t 25)))]) (cd 26 (kq [] (rg [xv 4 (kb false)] (.ret))) (kS [0,1,5])))) (.region [xm 15 5,xo 16 (.bin .add (.t 15) (ki 1)),xm 5 16]))
def tN:IFn:=⟨rg [xv 4 (kb false)] (.seq (rg [xm 6 0,xo 7 (.len false (.t 6)),xm 8 1,xo 9 (.len false (.t 8)),xo 10 (.bin .neq (.t 7) (.t 9))] (cd 10 (kq [] (rg [xv 4 (kb false)] (.ret))) (kS [0,1]))) (.seq (rg [xv 5 (ki 0)] (.block 0 (.loop [0,1,5] zm6))) (rg [xv 4 (kb true)] (.ret)))),[.tmp 4]⟩
def eB:ICode:=.seq (rg [xm 137 10,xa 138 13 1,xl 139 138,xo 140 (.len false (.t 139)),xo 141 (.bin .lss (.t 137) (.t 140))] (cd 141 (kS [1,2,3,10]) (kq [1,2,3] (.exit 10)))) (.seq (.block 11 (.regionD [(.rdb 3,xo 144 (.load (some 3) (.t 3))),(.pure,xa 145 13 1),(.rdb 1,xl 146 145),(.pure,xm 147 10),(.rd,xo 148 (.ix (some 4) (.t 146) (.t 147))),(.rd,xo 149 (.load (some 4) (.t 148))),(.rd,xo 150 (.call 30 [.t 149])),(.rd,xo 151 (.call 24 [.t 144,.t 150])),(.wrb 3,xn (.store (some 3) (.t 3) (.t 151)))])) (.region [xm 142 10,xo 143 (.bin .add (.t 142) (ki 1)),xm 10 143]))
def zl0:ICode:=.seq (rg [xm 117 9,xa 118 11 1,xl 119 118,xo 120 (.len false (.t 119)),xo 121 (.bin .lss (.t 117) (.t 120))] (cd 121 (kS [1,2,3,9]) (kq [1,2,3] (.exit 8)))) (.seq (.block 9 (.seq (.regionD [(.rdb 3,xo 124 (.load (some 3) (.t 3))),(.pure,xa 125 11 1),(.rdb 1,xl 126 125),(.pure,xm 127 9),(.rd,xo 128 (.ix (some 15) (.t 126) (.t 127))),(.pure,xa 129 1 128),(.rd,xo 130 (.load (some 14) (.t 129))),(.rd,xo 131 (.call 17 [.t 130])),(.rd,xo 132 (.call 24 [.t 124,.t 131])),(.wrb 3,xn (.store (some 3) (.t 3) (.t 132)))]) (.region [xa 133 1 3,xl 134 133,xo 135 (.bin .add (.t 134) (ki 1)),xa 136 1 3,xn (.store none (.t 136) (.t 135))]))) (.region [xm 122 9,xo 123 (.bin .add (.t 122) (ki 1)),xm 9 123]))
def fN:ICode:=.seq (rg [xm 87 7,xa 88 10 1,xl 89 88,xo 90 (.len false (.t 89)),xo 91 (.bin .lss (.t 87) (.t 90))] (cd 91 (kS [1,2,3,7]) (kq [1,2,3] (.exit 6)))) (.seq (.block 7 (rg [xa 94 10 1,xl 95 94,xm 96 7,xo 97 (.ix (some 22) (.t 95) (.t 96)),xo 98 (.load (some 22) (.t 97)),xo 8 (.lbox (some 22) (.k (.agg [ci 0,ci 0,cs [],ci 0,cs [],.nils,.nils,ci 0,cs [],ci 0,cs [],.nils,.nils,.nils,.nils,.nils,.nils,.nils,.nils,.nils,.nils,.nils]))),xn (.store (some 22) (.t 8) (.t 98))] (.regionD [(.rdb 3,xo 99 (.load (some 3) (.t 3))),(.pure,xa 100 1 8),(.rdb 8,xo 101 (.load (some 6) (.t 100))),(.rd,xo 102 (.call 27 [.t 101])),(.pure,xa 103 7 8),(.rdb 8,xo 104 (.load (some 14) (.t 103))),(.rd,xo 105 (.call 17 [.t 104])),(.rd,xo 106 (.call 24 [.t 102,.t 105])),(.pure,xa 107 21 8),(.rdb 8,xl 108 107),(.rd,xo 109 (.call 25 [.t 108])),(.rd,xo 110 (.call 24 [.t 106,.t 109])),(.pure,xa 111 21 8),(.rdb 8,xl 112 111),(.pure,xo 113 (.len false (.t 112))),(.rd,xo 114 (.call 23 [.t 110,.t 113])),(.rd,xo 115 (.call 28 [.t 114])),(.rd,xo 116 (.call 24 [.t 99,.t 115])),(.wrb 3,xn (.store (some 3) (.t 3) (.t 116)))]))) (.region [xm 92 7,xo 93 (.bin .add (.t 92) (ki 1)),xm 7 93]))
def z06:ICode:=.seq (rg [xm 56 6,xa 57 8 1,xl 58 57,xo 59 (.len false (.t 58)),xo 60 (.bin .lss (.t 56) (.t 59))] (cd 60 (kS [1,2,3,6]) (kq [1,2,3] (.exit 4)))) (.seq (.block 5 (.regionD [(.rdb 3,xo 63 (.load (some 3) (.t 3))),(.pure,xa 64 8 1),(.rdb 1,xl 65 64),(.pure,xm 66 6),(.rd,xo 67 (.ix (some 8) (.t 65) (.t 66))),(.pure,xa 68 0 67),(.rd,xo 69 (.load (some 6) (.t 68))),(.rd,xo 70 (.call 27 [.t 69])),(.pure,xa 71 8 1),(.rdb 1,xl 72 71),(.pure,xm 73 6),(.rd,xo 74 (.ix (some 8) (.t 72) (.t 73))),(.pure,xa 75 6 74),(.rd,xl 76 75),(.pure,xa 77 8 1),(.rdb 1,xl 78 77),(.pure,xm 79 6),(.rd,xo 80 (.ix (some 8) (.t 78) (.t 79))),(.pure,xa 81 7 80),(.rd,xl 82 81),(.rd,xo 83 (.call 29 [.t 76,.t 82])),(.rd,xo 84 (.call 24 [.t 70,.t 83])),(.rd,xo 85 (.call 28 [.t 84])),(.rd,xo 86 (.call 24 [.t 63,.t 85])),(.wrb 3,xn (.store (some 3) (.t 3) (.t 86)))])) (.region [xm 61 6,xo 62 (.bin .add (.t 61) (ki 1)),xm 6 62]))
def zc9:ICode:=.seq (rg [xm 41 5,xa 42 7 1,xl 43 42,xo 44 (.len false (.t 43)),xo 45 (.bin .lss (.t 41) (.t 44))] (cd 45 (kS [1,2,3,5]) (kq [1,2,3] (.exit 2)))) (.seq (.block 3 (.regionD [(.rdb 3,xo 48 (.load (some 3) (.t 3))),(.pure,xa 49 7 1),(.rdb 1,xl 50 49),(.pure,xm 51 5),(.rd,xo 52 (.ix (some 6) (.t 50) (.t 51))),(.rd,xo 53 (.load (some 6) (.t 52))),(.rd,xo 54 (.call 27 [.t 53])),(.rd,xo 55 (.call 24 [.t 48,.t 54])),(.wrb 3,xn (.store (some 3) (.t 3) (.t 55)))])) (.region [xm 46 5,xo 47 (.bin .add (.t 46) (ki 1)),xm 5 47]))
def zi9:ICode:=.seq (rg [xm 26 4,xa 27 4 1,xl 28 27,xo 29 (.len false (.t 28)),xo 30 (.bin .lss (.t 26) (.t 29))] (cd 30 (kS [1,2,3,4]) (kq [1,2,3] (.exit 0)))) (.seq (.block 1 (.regionD [(.rdb 3,xo 33 (.load (some 3) (.t 3))),(.pure,xa 34 4 1),(.rdb 1,xl 35 34),(.pure,xm 36 4),(.rd,xo 37 (.ix (some 14) (.t 35) (.t 36))),(.rd,xo 38 (.load (some 14) (.t 37))),(.rd,xo 39 (.call 17 [.t 38])),(.rd,xo 40 (.call 24 [.t 33,.t 39])),(.wrb 3,xn (.store (some 3) (.t 3) (.t 40)))])) (.region [xm 31 4,xo 32 (.bin .add (.t 31) (ki 1)),xm 4 32]))
def nX:IFn:=⟨rg [xo 1 (.lbox (some 14) (.t 0)),xo 2 (.lbox (some 3) (.k (.c (.agg [.int .i64 0,.int .i64 0,.bool false]))))] (.seq (rg [xa 11 0 1,xl 12 11,xo 13 (.bin .eql (.t 12) (ki 0))] (cd 13 (kq [2] (rg [xo 14 (.build [ci 0,ci 0,cB false] []),xn (.store (some 3) (.t 2) (.t 14))] (.ret))) (kS [1,2]))) (.seq (.regionD [(.pure,xa 15 9 1),(.rdb 1,xl 16 15),(.rd,xo 17 (.call 25 [.t 16])),(.pure,xa 18 12 1),(.rdb 1,xl 19 18),(.rd,xo 20 (.call 26 [.t 19])),(.rd,xo 21 (.call 24 [.t 17,.t 20])),(.pure,xa 22 9 1),(.rdb 1,xl 23 22),(.pure,xo 24 (.len false (.t 23))),(.rd,xo 25 (.call 23 [.t 21,.t 24])),(.lb,xo 3 (.lbox (some 3) (.k (.c (.agg [.int .i64 0,.int .i64 0,.bool false]))))),(.wrb 3,xn (.store (some 3) (.t 3) (.t 25)))]) (.seq (rg [xv 4 (ki 0)] (.block 0 (.loop [1,2,3,4] zi9))) (.seq (rg [xv 5 (ki 0)] (.block 2 (.loop [1,2,3,5] zc9))) (.seq (rg [xv 6 (ki 0)] (.block 4 (.loop [1,2,3,6] z06))) (.seq (rg [xv 7 (ki 0)] (.block 6 (.loop [1,2,3,7] fN))) (.seq (rg [xv 9 (ki 0)] (.block 8 (.loop [1,2,3,9] zl0))) (.seq (rg [xv 10 (ki 0)] (.block 10 (.loop [1,2,3,10] eB))) (.seq (rg [xa 152 0 1,xl 153 152,xo 154 (.bin .eql (.t 153) (ki 5))] (cd 154 (kq [1,2,3] (.region [xo 155 (.load (some 3) (.t 3)),xa 156 3 1,xl 157 156,xe 158 157,xo 159 (.call 23 [.t 155,.t 158]),xn (.store (some 3) (.t 3) (.t 159))])) (kS [1,2,3]))) (.seq (rg [xa 160 0 1,xl 161 160,xo 162 (.bin .eql (.t 161) (ki 15))] (cd 162 (kq [1,2,3] (.region [xo 163 (.load (some 3) (.t 3)),xa 164 4 1,xl 165 164,xo 166 (.len false (.t 165)),xo 167 (.call 23 [.t 163,.t 166]),xn (.store (some 3) (.t 3) (.t 167))])) (kS [1,2,3]))) (.seq (.regionD [(.rdb 3,xo 168 (.load (some 3) (.t 3))),(.pure,xa 169 8 1),(.rdb 1,xl 170 169),(.pure,xo 171 (.len false (.t 170))),(.rd,xo 172 (.call 23 [.t 168,.t 171])),(.pure,xa 173 10 1),(.rdb 1,xl 174 173),(.pure,xo 175 (.len false (.t 174))),(.rd,xo 176 (.call 23 [.t 172,.t 175])),(.rd,xo 177 (.call 28 [.t 176])),(.wrb 2,xn (.store (some 3) (.t 2) (.t 177)))]) (.ret)))))))))))),[.cell 2 (some 3)]⟩
def cF:IFn:=⟨rg [xo 2 (.lbox (some 3) (.t 0)),xo 4 (.lbox (some 3) (.k (.c (.agg [.int .i64 0,.int .i64 0,.bool false]))))] (rg [xa 5 2 2,xl 6 5,xm 7 6,gf 8 7 1,xf 9 7 (.bin .gtr (.t 8) (ki 200)),xp 10 7 9,xa 11 2 2,xn (.store none (.t 11) (.t 10))] (rg [xo 12 (.load (some 3) (.t 2)),xn (.store (some 3) (.t 4) (.t 12))] (.ret))),[.cell 4 (some 3)]⟩
def sO:IFn:=⟨rg [xo 2 (.lbox (some 3) (.t 0)),xo 3 (.lbox (some 3) (.t 1)),xo 4 (.lbox (some 3) (.k (.c (.agg [.int .i64 0,.int .i64 0,.bool false]))))] (rg [xa 5 0 2,xl 6 5,xa 7 0 3,xl 8 7,xo 9 (.mx true (.t 6) (.t 8)),xa 10 1 2,xl 11 10,xa 12 1 3,xl 13 12,xo 14 (.bin .add (.t 11) (.t 13)),xa 15 2 2,xl 16 15,xm 17 16,xf 18 17 (.faddr 2 (.t 3)),xf 19 17 (.load none (.t 18)),xp 20 17 19,xo 21 (.build [ci 0,ci 0,cB false] [(0,1,.t 9),(1,1,.t 14),(2,1,.t 20)]),xn (.store (some 3) (.t 4) (.t 21))] (.ret)),[.cell 4 (some 3)]⟩
def z63:ICode:=.seq (rg [xm 6 4,xm 7 0,xo 8 (.len false (.t 7)),xo 9 (.bin .lss (.t 6) (.t 8))] (cd 9 (kS [0,2,3,4]) (kq [2,3] (.exit 0)))) (.seq (.block 1 (.regionD [(.rdb 3,xo 12 (.load (some 3) (.t 3))),(.pure,xm 13 0),(.pure,xm 14 4),(.rd,xo 15 (.ix (some 23) (.t 13) (.t 14))),(.rd,xo 16 (.load (some 23) (.t 15))),(.rd,xo 17 (.call 78 [.t 16])),(.rd,xo 18 (.call 24 [.t 12,.t 17])),(.wrb 3,xn (.store (some 3) (.t 3) (.t 18)))])) (.region [xm 10 4,xo 11 (.bin .add (.t 10) (ki 1)),xm 4 11]))
def nV:IFn:=⟨rg [xo 2 (.lbox (some 3) (.k (.c (.agg [.int .i64 0,.int .i64 0,.bool false]))))] (rg [xo 5 (.build [ci 0,ci 0,cB false] []),xo 3 (.lbox (some 3) (.k (.c (.agg [.int .i64 0,.int .i64 0,.bool false])))),xn (.store (some 3) (.t 3) (.t 5))] (.seq (rg [xv 4 (ki 0)] (.block 0 (.loop [0,2,3,4] z63))) (rg [xo 19 (.load (some 3) (.t 3)),xn (.store (some 3) (.t 2) (.t 19))] (.ret)))),[.cell 2 (some 3)]⟩
def iZ:ICode:=.seq (rg [xm 6 4,xm 7 0,xo 8 (.len false (.t 7)),xo 9 (.bin .lss (.t 6) (.t 8))] (cd 9 (kS [0,2,3,4]) (kq [2,3] (.exit 0)))) (.seq (.block 1 (rg [xa 12 1 3,xl 13 12,xo 14 (.bin .add (.t 13) (ki 1)),xa 15 1 3,xn (.store none (.t 15) (.t 14))] (.regionD [(.rdb 3,xo 16 (.load (some 3) (.t 3))),(.pure,xm 17 0),(.pure,xm 18 4),(.rd,xo 19 (.ix (some 5) (.t 17) (.t 18))),(.pure,xa 20 1 19),(.rd,xo 21 (.load (some 4) (.t 20))),(.rd,xo 22 (.call 30 [.t 21])),(.rd,xo 23 (.call 24 [.t 16,.t 22])),(.wrb 3,xn (.store (some 3) (.t 3) (.t 23)))]))) (.region [xm 10 4,xo 11 (.bin .add (.t 10) (ki 1)),xm 4 11]))
def aD:IFn:=⟨rg [xo 2 (.lbox (some 3) (.k (.c (.agg [.int .i64 0,.int .i64 0,.bool false]))))] (rg [xo 5 (.build [ci 0,ci 0,cB false] []),xo 3 (.lbox (some 3) (.k (.c (.agg [.int .i64 0,.int .i64 0,.bool false])))),xn (.store (some 3) (.t 3) (.t 5))] (.seq (rg [xv 4 (ki 0)] (.block 0 (.loop [0,2,3,4] iZ))) (rg [xo 24 (.load (some 3) (.t 3)),xn (.store (some 3) (.t 2) (.t 24))] (.ret)))),[.cell 2 (some 3)]⟩
def oQ:ICode:=.seq (rg [xm 10 4,xa 11 4 1,xl 12 11,xo 13 (.len false (.t 12)),xo 14 (.bin .lss (.t 10) (.t 13))] (cd 14 (kS [1,2,3,4]) (kq [1,2,3] (.exit 0)))) (.seq (.block 1 (.regionD [(.rdb 3,xo 17 (.load (some 3) (.t 3))),(.pure,xa 18 4 1),(.rdb 1,xl 19 18),(.pure,xm 20 4),(.rd,xo 21 (.ix (some 6) (.t 19) (.t 20))),(.rd,xo 22 (.load (some 6) (.t 21))),(.rd,xo 23 (.call 27 [.t 22])),(.rd,xo 24 (.call 24 [.t 17,.t 23])),(.wrb 3,xn (.store (some 3) (.t 3) (.t 24)))])) (.region [xm 15 4,xo 16 (.bin .add (.t 15) (ki 1)),xm 4 16]))
def dL:IFn:=⟨rg [xo 1 (.lbox (some 6) (.t 0)),xo 2 (.lbox (some 3) (.k (.c (.agg [.int .i64 0,.int .i64 0,.bool false]))))] (.seq (rg [xa 5 0 1,xl 6 5,xo 7 (.bin .eql (.t 6) (ki 0))] (cd 7 (kq [2] (rg [xo 8 (.build [ci 0,ci 0,cB false] []),xn (.store (some 3) (.t 2) (.t 8))] (.ret))) (kS [1,2]))) (rg [xo 9 (.build [ci 0,ci 0,cB false] []),xo 3 (.lbox (some 3) (.k (.c (.agg [.int .i64 0,.int .i64 0,.bool false])))),xn (.store (some 3) (.t 3) (.t 9))] (.seq (rg [xv 4 (ki 0)] (.block 0 (.loop [1,2,3,4] oQ))) (.seq (rg [xa 25 0 1,xl 26 25,xo 27 (.bin .eql (.t 26) (ki 5))] (cd 27 (kq [1,2,3] (.region [xo 28 (.load (some 3) (.t 3)),xa 29 3 1,xl 30 29,xe 31 30,xo 32 (.call 23 [.t 28,.t 31]),xn (.store (some 3) (.t 3) (.t 32))])) (kS [1,2,3]))) (.seq (rg [xa 33 0 1,xl 34 33,xo 35 (.bin .eql (.t 34) (ki 8))] (cd 35 (kq [1,2,3] (.region [xo 36 (.load (some 3) (.t 3)),xa 37 4 1,xl 38 37,xo 39 (.len false (.t 38)),xo 40 (.call 23 [.t 36,.t 39]),xn (.store (some 3) (.t 3) (.t 40))])) (kS [2,3]))) (rg [xo 41 (.load (some 3) (.t 3)),xo 42 (.call 28 [.t 41]),xn (.store (some 3) (.t 2) (.t 42))] (.ret))))))),[.cell 2 (some 3)]⟩
def aN:IFn:=⟨rg [xo 1 (.lbox (some 3) (.t 0)),xo 2 (.lbox (some 3) (.k (.c (.agg [.int .i64 0,.int .i64 0,.bool false]))))] (rg [xa 3 0 1,xl 4 3,xo 5 (.bin .add (.t 4) (ki 1)),xa 6 1 1,xl 7 6,xo 8 (.bin .add (.t 7) (ki 1)),xa 9 2 1,xl 10 9,xo 11 (.build [ci 0,ci 0,cB false] [(0,1,.t 5),(1,1,.t 8),(2,1,.t 10)]),xn (.store (some 3) (.t 2) (.t 11))] (.ret)),[.cell 2 (some 3)]⟩
def eP:ICode:=.seq (rg [xm 26 8,xm 27 0,xm 28 6,xo 29 (.ix (some 15) (.t 27) (.t 28)),xa 30 0 29,xl 31 30,xo 32 (.len false (.t 31)),xo 33 (.bin .lss (.t 26) (.t 32))] (cd 33 (kS [0,4,5,6,7,8]) (kq [0,4,5,6,7] (.exit 2)))) (.seq (.block 3 (.regionD [(.rdb 7,xo 36 (.load (some 3) (.t 7))),(.pure,xm 37 0),(.pure,xm 38 6),(.rd,xo 39 (.ix (some 15) (.t 37) (.t 38))),(.pure,xa 40 0 39),(.rd,xl 41 40),(.pure,xm 42 8),(.rd,xo 43 (.ix (some 14) (.t 41) (.t 42))),(.rd,xo 44 (.load (some 14) (.t 43))),(.rd,xo 45 (.call 17 [.t 44])),(.rd,xo 46 (.call 24 [.t 36,.t 45])),(.wrb 7,xn (.store (some 3) (.t 7) (.t 46)))])) (.region [xm 34 8,xo 35 (.bin .add (.t 34) (ki 1)),xm 8 35]))
def oU:ICode:=.seq (rg [xm 14 6,xm 15 0,xo 16 (.len false (.t 15)),xo 17 (.bin .lss (.t 14) (.t 16))] (cd 17 (kS [0,4,5,6]) (kq [4,5] (.exit 0)))) (.seq (.block 1 (rg [xm 20 0,xm 21 6,xo 22 (.ix (some 15) (.t 20) (.t 21)),xa 23 1 22,xo 24 (.load (some 14) (.t 23)),xo 25 (.call 17 [.t 24]),xo 7 (.lbox (some 3) (.k (.c (.agg [.int .i64 0,.int .i64 0,.bool false])))),xn (.store (some 3) (.t 7) (.t 25))] (.seq (rg [xv 8 (ki 0)] (.block 2 (.loop [0,4,5,6,7,8] eP))) (.regionD [(.rdb 5,xo 47 (.load (some 3) (.t 5))),(.rdb 7,xo 48 (.load (some 3) (.t 7))),(.rd,xo 49 (.call 28 [.t 48])),(.rd,xo 50 (.call 24 [.t 47,.t 49])),(.wrb 5,xn (.store (some 3) (.t 5) (.t 50)))])))) (.region [xm 18 6,xo 19 (.bin .add (.t 18) (ki 1)),xm 6 19]))
def zk6:IFn:=⟨rg [xo 4 (.lbox (some 3) (.k (.c (.agg [.int .i64 0,.int .i64 0,.bool false]))))] (rg [xm 9 1,xo 10 (.call 25 [.t 9]),xm 11 1,xo 12 (.len false (.t 11)),xo 13 (.call 23 [.t 10,.t 12]),xo 5 (.lbox (some 3) (.k (.c (.agg [.int .i64 0,.int .i64 0,.bool false])))),xn (.store (some 3) (.t 5) (.t 13))] (.seq (rg [xv 6 (ki 0)] (.block 0 (.loop [0,4,5,6] oU))) (rg [xo 51 (.load (some 3) (.t 5)),xn (.store (some 3) (.t 4) (.t 51))] (.ret)))),[.cell 4 (some 3)]⟩
def zh2:IFn:=⟨rg [xo 1 (.lbox (some 4) (.t 0)),xo 2 (.lbox (some 3) (.k (.c (.agg [.int .i64 0,.int .i64 0,.bool false]))))] (.seq (rg [xa 3 0 1,xl 4 3,xo 5 (.bin .eql (.t 4) (ki 0))] (cd 5 (kq [2] (rg [xo 6 (.build [ci 0,ci 0,cB false] []),xn (.store (some 3) (.t 2) (.t 6))] (.ret))) (kS [1,2]))) (rg [xo 7 (.load (some 4) (.t 1)),xo 8 (.call 79 [.t 7]),xo 9 (.build [ci 0,ci 0,cB false] [(1,1,.t 8)]),xn (.store (some 3) (.t 2) (.t 9))] (.ret))),[.cell 2 (some 3)]⟩
def iF:ICode:=.seq (rg [xm 93 8,xa 94 14 1,xl 95 94,xm 96 6,xo 97 (.ix (some 3) (.t 95) (.t 96)),xa 98 0 97,xl 99 98,xo 100 (.len false (.t 99)),xo 101 (.bin .lss (.t 93) (.t 100))] (cd 101 (kS [1,2,3,6,7,8]) (kq [1,2,3,6,7] (.exit 6)))) (.seq (.block 7 (.regionD [(.rdb 7,xo 104 (.load (some 3) (.t 7))),(.pure,xa 105 14 1),(.rdb 1,xl 106 105),(.pure,xm 107 6),(.rd,xo 108 (.ix (some 3) (.t 106) (.t 107))),(.pure,xa 109 0 108),(.rd,xl 110 109),(.pure,xm 111 8),(.rd,xo 112 (.ix (some 6) (.t 110) (.t 111))),(.rd,xo 113 (.load (some 6) (.t 112))),(.rd,xo 114 (.call 27 [.t 113])),(.rd,xo 115 (.call 24 [.t 104,.t 114])),(.wrb 7,xn (.store (some 3) (.t 7) (.t 115)))])) (.region [xm 102 8,xo 103 (.bin .add (.t 102) (ki 1)),xm 8 103]))
def eT:ICode:=.seq (rg [xm 73 6,xa 74 14 1,xl 75 74,xo 76 (.len false (.t 75)),xo 77 (.bin .lss (.t 73) (.t 76))] (cd 77 (kS [1,2,3,6]) (kq [2,3] (.exit 4)))) (.seq (.block 5 (.seq (.regionD [(.pure,xa 80 14 1),(.rdb 1,xl 81 80),(.pure,xm 82 6),(.rd,xo 83 (.ix (some 3) (.t 81) (.t 82))),(.pure,xa 84 1 83),(.rd,xl 85 84),(.pure,xa 86 14 1),(.rdb 1,xl 87 86),(.pure,xm 88 6),(.rd,xo 89 (.ix (some 3) (.t 87) (.t 88))),(.pure,xa 90 2 89),(.rd,xl 91 90),(.rd,xo 92 (.call 29 [.t 85,.t 91])),(.lb,xo 7 (.lbox (some 3) (.k (.c (.agg [.int .i64 0,.int .i64 0,.bool false]))))),(.wrb 7,xn (.store (some 3) (.t 7) (.t 92)))]) (.seq (rg [xv 8 (ki 0)] (.block 6 (.loop [1,2,3,6,7,8] iF))) (.regionD [(.rdb 3,xo 116 (.load (some 3) (.t 3))),(.rdb 7,xo 117 (.load (some 3) (.t 7))),(.rd,xo 118 (.call 28 [.t 117])),(.rd,xo 119 (.call 24 [.t 116,.t 118])),(.wrb 3,xn (.store (some 3) (.t 3) (.t 119)))])))) (.region [xm 78 6,xo 79 (.bin .add (.t 78) (ki 1)),xm 6 79]))
def zs1:ICode:=.seq (rg [xm 50 5,xa 51 5 1,xl 52 51,xm 53 4,xo 54 (.ix (some 3) (.t 52) (.t 53)),xa 55 1 54,xl 56 55,xo 57 (.len false (.t 56)),xo 58 (.bin .lss (.t 50) (.t 57))] (cd 58 (kS [1,2,3,4,5]) (kq [1,2,3,4] (.exit 2)))) (.seq (.block 3 (.regionD [(.rdb 3,xo 61 (.load (some 3) (.t 3))),(.pure,xa 62 5 1),(.rdb 1,xl 63 62),(.pure,xm 64 4),(.rd,xo 65 (.ix (some 3) (.t 63) (.t 64))),(.pure,xa 66 1 65),(.rd,xl 67 66),(.pure,xm 68 5),(.rd,xo 69 (.ix (some 4) (.t 67) (.t 68))),(.rd,xo 70 (.load (some 4) (.t 69))),(.rd,xo 71 (.call 30 [.t 70])),(.rd,xo 72 (.call 24 [.t 61,.t 71])),(.wrb 3,xn (.store (some 3) (.t 3) (.t 72)))])) (.region [xm 59 5,xo 60 (.bin .add (.t 59) (ki 1)),xm 5 60]))
def fU:ICode:=.seq (rg [xm 39 4,xa 40 5 1,xl 41 40,xo 42 (.len false (.t 41)),xo 43 (.bin .lss (.t 39) (.t 42))] (cd 43 (kS [1,2,3,4]) (kq [1,2,3] (.exit 0)))) (.seq (.block 1 (rg [xa 46 1 3,xl 47 46,xo 48 (.bin .add (.t 47) (ki 1)),xa 49 1 3,xn (.store none (.t 49) (.t 48))] (rg [xv 5 (ki 0)] (.block 2 (.loop [1,2,3,4,5] zs1))))) (.region [xm 44 4,xo 45 (.bin .add (.t 44) (ki 1)),xm 4 45]))
def z22:IFn:=⟨rg [xo 1 (.lbox (some 23) (.t 0)),xo 2 (.lbox (some 3) (.k (.c (.agg [.int .i64 0,.int .i64 0,.bool false]))))] (.seq (.regionD [(.pure,xa 9 7 1),(.rdb 1,xl 10 9),(.rd,xo 11 (.call 26 [.t 10])),(.pure,xa 12 9 1),(.rdb 1,xo 13 (.load (some 4) (.t 12))),(.rd,xo 14 (.call 30 [.t 13])),(.rd,xo 15 (.call 24 [.t 11,.t 14])),(.pure,xa 16 15 1),(.rdb 1,xo 17 (.load (some 6) (.t 16))),(.rd,xo 18 (.call 27 [.t 17])),(.pure,xa 19 21 1),(.rdb 1,xl 20 19),(.pure,xa 21 22 1),(.rdb 1,xl 22 21),(.rd,xo 23 (.call 29 [.t 20,.t 22])),(.rd,xo 24 (.call 24 [.t 18,.t 23])),(.rd,xo 25 (.call 24 [.t 15,.t 24])),(.lb,xo 3 (.lbox (some 3) (.k (.c (.agg [.int .i64 0,.int .i64 0,.bool false]))))),(.wrb 3,xn (.store (some 3) (.t 3) (.t 25)))]) (.seq (.regionD [(.rdb 3,xo 26 (.load (some 3) (.t 3))),(.pure,xa 27 13 1),(.rdb 1,xl 28 27),(.rd,xo 29 (.call 25 [.t 28])),(.rd,xo 30 (.call 24 [.t 26,.t 29])),(.pure,xa 31 13 1),(.rdb 1,xl 32 31),(.pure,xo 33 (.len false (.t 32))),(.rd,xo 34 (.call 23 [.t 30,.t 33])),(.pure,xa 35 14 1),(.rdb 1,xl 36 35),(.pure,xo 37 (.len false (.t 36))),(.rd,xo 38 (.call 23 [.t 34,.t 37])),(.wrb 3,xn (.store (some 3) (.t 3) (.t 38)))]) (.seq (rg [xv 4 (ki 0)] (.block 0 (.loop [1,2,3,4] fU))) (.seq (rg [xv 6 (ki 0)] (.block 4 (.loop [1,2,3,6] eT))) (rg [xo 120 (.load (some 3) (.t 3)),xo 121 (.call 28 [.t 120]),xn (.store (some 3) (.t 2) (.t 121))] (.ret)))))),[.cell 2 (some 3)]⟩
def vR:List (Nat×IFn)->Nat->Option IFn
 | [],_=>none
 | (k,g)::r,n=>bif Nat.beq k n then some g else vR r n
theorem rB:∀ {l:List (Nat×IFn)} {n:Nat} {g:IFn},vR l n=some g->(n,g)∈l
 | (k,g')::r,n,g,h=>by
   unfold vR at h;cases hb:Nat.beq k n with
   | true=>
     rw [hb] at h;injection h with h;have:=Nat.eq_of_beq_eq_true hb;subst h;subst this;exact List.mem_cons_self
   | false=>rw [hb] at h;exact List.mem_cons_of_mem _ (rB h)
def fnL:List (Nat×IFn):=[(3,ic3),(4,ic4),(6,ic6),(7,ic7),(8,ic8),(9,ic9),(13,dV),(14,mN),(15,dC),(16,tN),(17,nX),(23,cF),(24,sO),(25,nV),(26,aD),(27,dL),(28,aN),(29,zk6),(30,zh2),(78,z22)]
def fnT (n:Nat):Option IFn:=vR fnL n
theorem zy4:∀ f g,fnT f=some g->(Go.Proofs.Tryz.prog.funcs[f]?).bind (wR Go.Proofs.Tryz.prog mds)=some g:=by
 intro f g h;have hm:=rB h;simp only [fnL,List.mem_cons,List.not_mem_nil,or_false,Prod.mk.injEq] at hm;rcases hm with ⟨rfl,rfl⟩ | ⟨rfl,rfl⟩ | ⟨rfl,rfl⟩ | ⟨rfl,rfl⟩ | ⟨rfl,rfl⟩ | ⟨rfl,rfl⟩ | ⟨rfl,rfl⟩ | ⟨rfl,rfl⟩ | ⟨rfl,rfl⟩ | ⟨rfl,rfl⟩ | ⟨rfl,rfl⟩ | ⟨rfl,rfl⟩ | ⟨rfl,rfl⟩ | ⟨rfl,rfl⟩ | ⟨rfl,rfl⟩ | ⟨rfl,rfl⟩ | ⟨rfl,rfl⟩ | ⟨rfl,rfl⟩ | ⟨rfl,rfl⟩ | ⟨rfl,rfl⟩
 all_goals (show (Go.Proofs.Tryz.prog.funcs[_]?).bind (wR Go.Proofs.Tryz.prog mds)=some _;kernel_rfl)
end Go.Proofs.TryzL
