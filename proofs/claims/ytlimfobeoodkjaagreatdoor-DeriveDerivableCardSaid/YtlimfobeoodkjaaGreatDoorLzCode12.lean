/- The small code of the functions that the laws reach, a5 the kernel reckons it (printed by gencode.py). -/
import Derived.Test.YtlimfobeoodkjaaGreatDoorLzEv
import Derived.Test.YtlimfobeoodkjaaGreatDoorLzComp
import Derived.Test.YtlimfobeoodkjaaGreatDoorProg
import Derived.KernelRfl
namespace Go.Proofs.Lz
def Le {α:Type} (a b:Option α):Prop:=∀ r,a=some r->b=some r
theorem Le.refl {α:Type} (a:Option α):Le a a:=fun _ h=>h
theorem Le.trans {α:Type} {a b c:Option α} (h:Le a b) (k:Le b c):Le a c:=fun r hr=>k r (h r hr)
open Classical in
noncomputable def lub {α:Type} (g:Nat->Option α):Option α:=
 if h:∃ n r,g n=some r then g (Classical.choose h) else none
theorem pA {α:Type} {g:Nat->Option α} {r:α} (h:lub g=some r):∃ n,g n=some r:=by
 unfold lub at h;split at h
 . exact ⟨_,h⟩
 . cases h
theorem gJ {α:Type} {g:Nat->Option α} (hm:∀ n,Le (g n) (g (n+1))) {n:Nat} {r:α} (h:g n=some r):lub g=some r:=by
 have hle:∀ k m,Le (g m) (g (m+k)):=by
  intro k;induction k with
  | zero=>intro m;exact Le.refl _
  | succ k ih=>intro m;exact (ih m).trans (hm (m+k))
 have hex:∃ n r,g n=some r:=⟨n,r,h⟩;unfold lub;rw [dif_pos hex];obtain ⟨r',hr'⟩:=Classical.choose_spec hex;generalize Classical.choose hex=m at hr' ⊢;have h1:g (m+n)=some r':=hle n m _ hr';have h2:g (n+m)=some r:=hle m n _ h;rw [Nat.add_comm] at h2;rw [hr',<-h1,h2]
def F6 (c c':j8):Prop:=∀ f a H,Le (c f a H) (c' f a H)
def qD (s s':Run):Prop:=∀ fr H,Le (s fr H) (s' fr H)
theorem kN {E:Env} {c c':j8} (h:F6 c c'):F6 (l0 E c) (l0 E c'):=by
 intro f a H r hr;unfold l0 at hr ⊢;cases hm:E.md f with
 | S=>rw [hm] at hr;exact h _ _ _ _ hr
 | P=>
   rw [hm] at hr;dsimp only at hr ⊢;cases ha:a8 H a with
   | none=>rw [ha] at hr;cases hr
   | some a5=>
     rw [ha] at hr;dsimp only at hr ⊢;cases hc:c f a5 [] with
     | none=>rw [hc] at hr;cases hr
     | some p=>rw [hc] at hr;rw [h _ _ _ _ hc];exact hr
theorem bN {E:Env} {c c':j8} (h:F6 c c') (o:IOp) (dst:Option Nat) (fr:Fr) (H:q7):Le (f8 E c o dst fr H) (f8 E c' o dst fr H):=by
 intro r hr;unfold f8 at hr ⊢;split at hr
 . rename_i f args;unfold F4 at hr ⊢;cases hc:l0 E c f (args.map fr.opd) H with
   | none=>rw [hc] at hr;cases hr
   | some p=>rw [hc] at hr;rw [kN h _ _ _ _ hc];exact hr
 . rename_i x args;cases ht:Z1 (fr.opd x) (args.map fr.opd) with
   | none=>rw [ht] at hr;cases hr
   | some p=>
     rw [ht] at hr;unfold F4 at hr ⊢;dsimp only at hr ⊢;cases hc:l0 E c p.1 p.2 H with
     | none=>rw [hc] at hr;cases hr
     | some q=>rw [hc] at hr;rw [kN h _ _ _ _ hc];exact hr
 . exact hr
theorem zn9 {E:Env} {c c':j8} (h:F6 c c') (o:IOper) (fr:Fr) (H:q7):Le (stp E c o fr H) (stp E c' o fr H):=by
 intro r hr;unfold stp at hr ⊢;cases hg:o.guard with
 | none=>rw [hg] at hr;exact bN h _ _ _ _ _ hr
 | some g=>
   rw [hg] at hr;obtain ⟨s,want⟩:=g;dsimp only at hr ⊢;split at hr
   . split at hr
     . rename_i hb;rw [if_pos hb];exact bN h _ _ _ _ _ hr
     . rename_i hb;rw [if_neg hb];exact hr
   . exact hr
   . cases hr
theorem zv5 {E:Env} {c c':j8} (h:F6 c c') (ops:List IOper):∀ (fr:Fr) (H:q7),Le (K0 E c ops fr H) (K0 E c' ops fr H):=by
 induction ops with
 | nil=>intro fr H;exact Le.refl _
 | cons o ops ih=>
   intro fr H r hr;unfold K0 at hr ⊢;cases hs:stp E c o fr H with
   | none=>rw [hs] at hr;cases hr
   | some p=>rw [hs] at hr;rw [zn9 h _ _ _ _ hs];exact ih _ _ _ hr
theorem lE {E:Env} {c c':j8} (h:F6 c c') (cl:Cls) (o:IOp) (dst:Option Nat) (fr:Fr) (H:q7):Le (doD E c cl o dst fr H) (doD E c' cl o dst fr H):=by
 intro r hr;unfold doD at hr ⊢;split at hr
 . exact hr
 . exact hr
 . exact hr
 . split at hr<;>first
    | exact hr
    | (rename_i f args
       split at hr
       . rename_i hm;rw [if_pos hm];cases hc:l0 E c f (args.map fr.opd) H with
         | none=>rw [hc] at hr;cases hr
         | some p=>rw [hc] at hr;rw [kN h _ _ _ _ hc];exact hr
       . cases hr)
 . split at hr<;>first
    | exact hr
    | exact bN h _ _ _ _ _ hr
 . exact hr
 . exact hr
 . exact hr
theorem eM {E:Env} {c c':j8} (h:F6 c c') (cl:Cls) (o:IOper) (fr:Fr) (H:q7):Le (B2 E c cl o fr H) (B2 E c' cl o fr H):=by
 intro r hr;unfold B2 at hr ⊢;cases hg:o.guard with
 | none=>rw [hg] at hr;exact lE h _ _ _ _ _ _ hr
 | some g=>
   rw [hg] at hr;obtain ⟨s,want⟩:=g;dsimp only at hr ⊢;split at hr
   . split at hr
     . rename_i hb;rw [if_pos hb];exact lE h _ _ _ _ _ _ hr
     . rename_i hb;rw [if_neg hb];exact hr
   . exact hr
   . cases hr
theorem lT {E:Env} {c c':j8} (h:F6 c c') (cl:Cls) (o:IOper) (fr:Fr) (H:q7):Le (c7 E c cl o fr H) (c7 E c' cl o fr H):=by
 intro r hr;unfold c7 at hr ⊢;split at hr
 . rename_i hd;rw [if_pos hd];cases hs:B2 E c cl o fr H with
   | none=>rw [hs] at hr;cases hr
   | some p=>rw [hs] at hr;rw [eM h _ _ _ _ _ hs];exact hr
 . cases hr
theorem zj2 {E:Env} {c c':j8} (h:F6 c c') (ops:List (Cls×IOper)):∀ (fr:Fr) (H:q7),Le (E7 E c ops fr H) (E7 E c' ops fr H):=by
 induction ops with
 | nil=>intro fr H;exact Le.refl _
 | cons o ops ih=>
   intro fr H r hr;obtain ⟨cl,o⟩:=o;unfold E7 at hr ⊢;cases hs:c7 E c cl o fr H with
   | none=>rw [hs] at hr;cases hr
   | some p=>rw [hs] at hr;rw [lT h _ _ _ _ _ hs];exact ih _ _ _ hr
theorem oY (l:Nat) {a b:Option (Ex×Fr×q7)} (h:Le a b):Le (I6 l a) (I6 l b):=by
 intro r hr;cases a with
 | none=>cases hr
 | some q=>rw [h _ rfl];exact hr
theorem z73 (l:Nat) {a b:Option (Ex×Fr×q7)} (h:Le a b):Le (M3 l a) (M3 l b):=by
 intro r hr;cases a with
 | none=>cases hr
 | some q=>rw [h _ rfl];exact hr
theorem zu3 {E:Env} {c c':j8} (h:F6 c c') (ops:List (Cls×IOper)):∀ (fr:Fr) (H:q7),Le (M5 E c ops fr H) (M5 E c' ops fr H):=by
 induction ops with
 | nil=>intro fr H;exact Le.refl _
 | cons x ops ih=>
   obtain ⟨cl,o⟩:=x;intro fr H r hr;unfold M5 at hr ⊢;cases hs:c7 E c cl o fr H with
   | none=>rw [hs] at hr;cases hr
   | some p=>
     rw [hs] at hr;rw [lT h _ _ _ _ _ hs];dsimp only at hr ⊢;cases hq:M5 E c ops p.1 p.2 with
     | none=>rw [hq] at hr;cases hr
     | some q=>rw [hq] at hr;rw [ih _ _ _ hq];exact hr
theorem z40 {E:Env} {c c':j8} (h:F6 c c') (ops:List (Cls×IOper)) (fr:Fr) (H:q7):Le (Y5 E c ops fr H) (Y5 E c' ops fr H):=by
 intro r hr;unfold Y5 at hr ⊢;cases hq:M5 E c ops fr H with
 | none=>rw [hq] at hr;cases hr
 | some q=>rw [hq] at hr;rw [zu3 h _ _ _ _ hq];exact hr
theorem za2 {E:Env} {c c':j8} (h:F6 c c') (bs:List (List (Cls×IOper))):∀ (fr:Fr) (H:q7),Le (Q8 E c bs fr H) (Q8 E c' bs fr H):=by
 induction bs with
 | nil=>intro fr H;exact Le.refl _
 | cons b bs ih=>
   intro fr H r hr;unfold Q8 at hr ⊢;cases hs:Y5 E c b fr H with
   | none=>rw [hs] at hr;cases hr
   | some p=>rw [hs] at hr;rw [z40 h _ _ _ _ hs];exact ih _ _ _ hr
def pF (i i':Run->Run):Prop:=∀ s s',qD s s'->qD (i s) (i' s')
theorem zb8 {E:Env} {c c':j8} {i i':Run->Run} (h:F6 c c') (hi:pF i i') (code:ICode):qD (evC E c i code) (evC E c' i' code):=by
 induction code with
 | skip=>intro fr H;exact Le.refl _
 | stuck=>intro fr H r hr;cases hr
 | region ops=>
   intro fr H r hr;unfold evC at hr ⊢;cases hs:K0 E c ops { fr with al:=x6 } H with
   | none=>rw [hs] at hr;cases hr
   | some p=>rw [hs] at hr;rw [zv5 h _ _ _ _ hs];exact hr
 | regionW ops=>
   intro fr H r hr;unfold evC at hr ⊢;cases hs:Q8 E c ops { fr with al:=x6 } H with
   | none=>rw [hs] at hr;cases hr
   | some p=>rw [hs] at hr;rw [za2 h _ _ _ _ hs];exact hr
 | regionD ops=>
   intro fr H r hr;unfold evC at hr ⊢;cases hs:E7 E c ops { fr with al:=x6 } H with
   | none=>rw [hs] at hr;cases hr
   | some p=>rw [hs] at hr;rw [zj2 h _ _ _ _ hs];exact hr
 | seq a b iha ihb=>
   intro fr H r hr;unfold evC at hr ⊢;cases hs:evC E c i a fr H with
   | none=>rw [hs] at hr;cases hr
   | some p=>
     rw [hs] at hr;rw [iha _ _ _ hs];obtain ⟨e,fr',H'⟩:=p;cases e with
     | nrm=>exact ihb _ _ _ hr
     | _=>exact hr
 | cond x a b iha ihb=>
   intro fr H r hr;unfold evC at hr ⊢;split at hr
   . split at hr
     . rename_i hb;rw [if_pos hb];exact iha _ _ _ hr
     . rename_i hb;rw [if_neg hb];exact ihb _ _ _ hr
   . cases hr
 | block id b ih=>
   intro fr H r hr;unfold evC at hr ⊢;cases hs:evC E c i b fr H with
   | none=>rw [hs] at hr;cases hr
   | some p=>rw [hs] at hr;rw [ih _ _ _ hs];exact hr
 | loop live b ih=>
   intro fr H r hr;unfold evC at hr ⊢;exact hi _ _ (fun fr H=>ih _ _) _ _ _ hr
 | exit id=>intro fr H;exact Le.refl _
 | scope l live b rest ihb ihr=>
   intro fr H r hr;unfold evC at hr ⊢;cases hs:evC E c i b fr H with
   | none=>rw [hs] at hr;cases hr
   | some p=>
     rw [hs] at hr;rw [ihb _ _ _ hs];obtain ⟨e,fr',H'⟩:=p;cases e with
     | goto l'=>
       dsimp only at hr ⊢;split at hr
       . rename_i hl;rw [if_pos hl];have key:qD (i fun fr H=>I6 l (evC E c i rest (keep live fr) H)) (i' fun fr H=>I6 l (evC E c' i' rest (keep live fr) H)):=
          hi _ _ fun fr H=>oY l (ihr _ _)
         exact z73 l (key _ _) _ hr
       . rename_i hl;rw [if_neg hl];exact hr
     | _=>exact hr
 | label l=>intro fr H;exact Le.refl _
 | keep l=>intro fr H;exact Le.refl _
 | goto l=>intro fr H;exact Le.refl _
 | ret=>intro fr H;exact Le.refl _
theorem zv8 (n:Nat):∀ s s':Run,qD s s'->qD (itF n s) (itF (n+1) s'):=by
 induction n with
 | zero=>intro s s' _ fr H r hr;cases hr
 | succ n ih=>
   intro s s' h fr H r hr;rw [itF] at hr ⊢;cases hs:s fr H with
   | none=>rw [hs] at hr;cases hr
   | some p=>
     rw [hs] at hr;rw [h _ _ _ hs];obtain ⟨e,fr',H'⟩:=p;cases e with
     | nrm=>exact ih _ _ h _ _ _ hr
     | _=>exact hr
theorem zs6 (n k:Nat):pF (itF n) (itF (n+k)):=by
 induction k with
 | zero=>
   intro s s' h;induction n with
   | zero=>intro fr H r hr;cases hr
   | succ n ih=>
     intro fr H r hr;simp only [Nat.add_zero] at ih ⊢;rw [itF] at hr ⊢;cases hs:s fr H with
     | none=>rw [hs] at hr;cases hr
     | some p=>
       rw [hs] at hr;rw [h _ _ _ hs];obtain ⟨e,fr',H'⟩:=p;cases e with
       | nrm=>exact ih _ _ _ hr
       | _=>exact hr
 | succ k ih=>
   intro s s' h fr H;exact (ih s s' h fr H).trans (zv8 (n+k) s' s' (fun _ _=>Le.refl _) fr H)
theorem q29 {E:Env} {c c':j8} {i i':Run->Run} (h:F6 c c') (hi:pF i i'):F6 (Q1 E c i) (Q1 E c' i'):=by
 intro f a H r hr;unfold Q1 at hr ⊢;cases hf:E.fnA f a.length with
 | none=>rw [hf] at hr;exact hr
 | some g=>
   rw [hf] at hr;dsimp only at hr ⊢;cases hs:evC E c i g.body { env:=t8 (binds 0 a),al:=x6 } H with
   | none=>rw [hs] at hr;cases hr
   | some p=>rw [hs] at hr;rw [zb8 h hi _ _ _ _ hs];exact hr
theorem q08 (E:Env) (n:Nat):F6 (evF E n) (evF E (n+1)):=by
 induction n with
 | zero=>intro f a H r hr;cases hr
 | succ n ih=>exact q29 ih (zs6 n 1)
noncomputable def ev (E:Env):j8:=fun f a H=>lub fun n=>evF E n f a H
noncomputable def itW:Run->Run:=fun s fr H=>lub fun n=>itF n s fr H
theorem z86 {E:Env} {f:Nat} {a:List HV} {H:q7} {r:HV×q7} (h:ev E f a H=some r):∃ n,evF E n f a H=some r:=pA h
theorem zm9 {E:Env} {f:Nat} {a:List HV} {H:q7} {r:HV×q7} {n:Nat} (h:evF E n f a H=some r):ev E f a H=some r:=
 gJ (g:=fun n=>evF E n f a H) (fun n=>q08 E n f a H) h
end Go.Proofs.Lz
namespace Go.Proofs.TryzL
open Go.Proofs.Lz
def mds:Nat->Md:=mdL []
def ic3:IFn:=⟨rg [xv 2 (kb false)] (.seq (rg [xm 3 0,xe 4 3,xo 5 (.bin .gtr (.t 4) (ki 300))] (cd 5 (kq [] (rg [xo 6 (.call 4 []),xm 2 6] (.ret))) (kS [0]))) (rg [xm 7 0,xo 8 (.call 5 [.t 7]),xm 9 0,xo 10 (.call 6 [.t 9]),xo 11 (.eqb false (.t 8) (.t 10)),xm 12 11,xt 13 12 (.call 4 []),xP 14 12 13,xm 2 14] (.ret))),[.tmp 2]⟩
def ic5:IFn:=⟨rg [xv 2 (kb false)] (rg [xm 6 0,xo 7 (.call 8 [.t 6]),xm 5 7,xo 8 (.ext (.t 5) 0),xo 9 (.ext (.t 5) 1),xo 3 (.lbox (some 4) (.k (.c (.agg [.str [],.nilfn,.nilfn,.nilfn])))),xn (.store (some 4) (.t 3) (.t 8)),xm 4 9] (rg [xm 10 4,xm 2 10] (.ret))),[.tmp 2]⟩
def ic6:IFn:=⟨rg [xv 2 (kb false)] (rg [xm 3 0,xo 4 (.call 9 [.t 3]),xo 5 (.bin .neq (.t 4) (ks [])),xm 2 5] (.ret)),[.tmp 2]⟩
def ic8:IFn:=⟨rg [xo 2 (.lbox (some 4) (.k (.c (.agg [.str [],.nilfn,.nilfn,.nilfn])))),xv 3 (kb false)] (rg [xm 8 0,xo 9 (.call 14 [.t 8]),xm 7 9,xo 10 (.ext (.t 7) 0),xo 11 (.ext (.t 7) 1),xo 12 (.ext (.t 7) 2),xm 4 10,xm 5 11,xm 6 12] (.seq (rg [xm 13 6,xo 14 (.un .not (.t 13))] (cd 14 (kq [2] (rg [xo 15 (.build [cs [],.c .nilfn,.c .nilfn,.c .nilfn] []),xn (.store (some 4) (.t 2) (.t 15)),xv 3 (kb false)] (.ret))) (kS [2,4,5]))) (.seq (rg [xm 16 5] (.block 0 (rg [xo 18 (.bin .eql (.t 16) (ks [69,113])),xm 17 18] (cd 17 (kq [2,4] (rg [xm 19 4,xo 20 (.call 15 [.t 19,ks [61,61]]),xo 21 (.build [cs [],.c .nilfn,.c .nilfn,.c .nilfn] [(0,1,.t 20),(1,1,.k (.c (.fn 16 [] []))),(2,1,.k (.c (.fn 17 [] []))),(3,1,.k (.c (.fn 18 [] [])))]),xn (.store (some 4) (.t 2) (.t 21)),xv 3 (kb true)] (.ret))) (kq [2,4,16] (rg [xo 23 (.bin .eql (.t 16) (ks [79,114,100])),xm 22 23] (cd 22 (kq [2,4] (rg [xm 24 4,xo 25 (.call 15 [.t 24,ks [60,61]]),xo 26 (.build [cs [],.c .nilfn,.c .nilfn,.c .nilfn] [(0,1,.t 25),(1,1,.k (.c (.fn 19 [] []))),(2,1,.k (.c (.fn 20 [] []))),(3,1,.k (.c (.fn 21 [] [])))]),xn (.store (some 4) (.t 2) (.t 26)),xv 3 (kb true)] (.ret))) (kS [2])))))))) (rg [xo 27 (.build [cs [],.c .nilfn,.c .nilfn,.c .nilfn] []),xn (.store (some 4) (.t 2) (.t 27)),xv 3 (kb false)] (.ret))))),[.cell 2 (some 4),.tmp 3]⟩
def ic9:IFn:=⟨rg [xv 2 (ks [])] (rg [xm 7 0,xo 8 (.call 22 [.t 7]),xm 6 8,xo 9 (.ext (.t 6) 0),xo 10 (.ext (.t 6) 1),xo 11 (.ext (.t 6) 2),xm 3 9,xm 4 10,xm 5 11] (.seq (.block 0 (rg [xm 13 5,xo 14 (.un .not (.t 13)),xm 12 14] (cd 12 (kq [] (rg [xv 2 (ks [])] (.ret))) (kq [3,4] (rg [xm 16 4,xo 17 (.bin .eql (.t 16) (ks [69,113])),xm 15 17] (cd 15 (kq [3] (rg [xm 18 3,xo 19 (.call 23 [.t 18,ks [61,61]]),xm 2 19] (.ret))) (kq [3,4] (rg [xm 21 4,xo 22 (.bin .eql (.t 21) (ks [79,114,100])),xm 20 22] (cd 20 (kq [3] (rg [xm 23 3,xo 24 (.call 23 [.t 23,ks [60,61]]),xm 2 24] (.ret))) (kS [])))))))))) (rg [xv 2 (ks [])] (.ret)))),[.tmp 2]⟩
def cN:IFn:=⟨rg [xv 2 (ks []),xv 3 (ks []),xv 4 (kb false)] (rg [xm 9 0,xo 10 (.call 47 [.t 9,ks [46]]),xm 8 10,xo 11 (.ext (.t 8) 0),xo 12 (.ext (.t 8) 1),xo 13 (.ext (.t 8) 2),xm 5 11,xm 6 12,xm 7 13] (.seq (rg [xm 14 7,xo 15 (.un .not (.t 14)),xm 16 15,gf 17 16 5,gf 18 16 6,xf 19 16 (.call 15 [.t 17,.t 18]),xf 20 16 (.bin .eql (.t 19) (ks [])),xp 21 16 20] (cd 21 (kq [] (rg [xv 2 (ks []),xv 3 (ks []),xv 4 (kb false)] (.ret))) (kS [5,6]))) (rg [xm 22 5,xm 23 6,xm 2 22,xm 3 23,xv 4 (kb true)] (.ret)))),[.tmp 2,.tmp 3,.tmp 4]⟩
def sU:IFn:=⟨rg [xv 4 (ks [])] (.seq (rg [xm 5 0,xo 6 (.call 48 [.t 5]),xo 7 (.un .not (.t 6)),xm 8 7,gf 9 8 0,xf 10 8 (.six (.t 9) (ki 0)),xf 11 8 (.call 49 [.t 10]),xf 12 8 (.un .not (.t 11)),xp 13 8 12,xm 14 13,gf 15 14 1,xf 16 14 (.call 50 [.t 15]),xf 17 14 (.un .not (.t 16)),xp 18 14 17] (cd 18 (kq [] (rg [xv 4 (ks [])] (.ret))) (kS [0,1]))) (rg [xm 19 0,xo 20 (.bin .add (.t 19) (ks [46])),xm 21 1,xo 22 (.bin .add (.t 20) (.t 21)),xm 4 22] (.ret))),[.tmp 4]⟩
def zl7:ICode:=.seq (rg [xm 6 5,xm 7 0,xe 8 7,xo 9 (.bin .lss (.t 6) (.t 8))] (cd 9 (kS [0,5]) (kq [] (.exit 0)))) (.seq (.block 1 (.seq (rg [xm 12 0,xm 13 5,xo 14 (.six (.t 12) (.t 13)),xo 15 (.bin .neq (.t 14) (ku 46))] (cd 15 (kq [0,5] (.exit 1)) (kS [0,5]))) (.seq (.seq (.regionD [(.pure,xm 16 0),(.pure,xm 17 5),(.rd,xo 18 (.slc true none (.t 16) none (some (.t 17)))),(.pure,xm 19 0),(.pure,xm 20 5),(.pure,xo 21 (.bin .add (.t 20) (ki 1))),(.rd,xo 22 (.slc true none (.t 19) (some (.t 21)) none)),(.rd,xo 23 (.call 23 [.t 18,.t 22])),(.pure,xo 24 (.bin .eql (.t 23) (ks [])))]) (cd 24 (kq [] (rg [xv 2 (ks []),xv 3 (ks []),xv 4 (kb false)] (.ret))) (kS [0,5]))) (.seq (.regionD [(.pure,xm 25 0),(.pure,xm 26 5),(.rd,xo 27 (.slc true none (.t 25) none (some (.t 26)))),(.pure,xm 28 0),(.pure,xm 29 5),(.pure,xo 30 (.bin .add (.t 29) (ki 1))),(.rd,xo 31 (.slc true none (.t 28) (some (.t 30)) none)),(.pure,xm 2 27),(.pure,xm 3 31),(.pure,xv 4 (kb true))]) (.ret))))) (.region [xm 10 5,xo 11 (.bin .add (.t 10) (ki 1)),xm 5 11]))
def tB:IFn:=⟨rg [xv 2 (ks []),xv 3 (ks []),xv 4 (kb false)] (.seq (rg [xv 5 (ki 0)] (.block 0 (.loop [0,5] zl7))) (rg [xv 2 (ks []),xv 3 (ks []),xv 4 (kb false)] (.ret))),[.tmp 2,.tmp 3,.tmp 4]⟩
def rU:IFn:=⟨rg [xv 4 (ks [])] (.seq (rg [xm 5 0,xo 6 (.call 57 [.t 5]),xo 7 (.bin .neq (.t 6) (ki 2)),xm 8 7,gf 9 8 1,xf 10 8 (.call 58 [.t 9]),xf 11 8 (.un .not (.t 10)),xp 12 8 11] (cd 12 (kq [] (rg [xv 4 (ks [])] (.ret))) (kS [0,1]))) (rg [xm 13 0,xo 14 (.bin .add (.t 13) (ks [46])),xm 15 1,xo 16 (.bin .add (.t 14) (.t 15)),xm 4 16] (.ret))),[.tmp 4]⟩
def zq2:ICode:=.seq (rg [xm 23 3,xm 24 0,xe 25 24,xo 26 (.bin .lss (.t 23) (.t 25))] (cd 26 (kS [0,3]) (kq [] (.exit 0)))) (.seq (.block 1 (rg [xm 29 0,xm 30 3,xo 31 (.six (.t 29) (.t 30)),xm 4 31] (rg [xm 32 4,xo 33 (.call 91 [.t 32]),xo 34 (.un .not (.t 33)),xm 35 34,gt 36 35 4,xt 37 35 (.call 92 [.t 36]),xt 38 35 (.un .not (.t 37)),xP 39 35 38,xm 40 39,gt 41 40 4,xt 42 40 (.bin .neq (.t 41) (ku 95)),xP 43 40 42,xm 44 43,gt 45 44 4,xt 46 44 (.bin .neq (.t 45) (ku 39)),xP 47 44 46] (cd 47 (kq [] (rg [xv 2 (kb false)] (.ret))) (kS [0,3]))))) (.region [xm 27 3,xo 28 (.bin .add (.t 27) (ki 1)),xm 3 28]))
def lV:IFn:=⟨rg [xv 2 (kb false)] (.seq (rg [xm 5 0,xo 6 (.bin .eql (.t 5) (ks [])),xm 7 6,gf 8 7 0,xf 9 7 (.len true (.t 8)),xf 10 7 (.bin .gtr (.t 9) (ki 64)),xp 11 7 10,xm 12 11,gf 13 12 0,xf 14 12 (.six (.t 13) (ki 0)),xf 15 12 (.call 91 [.t 14]),xf 16 12 (.un .not (.t 15)),gf 17 12 16,gt 18 17 0,xt 19 17 (.six (.t 18) (ki 0)),xt 20 17 (.bin .neq (.t 19) (ku 95)),xf 21 12 (.pick (.t 17) (.t 20) (kb false)),xp 22 12 21] (cd 22 (kq [] (rg [xv 2 (kb false)] (.ret))) (kS [0]))) (.seq (rg [xv 3 (ki 0)] (.block 0 (.loop [0,3] zq2))) (rg [xv 2 (kb true)] (.ret)))),[.tmp 2]⟩
def lC:IFn:=⟨rg [xv 2 (kb false)] (rg [xm 3 0,xo 4 (.bin .geq (.t 3) (ku 65)),xm 5 4,gt 6 5 0,xt 7 5 (.bin .leq (.t 6) (ku 90)),xP 8 5 7,xm 2 8] (.ret)),[.tmp 2]⟩
def dF:IFn:=⟨rg [xv 2 (kb false)] (rg [xm 3 0,xo 4 (.call 48 [.t 3]),xm 5 4,gt 6 5 0,xt 7 5 (.call 93 [.t 6]),xt 8 5 (.un .not (.t 7)),xP 9 5 8,xm 10 9,gf 11 10 0,xf 12 10 (.call 94 [.t 11]),gf 13 10 12,gt 14 13 0,xt 15 13 (.call 95 [.t 14]),xt 16 13 (.un .not (.t 15)),xf 17 10 (.pick (.t 13) (.t 16) (kb false)),xp 18 10 17,xm 2 18] (.ret)),[.tmp 2]⟩
def mG:IFn:=⟨rg [xv 2 (ki 0)] (.seq (rg [xm 3 0,xo 4 (.call 97 [.t 3])] (cd 4 (kq [0] (.seq (rg [xm 5 0,xo 6 (.call 98 [.t 5])] (cd 6 (kq [] (rg [xv 2 (ki 5)] (.ret))) (kS [0]))) (.seq (rg [xm 7 0,xo 8 (.six (.t 7) (ki 0)),xo 9 (.call 99 [.t 8])] (cd 9 (kq [] (rg [xv 2 (ki 2)] (.ret))) (kS []))) (rg [xv 2 (ki 1)] (.ret))))) (kS [0]))) (.seq (rg [xm 10 0,xo 11 (.call 100 [.t 10])] (cd 11 (kq [0] (.seq (rg [xm 12 0,xo 13 (.call 101 [.t 12])] (cd 13 (kq [] (rg [xv 2 (ki 6)] (.ret))) (kS [0]))) (.seq (rg [xm 14 0,xo 15 (.six (.t 14) (ki 0)),xo 16 (.bin .eql (.t 15) (ku 58))] (cd 16 (kq [] (rg [xv 2 (ki 4)] (.ret))) (kS []))) (rg [xv 2 (ki 3)] (.ret))))) (kS []))) (rg [xv 2 (ki 0)] (.ret)))),[.tmp 2]⟩
def sF:IFn:=⟨rg [xv 2 (kb false)] (rg [xm 4 0,xo 5 (.call 57 [.t 4]),xm 3 5] (rg [xm 6 3,xo 7 (.bin .eql (.t 6) (ki 1)),xm 8 7,gf 9 8 3,xf 10 8 (.bin .eql (.t 9) (ki 2)),xp 11 8 10,xm 12 11,gf 13 12 3,xf 14 12 (.bin .eql (.t 13) (ki 3)),xp 15 12 14,xm 16 15,gf 17 16 3,xf 18 16 (.bin .eql (.t 17) (ki 4)),xp 19 16 18,xm 2 19] (.ret))),[.tmp 2]⟩
def lH:IFn:=⟨rg [xv 2 (kb false)] (rg [xm 3 0,xo 4 (.call 49 [.t 3]),xm 5 4,gf 6 5 0,xf 7 5 (.bin .geq (.t 6) (ku 97)),gf 8 5 7,gt 9 8 0,xt 10 8 (.bin .leq (.t 9) (ku 122)),xf 11 5 (.pick (.t 8) (.t 10) (kb false)),xp 12 5 11,xm 2 12] (.ret)),[.tmp 2]⟩
def mD:IFn:=⟨rg [xv 2 (kb false)] (rg [xm 3 0,xo 4 (.bin .geq (.t 3) (ku 48)),xm 5 4,gt 6 5 0,xt 7 5 (.bin .leq (.t 6) (ku 57)),xP 8 5 7,xm 2 8] (.ret)),[.tmp 2]⟩
def cF:IFn:=⟨rg [xv 2 (kb false)] (.seq (rg [xm 3 0] (.block 0 (.seq (rg [xo 5 (.bin .eql (.t 3) (ks [97,115])),xm 4 5] (cd 4 (kS [4]) (kq [3] (rg [xo 6 (.bin .eql (.t 3) (ks [99,97,115,101])),xm 4 6] (cd 4 (kS [4]) (kq [3] (rg [xo 7 (.bin .eql (.t 3) (ks [99,108,97,115,115])),xm 4 7] (cd 4 (kS [4]) (kq [3] (rg [xo 8 (.bin .eql (.t 3) (ks [100,97,116,97])),xm 4 8] (cd 4 (kS [4]) (kq [3] (rg [xo 9 (.bin .eql (.t 3) (ks [100,101,114,105,118,105,110,103])),xm 4 9] (cd 4 (kS [4]) (kq [3] (rg [xo 10 (.bin .eql (.t 3) (ks [100,111])),xm 4 10] (cd 4 (kS [4]) (kq [3] (rg [xo 11 (.bin .eql (.t 3) (ks [101,108,115,101])),xm 4 11] (cd 4 (kS [4]) (kq [3] (rg [xo 12 (.bin .eql (.t 3) (ks [104,105,100,105,110,103])),xm 4 12] (cd 4 (kS [4]) (kq [3] (rg [xo 13 (.bin .eql (.t 3) (ks [105,102])),xm 4 13] (cd 4 (kS [4]) (kq [3] (rg [xo 14 (.bin .eql (.t 3) (ks [105,109,112,111,114,116])),xm 4 14] (cd 4 (kS [4]) (kq [3] (rg [xo 15 (.bin .eql (.t 3) (ks [105,110])),xm 4 15] (cd 4 (kS [4]) (kq [3] (rg [xo 16 (.bin .eql (.t 3) (ks [105,110,102,105,120])),xm 4 16] (cd 4 (kS [4]) (kq [3] (rg [xo 17 (.bin .eql (.t 3) (ks [105,110,102,105,120,108])),xm 4 17] (cd 4 (kS [4]) (kq [3] (rg [xo 18 (.bin .eql (.t 3) (ks [105,110,102,105,120,114])),xm 4 18] (cd 4 (kS [4]) (kq [3] (rg [xo 19 (.bin .eql (.t 3) (ks [105,110,115,116,97,110,99,101])),xm 4 19] (cd 4 (kS [4]) (kq [3] (rg [xo 20 (.bin .eql (.t 3) (ks [108,101,116])),xm 4 20] (cd 4 (kS [4]) (kq [3] (rg [xo 21 (.bin .eql (.t 3) (ks [109,111,100,117,108,101])),xm 4 21] (cd 4 (kS [4]) (kq [3] (rg [xo 22 (.bin .eql (.t 3) (ks [111,102])),xm 4 22] (cd 4 (kS [4]) (kq [3] (rg [xo 23 (.bin .eql (.t 3) (ks [113,117,97,108,105,102,105,101,100])),xm 4 23] (cd 4 (kS [4]) (kq [3] (rg [xo 24 (.bin .eql (.t 3) (ks [116,104,101,110])),xm 4 24] (cd 4 (kS [4]) (kq [3] (rg [xo 25 (.bin .eql (.t 3) (ks [119,104,101,114,101])),xm 4 25] (cd 4 (kS [4]) (kq [3] (.region [xo 26 (.bin .eql (.t 3) (ks [95])),xm 4 26])))))))))))))))))))))))))))))))))))))))))))))))))))))))))))))))) (cd 4 (kq [] (rg [xv 2 (kb true)] (.ret))) (kS []))))) (rg [xv 2 (kb false)] (.ret))),[.tmp 2]⟩
def z97:ICode:=.seq (.block 1 (.seq (rg [xm 14 4,xm 15 0,xe 16 15,xo 17 (.bin .eql (.t 14) (.t 16))] (cd 17 (kq [0,3] (.exit 0)) (kS [0,3,4]))) (.seq (rg [xm 18 0,xm 19 4,xo 20 (.six (.t 18) (.t 19)),xo 21 (.call 160 [.t 20]),xo 22 (.un .not (.t 21))] (cd 22 (kq [] (rg [xv 2 (kb false)] (.ret))) (kS [0,3,4]))) (rg [xm 23 0,xm 24 4,xo 25 (.six (.t 23) (.t 24)),xo 26 (.bin .eql (.t 25) (ku 45))] (cd 26 (kq [0,3,4] (.region [xm 27 3,xo 28 (.bin .add (.t 27) (ki 1)),xm 3 28])) (kS [0,3,4])))))) (.region [xm 12 4,xo 13 (.bin .add (.t 12) (ki 1)),xm 4 13])
def zb3:ICode:=.seq (.block 1 (.seq (rg [xm 14 4,xm 15 0,xe 16 15,xo 17 (.bin .eql (.t 14) (.t 16))] (cd 17 (kq [0,3] (.exit 0)) (kS [0,3,4]))) (.seq (rg [xm 18 0,xm 19 4,xo 20 (.six (.t 18) (.t 19)),xo 21 (.call 160 [.t 20]),xo 22 (.un .not (.t 21))] (cd 22 (kq [] (rg [xv 2 (kb false)] (.ret))) (kS [0,3,4]))) (rg [xm 23 0,xm 24 4,xo 25 (.six (.t 23) (.t 24)),xo 26 (.bin .eql (.t 25) (ku 45))] (cd 26 (kq [0,3,4] (.region [xm 27 3,xo 28 (.bin .add (.t 27) (ki 1)),xm 3 28])) (kS [0,3,4])))))) (.region [xm 12 4,xo 13 (.bin .add (.t 12) (ki 1)),xm 4 13])
def nU:IFn:=⟨rg [xv 2 (kb false)] (.scope 0 [0,3] (.seq (rg [xm 5 0,xo 6 (.bin .eql (.t 5) (ks [])),xm 7 6,gf 8 7 0,xf 9 7 (.len true (.t 8)),xf 10 7 (.bin .gtr (.t 9) (ki 64)),xp 11 7 10] (cd 11 (kq [] (rg [xv 2 (kb false)] (.ret))) (kS [0]))) (rg [xv 3 (ki 0)] (.seq (.label 0) (.seq (rg [xv 4 (ki 0)] (.block 0 (.loop [0,3,4] zb3))) (rg [xm 29 0,xe 30 29,xo 31 (.bin .eql (.t 30) (ki 1)),xm 32 31,gf 33 32 3,gf 34 32 0,xf 35 32 (.len true (.t 34)),xf 36 32 (.bin .lss (.t 33) (.t 35)),xp 37 32 36,xm 2 37] (.ret)))))) (.seq (.skip) (.seq (rg [xv 4 (ki 0)] (.block 0 (.loop [0,3,4] z97))) (rg [xm 29 0,xe 30 29,xo 31 (.bin .eql (.t 30) (ki 1)),xm 32 31,gf 33 32 3,gf 34 32 0,xf 35 32 (.len true (.t 34)),xf 36 32 (.bin .lss (.t 33) (.t 35)),xp 37 32 36,xm 2 37] (.ret))))),[.tmp 2]⟩
def tJ:IFn:=⟨rg [xv 2 (kb false)] (.seq (rg [xm 3 0] (.block 0 (.seq (rg [xo 5 (.bin .eql (.t 3) (ks [46,46])),xm 4 5] (cd 4 (kS [4]) (kq [3] (rg [xo 6 (.bin .eql (.t 3) (ks [58,58])),xm 4 6] (cd 4 (kS [4]) (kq [3] (rg [xo 7 (.bin .eql (.t 3) (ks [61])),xm 4 7] (cd 4 (kS [4]) (kq [3] (rg [xo 8 (.bin .eql (.t 3) (ks [92])),xm 4 8] (cd 4 (kS [4]) (kq [3] (rg [xo 9 (.bin .eql (.t 3) (ks [124])),xm 4 9] (cd 4 (kS [4]) (kq [3] (rg [xo 10 (.bin .eql (.t 3) (ks [60,45])),xm 4 10] (cd 4 (kS [4]) (kq [3] (rg [xo 11 (.bin .eql (.t 3) (ks [45,62])),xm 4 11] (cd 4 (kS [4]) (kq [3] (rg [xo 12 (.bin .eql (.t 3) (ks [64])),xm 4 12] (cd 4 (kS [4]) (kq [3] (rg [xo 13 (.bin .eql (.t 3) (ks [126])),xm 4 13] (cd 4 (kS [4]) (kq [3] (.region [xo 14 (.bin .eql (.t 3) (ks [61,62])),xm 4 14])))))))))))))))))))))))))))) (cd 4 (kq [] (rg [xv 2 (kb true)] (.ret))) (kS []))))) (rg [xv 2 (kb false)] (.ret))),[.tmp 2]⟩
def oO:ICode:=.seq (rg [xm 24 3,xm 25 0,xe 26 25,xo 27 (.bin .lss (.t 24) (.t 26))] (cd 27 (kS [0,3]) (kq [] (.exit 0)))) (.seq (.block 1 (rg [xm 30 0,xm 31 3,xo 32 (.six (.t 30) (.t 31)),xo 33 (.call 161 [.t 32]),xo 34 (.un .not (.t 33)),xm 35 34,gt 36 35 0,gt 37 35 3,xt 38 35 (.six (.t 36) (.t 37)),xt 39 35 (.call 99 [.t 38]),xt 40 35 (.un .not (.t 39)),xP 41 35 40,xm 42 41,gt 43 42 0,gt 44 42 3,xt 45 42 (.six (.t 43) (.t 44)),xt 46 42 (.call 162 [.t 45]),xt 47 42 (.un .not (.t 46)),xP 48 42 47,xm 49 48,gt 50 49 0,gt 51 49 3,xt 52 49 (.six (.t 50) (.t 51)),xt 53 49 (.bin .neq (.t 52) (ku 39)),xP 54 49 53] (cd 54 (kq [] (rg [xv 2 (kb false)] (.ret))) (kS [0,3])))) (.region [xm 28 3,xo 29 (.bin .add (.t 28) (ki 1)),xm 3 29]))
def mH:IFn:=⟨rg [xv 2 (kb false)] (.seq (rg [xm 4 0,xe 5 4,xo 6 (.bin .lss (.t 5) (ki 1)),xm 7 6,gf 8 7 0,xf 9 7 (.len true (.t 8)),xf 10 7 (.bin .gtr (.t 9) (ki 64)),xp 11 7 10,xm 12 11,gf 13 12 0,xf 14 12 (.six (.t 13) (ki 0)),xf 15 12 (.call 161 [.t 14]),xf 16 12 (.un .not (.t 15)),gf 17 12 16,gt 18 17 0,xt 19 17 (.six (.t 18) (ki 0)),xt 20 17 (.call 99 [.t 19]),xt 21 17 (.un .not (.t 20)),xf 22 12 (.pick (.t 17) (.t 21) (kb false)),xp 23 12 22] (cd 23 (kq [] (rg [xv 2 (kb false)] (.ret))) (kS [0]))) (.seq (rg [xv 3 (ki 0)] (.block 0 (.loop [0,3] oO))) (rg [xv 2 (kb true)] (.ret)))),[.tmp 2]⟩
def sG:IFn:=⟨rg [xv 2 (kb false)] (.seq (rg [xm 3 0] (.block 0 (.seq (rg [xo 5 (.bin .eql (.t 3) (ks [97,115])),xm 4 5] (cd 4 (kS [3,4]) (kq [3] (rg [xo 6 (.bin .eql (.t 3) (ks [99,97,115,101])),xm 4 6] (cd 4 (kS [3,4]) (kq [3] (rg [xo 7 (.bin .eql (.t 3) (ks [99,108,97,115,115])),xm 4 7] (cd 4 (kS [3,4]) (kq [3] (rg [xo 8 (.bin .eql (.t 3) (ks [100,97,116,97])),xm 4 8] (cd 4 (kS [3,4]) (kq [3] (rg [xo 9 (.bin .eql (.t 3) (ks [100,101,114,105,118,105,110,103])),xm 4 9] (cd 4 (kS [3,4]) (kq [3] (rg [xo 10 (.bin .eql (.t 3) (ks [100,111])),xm 4 10] (cd 4 (kS [3,4]) (kq [3] (rg [xo 11 (.bin .eql (.t 3) (ks [101,108,115,101])),xm 4 11] (cd 4 (kS [3,4]) (kq [3] (rg [xo 12 (.bin .eql (.t 3) (ks [104,105,100,105,110,103])),xm 4 12] (cd 4 (kS [3,4]) (kq [3] (rg [xo 13 (.bin .eql (.t 3) (ks [105,102])),xm 4 13] (cd 4 (kS [3,4]) (kq [3] (rg [xo 14 (.bin .eql (.t 3) (ks [105,109,112,111,114,116])),xm 4 14] (cd 4 (kS [3,4]) (kq [3] (.region [xo 15 (.bin .eql (.t 3) (ks [105,110])),xm 4 15]))))))))))))))))))))))))))))))) (cd 4 (kq [] (rg [xv 2 (kb true)] (.ret))) (kq [3] (.seq (rg [xo 17 (.bin .eql (.t 3) (ks [105,110,102,105,120])),xm 16 17] (cd 16 (kS [16]) (kq [3] (rg [xo 18 (.bin .eql (.t 3) (ks [105,110,102,105,120,108])),xm 16 18] (cd 16 (kS [16]) (kq [3] (rg [xo 19 (.bin .eql (.t 3) (ks [105,110,102,105,120,114])),xm 16 19] (cd 16 (kS [16]) (kq [3] (rg [xo 20 (.bin .eql (.t 3) (ks [105,110,115,116,97,110,99,101])),xm 16 20] (cd 16 (kS [16]) (kq [3] (rg [xo 21 (.bin .eql (.t 3) (ks [108,101,116])),xm 16 21] (cd 16 (kS [16]) (kq [3] (rg [xo 22 (.bin .eql (.t 3) (ks [109,111,100,117,108,101])),xm 16 22] (cd 16 (kS [16]) (kq [3] (rg [xo 23 (.bin .eql (.t 3) (ks [111,102])),xm 16 23] (cd 16 (kS [16]) (kq [3] (rg [xo 24 (.bin .eql (.t 3) (ks [113,117,97,108,105,102,105,101,100])),xm 16 24] (cd 16 (kS [16]) (kq [3] (rg [xo 25 (.bin .eql (.t 3) (ks [116,104,101,110])),xm 16 25] (cd 16 (kS [16]) (kq [3] (rg [xo 26 (.bin .eql (.t 3) (ks [119,104,101,114,101])),xm 16 26] (cd 16 (kS [16]) (kq [3] (.region [xo 27 (.bin .eql (.t 3) (ks [95])),xm 16 27]))))))))))))))))))))))))))))))) (cd 16 (kq [] (rg [xv 2 (kb true)] (.ret))) (kS [])))))))) (rg [xv 2 (kb false)] (.ret))),[.tmp 2]⟩
def aL:IFn:=⟨rg [xv 2 (kb false)] (rg [xm 3 0,xo 4 (.bin .geq (.t 3) (ku 65)),xm 5 4,gt 6 5 0,xt 7 5 (.bin .leq (.t 6) (ku 90)),xP 8 5 7,xm 2 8] (.ret)),[.tmp 2]⟩
def q19:ICode:=.seq (rg [xm 13 4,xm 14 0,xe 15 14,xo 16 (.bin .lss (.t 13) (.t 15))] (cd 16 (kS [0,3,4]) (kq [0,3] (.exit 0)))) (.seq (.block 1 (.seq (rg [xm 19 0,xm 20 4,xo 21 (.six (.t 19) (.t 20)),xo 22 (.call 163 [.t 21]),xo 23 (.un .not (.t 22))] (cd 23 (kq [] (rg [xv 2 (kb false)] (.ret))) (kS [0,3,4]))) (rg [xm 24 0,xm 25 4,xo 26 (.six (.t 24) (.t 25)),xo 27 (.bin .eql (.t 26) (ku 45))] (cd 27 (kq [0,3,4] (.region [xm 28 3,xo 29 (.bin .add (.t 28) (ki 1)),xm 3 29])) (kS [0,3,4]))))) (.region [xm 17 4,xo 18 (.bin .add (.t 17) (ki 1)),xm 4 18]))
def dY:IFn:=⟨rg [xv 2 (kb false)] (.seq (rg [xm 5 0,xe 6 5,xo 7 (.bin .lss (.t 6) (ki 1)),xm 8 7,gf 9 8 0,xf 10 8 (.len true (.t 9)),xf 11 8 (.bin .gtr (.t 10) (ki 64)),xp 12 8 11] (cd 12 (kq [] (rg [xv 2 (kb false)] (.ret))) (kS [0]))) (rg [xv 3 (ki 0)] (.seq (rg [xv 4 (ki 0)] (.block 0 (.loop [0,3,4] q19))) (rg [xm 30 3,xm 31 0,xe 32 31,xo 33 (.bin .lss (.t 30) (.t 32)),xm 34 33,gf 35 34 0,xf 36 34 (.len true (.t 35)),xf 37 34 (.bin .eql (.t 36) (ki 1)),xp 38 34 37,xm 2 38] (.ret))))),[.tmp 2]⟩
def sR:IFn:=⟨rg [xv 2 (kb false)] (.seq (rg [xm 3 0] (.block 0 (.seq (rg [xo 5 (.bin .eql (.t 3) (ks [46,46])),xm 4 5] (cd 4 (kS [4]) (kq [3] (rg [xo 6 (.bin .eql (.t 3) (ks [58,58])),xm 4 6] (cd 4 (kS [4]) (kq [3] (rg [xo 7 (.bin .eql (.t 3) (ks [61])),xm 4 7] (cd 4 (kS [4]) (kq [3] (rg [xo 8 (.bin .eql (.t 3) (ks [92])),xm 4 8] (cd 4 (kS [4]) (kq [3] (rg [xo 9 (.bin .eql (.t 3) (ks [124])),xm 4 9] (cd 4 (kS [4]) (kq [3] (rg [xo 10 (.bin .eql (.t 3) (ks [60,45])),xm 4 10] (cd 4 (kS [4]) (kq [3] (rg [xo 11 (.bin .eql (.t 3) (ks [45,62])),xm 4 11] (cd 4 (kS [4]) (kq [3] (rg [xo 12 (.bin .eql (.t 3) (ks [64])),xm 4 12] (cd 4 (kS [4]) (kq [3] (rg [xo 13 (.bin .eql (.t 3) (ks [126])),xm 4 13] (cd 4 (kS [4]) (kq [3] (.region [xo 14 (.bin .eql (.t 3) (ks [61,62])),xm 4 14])))))))))))))))))))))))))))) (cd 4 (kq [] (rg [xv 2 (kb true)] (.ret))) (kS []))))) (rg [xv 2 (kb false)] (.ret))),[.tmp 2]⟩
def dA:IFn:=⟨rg [xv 2 (kb false)] (rg [xm 3 0,xo 4 (.call 211 [ks [33,35,36,37,38,42,43,46,47,60,61,62,63,64,92,94,124,45,126,58],.t 3]),xo 5 (.bin .geq (.t 4) (ki 0)),xm 2 5] (.ret)),[.tmp 2]⟩
def cG:IFn:=⟨rg [xv 2 (kb false)] (rg [xm 3 0,xo 4 (.bin .geq (.t 3) (ku 97)),xm 5 4,gt 6 5 0,xt 7 5 (.bin .leq (.t 6) (ku 122)),xP 8 5 7,xm 9 8,gf 10 9 0,xf 11 9 (.bin .eql (.t 10) (ku 95)),xp 12 9 11,xm 2 12] (.ret)),[.tmp 2]⟩
def aH:IFn:=⟨rg [xv 2 (kb false)] (rg [xm 3 0,xo 4 (.bin .geq (.t 3) (ku 48)),xm 5 4,gt 6 5 0,xt 7 5 (.bin .leq (.t 6) (ku 57)),xP 8 5 7,xm 2 8] (.ret)),[.tmp 2]⟩
def zj0:ICode:=.seq (rg [xm 5 4,xm 6 3,xe 7 6,xo 8 (.bin .lss (.t 5) (.t 7))] (cd 8 (kS [0,3,4]) (kq [] (.exit 0)))) (.seq (.block 1 (rg [xm 11 3,xm 12 4,xo 13 (.six (.t 11) (.t 12)),xm 14 0,xo 15 (.bin .eql (.t 13) (.t 14))] (cd 15 (kq [] (rg [xv 2 (kb true)] (.ret))) (kS [0,3,4])))) (.region [xm 9 4,xo 10 (.bin .add (.t 9) (ki 1)),xm 4 10]))
def tA:IFn:=⟨rg [xv 2 (kb false)] (rg [xv 3 (ks [33,35,36,37,38,42,43,46,47,60,61,62,63,64,92,94,124,45,126,58])] (.seq (rg [xv 4 (ki 0)] (.block 0 (.loop [0,3,4] zj0))) (rg [xv 2 (kb false)] (.ret)))),[.tmp 2]⟩
def wY:List (Nat×IFn)->Nat->Option IFn
 | [],_=>none
 | (k,g)::r,n=>bif Nat.beq k n then some g else wY r n
theorem lQ:∀ {l:List (Nat×IFn)} {n:Nat} {g:IFn},wY l n=some g->(n,g)∈l
 | (k,g')::r,n,g,h=>by
   unfold wY at h;cases hb:Nat.beq k n with
   | true=>
     rw [hb] at h;injection h with h;have:=Nat.eq_of_beq_eq_true hb;subst h;subst this;exact List.mem_cons_self
   | false=>rw [hb] at h;exact List.mem_cons_of_mem _ (lQ h)
def fnL:List (Nat×IFn):=[(3,ic3),(5,ic5),(6,ic6),(8,ic8),(9,ic9),(14,cN),(15,sU),(22,tB),(23,rU),(48,lV),(49,lC),(50,dF),(57,mG),(58,sF),(91,lH),(92,mD),(93,cF),(94,nU),(95,tJ),(97,mH),(98,sG),(99,aL),(100,dY),(101,sR),(160,dA),(161,cG),(162,aH),(163,tA)]
def fnT (n:Nat):Option IFn:=wY fnL n
theorem zr8:∀ f g,fnT f=some g->(Go.Proofs.Tryz.prog.funcs[f]?).bind (qI Go.Proofs.Tryz.prog mds)=some g:=by
 intro f g h;have hm:=lQ h;simp only [fnL,List.mem_cons,List.not_mem_nil,or_false,Prod.mk.injEq] at hm;rcases hm with ⟨rfl,rfl⟩ | ⟨rfl,rfl⟩ | ⟨rfl,rfl⟩ | ⟨rfl,rfl⟩ | ⟨rfl,rfl⟩ | ⟨rfl,rfl⟩ | ⟨rfl,rfl⟩ | ⟨rfl,rfl⟩ | ⟨rfl,rfl⟩ | ⟨rfl,rfl⟩ | ⟨rfl,rfl⟩ | ⟨rfl,rfl⟩ | ⟨rfl,rfl⟩ | ⟨rfl,rfl⟩ | ⟨rfl,rfl⟩ | ⟨rfl,rfl⟩ | ⟨rfl,rfl⟩ | ⟨rfl,rfl⟩ | ⟨rfl,rfl⟩ | ⟨rfl,rfl⟩ | ⟨rfl,rfl⟩ | ⟨rfl,rfl⟩ | ⟨rfl,rfl⟩ | ⟨rfl,rfl⟩ | ⟨rfl,rfl⟩ | ⟨rfl,rfl⟩ | ⟨rfl,rfl⟩ | ⟨rfl,rfl⟩
 all_goals (show (Go.Proofs.Tryz.prog.funcs[_]?).bind (qI Go.Proofs.Tryz.prog mds)=some _;kernel_rfl)
end Go.Proofs.TryzL
