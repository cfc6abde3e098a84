/- A calculus over the evaluator with slices a5 values: one operation a step, and what is left to show. -/
import Derived.Test.YtlimfobeoodkjaaGreatDoorLzWOm
import Derived.Test.YtlimfobeoodkjaaGreatDoorLzSimp
namespace Go.Proofs.Lz
@[simp] theorem ze0 (E:WEnv) (c:u5) (it:y0->y0) (ops:List IOper) (fr:WFr) (H:q8) :
 wC E c it (.region ops) fr H=match B1 E c ops { fr with al:=x6 } H with
  | some (fr',H')=>some (.nrm,fr',H')
  | none=>none:=rfl
@[simp] theorem zh3 (E:WEnv) (c:u5) (it:y0->y0) (ops:List (Cls×IOper)) (fr:WFr) (H:q8) :
 wC E c it (.regionD ops) fr H=match D8 E c ops { fr with al:=x6 } H with
  | some (fr',H')=>some (.nrm,fr',H')
  | none=>none:=rfl
@[simp] theorem yG (E:WEnv) (c:u5) (it:y0->y0) (a b:ICode) (fr:WFr) (H:q8) :
 wC E c it (.seq a b) fr H=match wC E c it a fr H with
  | some (.nrm,fr',H')=>wC E c it b fr' H'
  | r=>r:=rfl
@[simp] theorem w_skip (E:WEnv) (c:u5) (it:y0->y0) (fr:WFr) (H:q8):wC E c it .skip fr H=some (.nrm,fr,H):=rfl
@[simp] theorem w_exit (E:WEnv) (c:u5) (it:y0->y0) (i:Nat) (fr:WFr) (H:q8):wC E c it (.exit i) fr H=some (.exit i,fr,H):=rfl
@[simp] theorem w_goto (E:WEnv) (c:u5) (it:y0->y0) (i:Nat) (fr:WFr) (H:q8):wC E c it (.goto i) fr H=some (.goto i,fr,H):=rfl
@[simp] theorem w_ret (E:WEnv) (c:u5) (it:y0->y0) (fr:WFr) (H:q8):wC E c it .ret fr H=some (.ret,fr,H):=rfl
@[simp] theorem w_label (E:WEnv) (c:u5) (it:y0->y0) (i:Nat) (fr:WFr) (H:q8):wC E c it (.label i) fr H=some (.nrm,fr,H):=rfl
@[simp] theorem aU (E:WEnv) (c:u5) (it:y0->y0) (x:Opd) (a b:ICode) (fr:WFr) (H:q8) :
 wC E c it (.cond x a b) fr H=match fr.rd x with
  | .c (.bool t)=>if t=true then wC E c it a fr H else wC E c it b fr H
  | _=>none:=rfl
@[simp] theorem jX (E:WEnv) (c:u5) (it:y0->y0) (i:Nat) (a:ICode) (fr:WFr) (H:q8) :
 wC E c it (.block i a) fr H=match wC E c it a fr H with
  | some (.exit j,fr',H')=>if j=i then some (.nrm,fr',H') else some (.exit j,fr',H')
  | r=>r:=rfl
theorem zx5 (E:WEnv) (c:u5) (it:y0->y0) (l:List Nat) (a:ICode) (fr:WFr) (H:q8) :
 wC E c it (.loop l a) fr H=it (fun fr H=>wC E c it a (f7 l fr) H) fr H:=rfl
attribute [simp] o0 qP O9 B1 A8 wOp j4 D8 H4 G3 wD S9 WFr.place WFr.put WFr.putD WFr.put1 WFr.link WFr.rd D9 WV.flat mL S6 J6 zM
attribute [simp] peek i7 V0 zB wT Q7 okW okA hit b6 x8 C6 C3 inK c6 K1 u4 l6 A7 J2 A5 s4 j6 B6 y7 c8 d5 o7 L8 Lz.take U4 B7 O7 cellW yI fitsW P5 qB pK qT pI ixW W4 yB wL jL J1 K4 H8 yA vM gA O1 N2 blind appW zS vD qS Y4 Q9 plainW sL wE J4 I2 E8 noView jF yO
attribute [simp] V7 wO Z8 zV Z3 i8 shut1 zF O3 O8 shut L0 noRefW noRefW.noRefWL W6 jR jW zT vZ jP xY f9 C2 W7 yC X2 L6 F5 zQ qW f7 D6 f4 F7 P0 A3 leave1 F8 X8
@[simp] theorem hitF_env (K:Pl->Bool) (fz:Bool) (w:WFr) (s:Nat):(b8 K fz w).env s=hit K fz (Pl.sl s) (w.env s):=rfl
@[simp] theorem hitF_al (K:Pl->Bool) (fz:Bool) (w:WFr):(b8 K fz w).al=w.al:=rfl
@[simp] theorem blindF_env (p:Pl) (w:WFr) (s:Nat):(vL p w).env s=blind p (w.env s):=rfl
@[simp] theorem blindF_al (p:Pl) (w:WFr):(vL p w).al=w.al:=rfl
@[simp] theorem peek1_c (q:Pl) (v:CV):A0 q (.c v)=(.c v):=rfl
@[simp] theorem thawW0_c (v:CV):e9 (.c v)=some v:=rfl
@[simp] theorem peek1_agg (q:Pl) (cs:List WV):A0 q (.agg cs)=(.agg cs):=rfl
@[simp] theorem thawW0_agg (cs:List WV):e9 (.agg cs)=none:=rfl
@[simp] theorem peek1_tup (q:Pl) (vs:List WV):A0 q (.tup vs)=(.tup vs):=rfl
@[simp] theorem thawW0_tup (vs:List WV):e9 (.tup vs)=none:=rfl
@[simp] theorem peek1_nils (q:Pl) :A0 q .nils=.nils:=rfl
@[simp] theorem thawW0_nils :e9 .nils=some (.frz none []):=rfl
@[simp] theorem peek1_own (q:Pl) (b:Bool) (e:Nat) (ek:Option Nat) (xs:List CV):A0 q (.own b e ek xs)=.view q b 0 e ek xs:=rfl
@[simp] theorem thawW0_own (b:Bool) (e:Nat) (ek:Option Nat) (xs:List CV):e9 (.own b e ek xs)=none:=rfl
@[simp] theorem peek1_view (q:Pl) (pl:Pl) (b:Bool) (off e:Nat) (ek:Option Nat) (xs:List CV):A0 q (.view pl b off e ek xs)=(.view pl b off e ek xs):=rfl
@[simp] theorem thawW0_view (pl:Pl) (b:Bool) (off e:Nat) (ek:Option Nat) (xs:List CV):e9 (.view pl b off e ek xs)=some (.frz ek xs):=rfl
@[simp] theorem peek1_imm (q:Pl) (fz:Bool) (ek:Option Nat) (xs:List CV):A0 q (.imm fz ek xs)=(.imm fz ek xs):=rfl
@[simp] theorem thawW0_imm (fz:Bool) (ek:Option Nat) (xs:List CV):e9 (.imm fz ek xs)=some (.frz ek xs):=rfl
@[simp] theorem peek1_ptr (q:Pl) (id off:Nat):A0 q (.ptr id off)=(.ptr id off):=rfl
@[simp] theorem thawW0_ptr (id off:Nat):e9 (.ptr id off)=none:=rfl
@[simp] theorem peek1_eptr (q:Pl) (pl:Pl) (i off:Nat) (ek:Option Nat) (x:CV):A0 q (.eptr pl i off ek x)=(.eptr pl i off ek x):=rfl
@[simp] theorem thawW0_eptr (pl:Pl) (i off:Nat) (ek:Option Nat) (x:CV):e9 (.eptr pl i off ek x)=none:=rfl
@[simp] theorem peek1_iptr (q:Pl) (fz:Bool) (ek:Option Nat) (x:CV) (off:Nat):A0 q (.iptr fz ek x off)=(.iptr fz ek x off):=rfl
@[simp] theorem thawW0_iptr (fz:Bool) (ek:Option Nat) (x:CV) (off:Nat):e9 (.iptr fz ek x off)=none:=rfl
@[simp] theorem peek1_lbox (q:Pl) (ek:Option Nat) (v:WV):A0 q (.lbox ek v)=(.lbox ek v):=rfl
@[simp] theorem thawW0_lbox (ek:Option Nat) (v:WV):e9 (.lbox ek v)=none:=rfl
@[simp] theorem peek1_fn (q:Pl) (f:Nat) (first cap:List WV):A0 q (.fn f first cap)=(.fn f first cap):=rfl
@[simp] theorem thawW0_fn (f:Nat) (first cap:List WV):e9 (.fn f first cap)=none:=rfl
@[simp] theorem peek1_skipv (q:Pl) :A0 q .skipv=.skipv:=rfl
@[simp] theorem thawW0_skipv :e9 .skipv=none:=rfl
@[simp] theorem peek1_undef (q:Pl) :A0 q .undef=.undef:=rfl
@[simp] theorem thawW0_undef :e9 .undef=none:=rfl
@[simp] theorem peek1_gone (q:Pl) :A0 q .gone=.gone:=rfl
@[simp] theorem thawW0_gone :e9 .gone=none:=rfl
theorem set_get {α:Type} {H:List α} {p:Nat} {x:α} (h:H[p]?=some x) (a:α):(H.set p a)[p]?=some a:=List.getElem?_set_self (gEs h).1
end Go.Proofs.Lz
set_option linter.unusedSimpArgs false
set_option linter.unusedVariables false
namespace Go.Proofs.Lz
def frl:List (Nat×WV)->Nat->WV
 | [],_=>.undef
 | (t,v)::r,s=>bif Nat.beq s t then v else frl r s
def lookA:List (Nat×Option (Nat×Nat))->Nat->Option (Nat×Nat)
 | [],_=>none
 | (t,v)::r,s=>bif Nat.beq s t then v else lookA r s
def FL (l:List (Nat×WV)) (a:List (Nat×Option (Nat×Nat))):WFr:={ env:=frl l,al:=lookA a }
theorem wN {α:Type} (s t:Nat) (a b:α):(bif Nat.beq s t then a else b)=if s=t then a else b:=by
 by_cases h:s=t
 . subst h;simp
 . have:Nat.beq s t=false:=by
    cases hb:Nat.beq s t with
    | true=>exact absurd (Nat.eq_of_beq_eq_true hb) h
    | false=>rfl
   rw [this,if_neg h];rfl
theorem zk2:∀ l,frl l=o0 l:=by
 intro l;induction l with
 | nil=>rfl
 | cons p r ih=>
   funext s;obtain ⟨t,v⟩:=p;show (bif Nat.beq s t then v else frl r s)=if s=t then v else o0 r s
   rw [wN,ih]
theorem rA (l:List (Nat×WV)):({ env:=o0 l,al:=x6 }:WFr)=FL l []:=by
 unfold FL;rw [zk2];rfl
theorem yX (l:List (Nat×WV)) (d:Nat) (v:WV):upd (frl l) d v=frl ((d,v)::l):=by
 funext s;show (if s=d then v else frl l s)=(bif Nat.beq s d then v else frl l s);rw [wN]
theorem sX (d:Nat):upd (lookA []) d none=lookA []:=by
 funext s;show (if s=d then none else none)=none;split<;>rfl
theorem ff {p:Prop} (h:false=true):p:=absurd h Bool.false_ne_true
theorem ft {p:Prop} (h:true=false):p:=absurd h.symm Bool.false_ne_true
structure Put (fr:WFr) (dst:Option Nat) (v:WV) (fr':WFr):Prop where
 eq:fr.put dst v=fr'
theorem w9 {l:List (Nat×WV)} {d:Nat} {u:CV}:Put (FL l []) (some d) (.c u) (FL ((d,.c u)::l) []):=⟨by
 show WFr.putD (FL l []) d (.c u)=_;have:y7 (.c u)=false:=rfl;unfold WFr.putD;rw [this];simp only [Bool.false_eq_true,if_false,WFr.put1,FL,yX,sX]⟩
theorem u6 {l:List (Nat×WV)} {d:Nat} {v:WV} (h:y7 v=false):Put (FL l []) (some d) v (FL ((d,v)::l) []):=⟨by
 show WFr.putD (FL l []) d v=_;unfold WFr.putD;rw [h];simp only [Bool.false_eq_true,if_false,WFr.put1,FL,yX,sX]⟩
abbrev D2:=WFr->q8->Prop
section
variable (V:WEnv)
structure OpP (o:IOp) (dst:Option Nat) (fr:WFr) (H:q8) (N:D2):Prop where
 run:∃ fr' H',wOp V (wv V) o dst fr H=some (fr',H')/\N fr' H'
structure VO (ops:List IOper) (fr:WFr) (H:q8) (N:D2):Prop where
 run:∃ fr' H',B1 V (wv V) ops fr H=some (fr',H')/\N fr' H'
structure OpD (c:Cls) (o:IOp) (dst:Option Nat) (fr:WFr) (H:q8) (N:D2):Prop where
 run:∃ fr' H',wD V (wv V) c o dst fr H=some (fr',H')/\N fr' H'
structure VD (ops:List (Cls×IOper)) (fr:WFr) (H:q8) (N:D2):Prop where
 run:∃ fr' H',D8 V (wv V) ops fr H=some (fr',H')/\N fr' H'
abbrev Hs:=List (Nat×D2)
def zR:Hs->Nat->D2
 | [],_,_,_=>False
 | (j,K)::r,i,fr,H=>bif Nat.beq i j then K fr H else zR r i fr H
structure RP where
 ret:D2
 go:Nat->D2
instance:Coe D2 RP:=⟨fun p=>⟨p,fun _ _ _=>False⟩⟩
def vK (N:D2) (B:Hs) (R:RP):Ex->D2
 | .nrm=>N
 | .exit i=>zR B i
 | .ret=>R.ret
 | .goto l=>R.go l
structure Cnd (t b:Bool) (P:Prop):Prop where
 go:t=b->P
theorem rL {P:Prop}:Cnd false true P:=⟨fun h=>ff h⟩
theorem fH {P:Prop}:Cnd true false P:=⟨fun h=>ft h⟩
theorem nR {P:Prop} (h:P):Cnd true true P:=⟨fun _=>h⟩
theorem sA {P:Prop} (h:P):Cnd false false P:=⟨fun _=>h⟩
theorem qN {x y:Int} {P:Prop} (h:x=y->P):Cnd (x==y) true P:=⟨fun e=>h (eq_of_beq e)⟩
theorem M7 {x y:List UInt8} {P:Prop} (h:x=y->P):Cnd (x==y) true P:=⟨fun e=>h (eq_of_beq e)⟩
theorem qJ {x y:Int} {P:Prop} (h:¬ x=y->P):Cnd (x==y) false P:=⟨fun e=>h (fun q=>by subst q;simp at e)⟩
theorem L9 {x y:List UInt8} {P:Prop} (h:¬ x=y->P):Cnd (x==y) false P:=⟨fun e=>h (fun q=>by subst q;simp at e)⟩
theorem jG {x y:Int} {P:Prop} (h:¬ x=y->P):Cnd (x != y) true P:=⟨fun e=>h (fun q=>by subst q;simp at e)⟩
theorem jS {x y:Int} {P:Prop} (h:x=y->P):Cnd (x != y) false P:=⟨fun e=>h (by simpa using e)⟩
theorem o6 {p:Prop} {inst:Decidable p} {P:Prop} (h:p->P):Cnd (@decide p inst) true P:=⟨fun e=>h (of_decide_eq_true e)⟩
theorem f6 {p:Prop} {inst:Decidable p} {P:Prop} (h:¬ p->P):Cnd (@decide p inst) false P:=⟨fun e=>h (of_decide_eq_false e)⟩
theorem mR {t b:Bool} {P:Prop} (h:Cnd t (!b) P):Cnd (!t) b P:=⟨fun e=>h.go (by cases t<;>cases b<;>simp_all)⟩
theorem G5 {t:Bool} {P:Prop} (h:Cnd t false P):Cnd (!t) true P:=mR h
theorem H5 {t:Bool} {P:Prop} (h:Cnd t true P):Cnd (!t) false P:=mR h
theorem H6 {t b:Bool} {P:Prop} (h:t=b->P):Cnd t b P:=⟨h⟩
structure Dand (a b:Prop):Prop where
 one:a
 two:b
theorem zl6 {a b:Prop} (h1:a) (h2:b):Dand a b:=⟨h1,h2⟩
structure WP (c:ICode) (fr:WFr) (H:q8) (N:D2) (B:Hs) (R:RP):Prop where
 run:∃ s fr' H',wC V (wv V) witW c fr H=some (s,fr',H')/\vK N B R s fr' H'
end
section
variable {V:WEnv} {fr fr':WFr} {H H':q8} {N:D2} {B:Hs} {R:RP} {dst:Option Nat} {d:Nat}
theorem t7 (h:N fr H):WP V .skip fr H N B R:=⟨_,_,_,rfl,h⟩
theorem x9 (h:R.ret fr H):WP V .ret fr H N B R:=⟨_,_,_,rfl,h⟩
theorem U2 {i:Nat} (h:zR B i fr H):WP V (.exit i) fr H N B R:=⟨_,_,_,rfl,h⟩
def z83:Hs->Nat->Option D2
 | [],_=>none
 | (j,K)::r,i=>bif Nat.beq i j then some K else z83 r i
theorem v6 {a b:ICode} (h:WP V a fr H (fun fr' H'=>WP V b fr' H' N B R) B R):WP V (.seq a b) fr H N B R:=by
 obtain ⟨s,fr1,H1,h1,h2⟩:=h;cases s with
 | nrm=>
   obtain ⟨s,fr2,H2,h3,h4⟩:=h2;exact ⟨s,fr2,H2,by rw [yG,h1];exact h3,h4⟩
 | exit i=>exact ⟨.exit i,fr1,H1,by rw [yG,h1],h2⟩
 | goto l=>exact ⟨.goto l,fr1,H1,by rw [yG,h1],h2⟩
 | ret=>exact ⟨.ret,fr1,H1,by rw [yG,h1],h2⟩
theorem f5 {i:Nat} {a:ICode} (h:WP V a fr H N ((i,N)::B) R):WP V (.block i a) fr H N B R:=by
 obtain ⟨s,fr1,H1,h1,h2⟩:=h;cases s with
 | nrm=>exact ⟨.nrm,_,_,by rw [jX,h1],h2⟩
 | exit j=>
   by_cases hj:j=i
   . subst hj;refine ⟨.nrm,fr1,H1,by rw [jX,h1];simp only [if_true],?_⟩;have:(bif Nat.beq j j then N fr1 H1 else zR B j fr1 H1):=h2;rw [wN,if_pos rfl] at this;exact this
   . refine ⟨.exit j,fr1,H1,by rw [jX,h1];simp only [if_neg hj],?_⟩;have:(bif Nat.beq j i then N fr1 H1 else zR B j fr1 H1):=h2;rw [wN,if_neg hj] at this;exact this
 | goto l=>exact ⟨.goto l,_,_,by rw [jX,h1],h2⟩
 | ret=>exact ⟨.ret,_,_,by rw [jX,h1],h2⟩
theorem zh5 {ops:List IOper} (h:VO V ops { fr with al:=x6 } H N):WP V (.region ops) fr H N B R:=by
 obtain ⟨fr1,H1,h1,h2⟩:=h;exact ⟨.nrm,_,_,by rw [ze0,h1],h2⟩
theorem v7 {ops:List IOper} {l:List (Nat×WV)} {a:List (Nat×Option (Nat×Nat))} (h:VO V ops (FL l []) H N):WP V (.region ops) (FL l a) H N B R:=zh5 h
theorem q02 {ops:List (Cls×IOper)} (h:VD V ops { fr with al:=x6 } H N):WP V (.regionD ops) fr H N B R:=by
 obtain ⟨fr1,H1,h1,h2⟩:=h;exact ⟨.nrm,_,_,by rw [zh3,h1],h2⟩
theorem iR {ops:List (Cls×IOper)} {l:List (Nat×WV)} {a:List (Nat×Option (Nat×Nat))} (h:VD V ops (FL l []) H N):WP V (.regionD ops) (FL l a) H N B R:=q02 h
theorem wp_cond {x:Opd} {a b:ICode} {t:Bool} (hx:fr.rd x=.c (.bool t)) (h1:t=true->WP V a fr H N B R) (h2:t=false->WP V b fr H N B R):WP V (.cond x a b) fr H N B R:=by
 cases t with
 | true=>
   obtain ⟨s,fr1,H1,g1,g2⟩:=h1 rfl;exact ⟨s,fr1,H1,by rw [aU,hx];exact g1,g2⟩
 | false=>
   obtain ⟨s,fr1,H1,g1,g2⟩:=h2 rfl;exact ⟨s,fr1,H1,by rw [aU,hx];exact g1,g2⟩
theorem E9 {x:Opd} {a b:ICode} {t:Bool} (hx:fr.rd x=.c (.bool t)) (ht:t=true) (h1:WP V a fr H N B R):WP V (.cond x a b) fr H N B R:=wp_cond hx (fun _=>h1) (fun h=>by rw [ht] at h;cases h)
theorem wP {x:Opd} {a b:ICode} {t:Bool} (hx:fr.rd x=.c (.bool t)) (ht:t=false) (h1:WP V b fr H N B R):WP V (.cond x a b) fr H N B R:=wp_cond hx (fun h=>by rw [ht] at h;cases h) (fun _=>h1)
theorem v8 (h:N fr H):VO V [] fr H N:=⟨_,_,rfl,h⟩
theorem x3 {o:IOp} {r:List IOper} (h:OpP V o dst fr H (fun fr' H'=>VO V r fr' H' N)):VO V (⟨dst,none,o⟩::r) fr H N:=by
 obtain ⟨fr1,H1,h1,fr2,H2,h2,h3⟩:=h;refine ⟨fr2,H2,?_,h3⟩;show (match A8 V (wv V) ⟨dst,none,o⟩ fr H with
  | some (fr',H')=>B1 V (wv V) r fr' H'
  | none=>none)=_
 have:A8 V (wv V) ⟨dst,none,o⟩ fr H=wOp V (wv V) o dst fr H:=rfl;rw [this,h1];exact h2
theorem dW {o:IOp} {s:Nat} {w b:Bool} (hs:fr.env s=.c (.bool b)):A8 V (wv V) ⟨dst,some (s,w),o⟩ fr H=if b=w then wOp V (wv V) o dst fr H else some (fr.put dst .skipv,H):=by
 show (match fr.env s with
  | .c (.bool b)=>if b=w then wOp V (wv V) o dst fr H else some (fr.put dst .skipv,H)
  | .skipv=>some (fr.put dst .skipv,H)
  | _=>none)=_
 rw [hs]
theorem s7 {o:IOp} {r:List IOper} {s:Nat} {w b:Bool} (hs:fr.env s=.c (.bool b)) (hb:b=w) (h:OpP V o dst fr H (fun fr' H'=>VO V r fr' H' N)):VO V (⟨dst,some (s,w),o⟩::r) fr H N:=by
 obtain ⟨fr1,H1,h1,fr2,H2,h2,h3⟩:=h;refine ⟨fr2,H2,?_,h3⟩;show (match A8 V (wv V) ⟨dst,some (s,w),o⟩ fr H with
  | some (fr',H')=>B1 V (wv V) r fr' H'
  | none=>none)=_
 rw [dW hs,if_pos hb,h1];exact h2
theorem dI {o:IOp} {r:List IOper} {s:Nat} {w b:Bool} (hs:fr.env s=.c (.bool b)) (hb:b=!w) (hp:Put fr dst .skipv fr') (h:VO V r fr' H N):VO V (⟨dst,some (s,w),o⟩::r) fr H N:=by
 obtain ⟨fr2,H2,h2,h3⟩:=h;refine ⟨fr2,H2,?_,h3⟩;show (match A8 V (wv V) ⟨dst,some (s,w),o⟩ fr H with
  | some (fr',H')=>B1 V (wv V) r fr' H'
  | none=>none)=_
 rw [dW hs,if_neg (by intro e;subst e;cases b<;>cases hb),hp.eq];exact h2
theorem K6 {o:IOp} {r:List IOper} {s:Nat} {b:Bool} (hs:fr.env s=.c (.bool b)) (hb:b=false) (hp:Put fr dst .skipv fr') (h:VO V r fr' H N):VO V (⟨dst,some (s,true),o⟩::r) fr H N:=dI hs hb hp h
theorem A9 {o:IOp} {r:List IOper} {s:Nat} {b:Bool} (hs:fr.env s=.c (.bool b)) (hb:b=true) (hp:Put fr dst .skipv fr') (h:VO V r fr' H N):VO V (⟨dst,some (s,false),o⟩::r) fr H N:=dI hs hb hp h
theorem zY {o:IOp} {r:List IOper} {s:Nat} {w:Bool} (hs:fr.env s=.skipv) (hp:Put fr dst .skipv fr') (h:VO V r fr' H N):VO V (⟨dst,some (s,w),o⟩::r) fr H N:=by
 obtain ⟨fr2,H2,h2,h3⟩:=h;refine ⟨fr2,H2,?_,h3⟩;show (match (match fr.env s with
  | .c (.bool b)=>if b=w then wOp V (wv V) o dst fr H else some (fr.put dst .skipv,H)
  | .skipv=>some (fr.put dst .skipv,H)
  | _=>none) with
  | some (fr',H')=>B1 V (wv V) r fr' H'
  | none=>none)=_
 rw [hs,hp.eq];exact h2
theorem zx6 {l:List (Nat×WV)} {s:Nat} {v:WV} (h:frl l s=v):frl l=frl ((s,v)::l):=by
 rw [<-yX];funext x;show frl l x=if x=s then v else frl l x
 by_cases hx:x=s
 . subst hx;rw [if_pos rfl,h]
 . rw [if_neg hx]
theorem wZ {l:List (Nat×WV)} {a:List (Nat×Option (Nat×Nat))} {s:Nat} {v:WV} (h:(FL l a).env s=v):FL l a=FL ((s,v)::l) a:=by
 unfold FL;rw [<-zx6 h]
theorem oG {l:List (Nat×WV)} {a:List (Nat×Option (Nat×Nat))} {o:IOp} {r:List IOper} {s:Nat} {w b:Bool} (hs:(FL l a).env s=.c (.bool b))
 (h1:b=true->VO V (⟨dst,some (s,w),o⟩::r) (FL ((s,.c (.bool true))::l) a) H N) (h2:b=false->VO V (⟨dst,some (s,w),o⟩::r) (FL ((s,.c (.bool false))::l) a) H N) :
 VO V (⟨dst,some (s,w),o⟩::r) (FL l a) H N:=by
 cases b with
 | true=>rw [wZ hs];exact h1 rfl
 | false=>rw [wZ hs];exact h2 rfl
theorem c9 {l:List (Nat×WV)} {a:List (Nat×Option (Nat×Nat))} {s:Nat} {t:Bool} {x y:ICode} {B:Hs} {R:RP} (hs:(FL l a).env s=.c (.bool t))
 (h1:Cnd t true (WP V x (FL ((s,.c (.bool true))::l) a) H N B R)) (h2:Cnd t false (WP V y (FL ((s,.c (.bool false))::l) a) H N B R)):WP V (.cond (.t s) x y) (FL l a) H N B R:=by
 have hr:(FL l a).rd (.t s)=.c (.bool t):=by simp only [WFr.rd,hs];rfl
 refine wp_cond hr (fun e=>?_) (fun e=>?_)
 . subst e;rw [wZ hs];exact h1.go rfl
 . subst e;rw [wZ hs];exact h2.go rfl
theorem s8 {l:List (Nat×WV)} {a:List (Nat×Option (Nat×Nat))} {o:IOp} {r:List IOper} {s:Nat} {w b:Bool} (hs:(FL l a).env s=.c (.bool b))
 (h1:Cnd b true (VO V (⟨dst,some (s,w),o⟩::r) (FL ((s,.c (.bool true))::l) a) H N)) (h2:Cnd b false (VO V (⟨dst,some (s,w),o⟩::r) (FL ((s,.c (.bool false))::l) a) H N)) :
 VO V (⟨dst,some (s,w),o⟩::r) (FL l a) H N:=oG hs h1.go h2.go
end
end Go.Proofs.Lz
