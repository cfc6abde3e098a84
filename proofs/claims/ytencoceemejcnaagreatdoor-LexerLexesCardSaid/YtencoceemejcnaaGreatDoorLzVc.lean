/- A calculus over the evaluator with slices a5 values: one operation a step, and what is left to show. -/
import Derived.Test.YtencoceemejcnaaGreatDoorLzWOm
import Derived.Test.YtencoceemejcnaaGreatDoorLzSimp
namespace Go.Proofs.Lz
@[simp] theorem jj0 (E:WEnv) (c:C9) (it:A4->A4) (ops:List IOper) (fr:WFr) (H:q9) :
 wC E c it (.region ops) fr H=match M7 E c ops { fr with al:=f0 } H with
  | some (fr',H')=>some (.nrm,fr',H')
  | none=>none:=rfl
@[simp] theorem q44 (E:WEnv) (c:C9) (it:A4->A4) (ops:List (Cls×IOper)) (fr:WFr) (H:q9) :
 wC E c it (.regionD ops) fr H=match N1 E c ops { fr with al:=f0 } H with
  | some (fr',H')=>some (.nrm,fr',H')
  | none=>none:=rfl
@[simp] theorem bN (E:WEnv) (c:C9) (it:A4->A4) (a b:ICode) (fr:WFr) (H:q9) :
 wC E c it (.seq a b) fr H=match wC E c it a fr H with
  | some (.nrm,fr',H')=>wC E c it b fr' H'
  | r=>r:=rfl
@[simp] theorem w_skip (E:WEnv) (c:C9) (it:A4->A4) (fr:WFr) (H:q9):wC E c it .skip fr H=some (.nrm,fr,H):=rfl
@[simp] theorem w_exit (E:WEnv) (c:C9) (it:A4->A4) (i:Nat) (fr:WFr) (H:q9):wC E c it (.exit i) fr H=some (.exit i,fr,H):=rfl
@[simp] theorem w_goto (E:WEnv) (c:C9) (it:A4->A4) (i:Nat) (fr:WFr) (H:q9):wC E c it (.goto i) fr H=some (.goto i,fr,H):=rfl
@[simp] theorem w_ret (E:WEnv) (c:C9) (it:A4->A4) (fr:WFr) (H:q9):wC E c it .ret fr H=some (.ret,fr,H):=rfl
@[simp] theorem w_label (E:WEnv) (c:C9) (it:A4->A4) (i:Nat) (fr:WFr) (H:q9):wC E c it (.label i) fr H=some (.nrm,fr,H):=rfl
@[simp] theorem oI (E:WEnv) (c:C9) (it:A4->A4) (x:Opd) (a b:ICode) (fr:WFr) (H:q9) :
 wC E c it (.cond x a b) fr H=match fr.rd x with
  | .c (.bool t)=>if t=true then wC E c it a fr H else wC E c it b fr H
  | _=>none:=rfl
@[simp] theorem gK (E:WEnv) (c:C9) (it:A4->A4) (i:Nat) (a:ICode) (fr:WFr) (H:q9) :
 wC E c it (.block i a) fr H=match wC E c it a fr H with
  | some (.exit j,fr',H')=>if j=i then some (.nrm,fr',H') else some (.exit j,fr',H')
  | r=>r:=rfl
theorem zd5 (E:WEnv) (c:C9) (it:A4->A4) (l:List Nat) (a:ICode) (fr:WFr) (H:q9) :
 wC E c it (.loop l a) fr H=it (fun fr H=>wC E c it a (J8 l fr) H) fr H:=rfl
attribute [simp] J9 xO qV M7 M9 wOp y8 N1 L8 Q3 wD O3 WFr.place WFr.put WFr.putD WFr.put1 WFr.link WFr.rd O2 WV.flat ze7 X6 Q8 vX
attribute [simp] peek G9 qN yZ kJ qB okW okA hit A8 l8 K1 K6 inK D8 O9 B6 E4 I6 S7 M4 E5 s8 K3 A5 F8 D3 I4 H4 Lz.take Y4 J5 Z1 cellW dM fitsW R2 uH mP wW sS ixW wK pK pL uJ U8 W7 V3 dJ bY rV zD zW blind appW yM pR wP zS zJ plainW kY xG M5 W3 O7 noView xJ mU
attribute [simp] jU gW uF yY vN K4 shut1 uM zN qP shut U3 noRefW noRefW.noRefWL wU gI pI uP pT kU dQ H7 N2 wS bK vW W8 O1 xE jW J8 J4 I8 R7 qG M1 leave1 S1 qL
@[simp] theorem hitF_env (K:Pl->Bool) (fz:Bool) (w:WFr) (s:Nat):(D1 K fz w).env s=hit K fz (Pl.sl s) (w.env s):=rfl
@[simp] theorem hitF_al (K:Pl->Bool) (fz:Bool) (w:WFr):(D1 K fz w).al=w.al:=rfl
@[simp] theorem blindF_env (p:Pl) (w:WFr) (s:Nat):(mX p w).env s=blind p (w.env s):=rfl
@[simp] theorem blindF_al (p:Pl) (w:WFr):(mX p w).al=w.al:=rfl
@[simp] theorem peek1_c (q:Pl) (v:CV):L0 q (.c v)=(.c v):=rfl
@[simp] theorem thawW0_c (v:CV):J2 (.c v)=some v:=rfl
@[simp] theorem peek1_agg (q:Pl) (cs:List WV):L0 q (.agg cs)=(.agg cs):=rfl
@[simp] theorem thawW0_agg (cs:List WV):J2 (.agg cs)=none:=rfl
@[simp] theorem peek1_tup (q:Pl) (vs:List WV):L0 q (.tup vs)=(.tup vs):=rfl
@[simp] theorem thawW0_tup (vs:List WV):J2 (.tup vs)=none:=rfl
@[simp] theorem peek1_nils (q:Pl) :L0 q .nils=.nils:=rfl
@[simp] theorem thawW0_nils :J2 .nils=some (.frz none []):=rfl
@[simp] theorem peek1_own (q:Pl) (b:Bool) (e:Nat) (ek:Option Nat) (xs:List CV):L0 q (.own b e ek xs)=.view q b 0 e ek xs:=rfl
@[simp] theorem thawW0_own (b:Bool) (e:Nat) (ek:Option Nat) (xs:List CV):J2 (.own b e ek xs)=none:=rfl
@[simp] theorem peek1_view (q:Pl) (pl:Pl) (b:Bool) (off e:Nat) (ek:Option Nat) (xs:List CV):L0 q (.view pl b off e ek xs)=(.view pl b off e ek xs):=rfl
@[simp] theorem thawW0_view (pl:Pl) (b:Bool) (off e:Nat) (ek:Option Nat) (xs:List CV):J2 (.view pl b off e ek xs)=some (.frz ek xs):=rfl
@[simp] theorem peek1_imm (q:Pl) (fz:Bool) (ek:Option Nat) (xs:List CV):L0 q (.imm fz ek xs)=(.imm fz ek xs):=rfl
@[simp] theorem thawW0_imm (fz:Bool) (ek:Option Nat) (xs:List CV):J2 (.imm fz ek xs)=some (.frz ek xs):=rfl
@[simp] theorem peek1_ptr (q:Pl) (id off:Nat):L0 q (.ptr id off)=(.ptr id off):=rfl
@[simp] theorem thawW0_ptr (id off:Nat):J2 (.ptr id off)=none:=rfl
@[simp] theorem peek1_eptr (q:Pl) (pl:Pl) (i off:Nat) (ek:Option Nat) (x:CV):L0 q (.eptr pl i off ek x)=(.eptr pl i off ek x):=rfl
@[simp] theorem thawW0_eptr (pl:Pl) (i off:Nat) (ek:Option Nat) (x:CV):J2 (.eptr pl i off ek x)=none:=rfl
@[simp] theorem peek1_iptr (q:Pl) (fz:Bool) (ek:Option Nat) (x:CV) (off:Nat):L0 q (.iptr fz ek x off)=(.iptr fz ek x off):=rfl
@[simp] theorem thawW0_iptr (fz:Bool) (ek:Option Nat) (x:CV) (off:Nat):J2 (.iptr fz ek x off)=none:=rfl
@[simp] theorem peek1_lbox (q:Pl) (ek:Option Nat) (v:WV):L0 q (.lbox ek v)=(.lbox ek v):=rfl
@[simp] theorem thawW0_lbox (ek:Option Nat) (v:WV):J2 (.lbox ek v)=none:=rfl
@[simp] theorem peek1_fn (q:Pl) (f:Nat) (first cap:List WV):L0 q (.fn f first cap)=(.fn f first cap):=rfl
@[simp] theorem thawW0_fn (f:Nat) (first cap:List WV):J2 (.fn f first cap)=none:=rfl
@[simp] theorem peek1_skipv (q:Pl) :L0 q .skipv=.skipv:=rfl
@[simp] theorem thawW0_skipv :J2 .skipv=none:=rfl
@[simp] theorem peek1_undef (q:Pl) :L0 q .undef=.undef:=rfl
@[simp] theorem thawW0_undef :J2 .undef=none:=rfl
@[simp] theorem peek1_gone (q:Pl) :L0 q .gone=.gone:=rfl
@[simp] theorem thawW0_gone :J2 .gone=none:=rfl
theorem q76 {α:Type} {H:List α} {p:Nat} {x:α} (h:H[p]?=some x) (a:α):(H.set p a)[p]?=some a:=List.getElem?_set_self (gEs h).1
end Go.Proofs.Lz
set_option linter.unusedSimpArgs false
set_option linter.unusedVariables false
namespace Go.Proofs.Lz
def frl:List (Nat×WV)->Nat->WV
 | [],_=>.undef
 | (t,v)::r,s=>bif Nat.beq s t then v else frl r s
def lookA:List (Nat×Option (Nat×Nat))->Nat->Option (Nat×Nat)
 | [],_=>none
 | (t,v)::r,s=>bif Nat.beq s t then v else lookA r s
def FL (l:List (Nat×WV)) (a:List (Nat×Option (Nat×Nat))):WFr:={ env:=frl l,al:=lookA a }
theorem zQ {α:Type} (s t:Nat) (a b:α):(bif Nat.beq s t then a else b)=if s=t then a else b:=by
 by_cases h:s=t
 . subst h;simp
 . have:Nat.beq s t=false:=by
    cases hb:Nat.beq s t with
    | true=>exact absurd (Nat.eq_of_beq_eq_true hb) h
    | false=>rfl
   rw [this,if_neg h];rfl
theorem zw9:∀ l,frl l=J9 l:=by
 intro l;induction l with
 | nil=>rfl
 | cons p r ih=>
   funext s;obtain ⟨t,v⟩:=p;show (bif Nat.beq s t then v else frl r s)=if s=t then v else J9 r s
   rw [zQ,ih]
theorem tZ (l:List (Nat×WV)):({ env:=J9 l,al:=f0 }:WFr)=FL l []:=by
 unfold FL;rw [zw9];rfl
theorem vZ (l:List (Nat×WV)) (d:Nat) (v:WV):upd (frl l) d v=frl ((d,v)::l):=by
 funext s;show (if s=d then v else frl l s)=(bif Nat.beq s d then v else frl l s);rw [zQ]
theorem cL (l:List (Nat×Option (Nat×Nat))) (d:Nat) (v:Option (Nat×Nat)):upd (lookA l) d v=lookA ((d,v)::l):=by
 funext s;show (if s=d then v else lookA l s)=(bif Nat.beq s d then v else lookA l s);rw [zQ]
theorem lP (d:Nat):upd (lookA []) d none=lookA []:=by
 funext s;show (if s=d then none else none)=none;split<;>rfl
theorem ff {p:Prop} (h:false=true):p:=absurd h Bool.false_ne_true
theorem ft {p:Prop} (h:true=false):p:=absurd h.symm Bool.false_ne_true
structure Put (fr:WFr) (dst:Option Nat) (v:WV) (fr':WFr):Prop where
 eq:fr.put dst v=fr'
theorem q7 {l:List (Nat×WV)} {d:Nat} {u:CV}:Put (FL l []) (some d) (.c u) (FL ((d,.c u)::l) []):=⟨by
 show WFr.putD (FL l []) d (.c u)=_;have:A5 (.c u)=false:=rfl;unfold WFr.putD;rw [this];simp only [Bool.false_eq_true,if_false,WFr.put1,FL,vZ,lP]⟩
theorem j8 {l:List (Nat×WV)} {d:Nat} {v:WV} (h:A5 v=false):Put (FL l []) (some d) v (FL ((d,v)::l) []):=⟨by
 show WFr.putD (FL l []) d v=_;unfold WFr.putD;rw [h];simp only [Bool.false_eq_true,if_false,WFr.put1,FL,vZ,lP]⟩
theorem G0 {l:List (Nat×WV)} {a:List (Nat×Option (Nat×Nat))} {d:Nat} {v:WV} (h:A5 v=false):Put (FL l a) (some d) v (FL ((d,v)::l) ((d,none)::a)):=⟨by
 show WFr.putD (FL l a) d v=_;unfold WFr.putD;rw [h];simp only [Bool.false_eq_true,if_false,WFr.put1,FL,vZ,cL]⟩
abbrev f4:=WFr->q9->Prop
section
variable (V:WEnv)
structure OpP (o:IOp) (dst:Option Nat) (fr:WFr) (H:q9) (N:f4):Prop where
 run:∃ fr' H',wOp V (wv V) o dst fr H=some (fr',H')/\N fr' H'
structure VO (ops:List IOper) (fr:WFr) (H:q9) (N:f4):Prop where
 run:∃ fr' H',M7 V (wv V) ops fr H=some (fr',H')/\N fr' H'
structure OpD (c:Cls) (o:IOp) (dst:Option Nat) (fr:WFr) (H:q9) (N:f4):Prop where
 run:∃ fr' H',wD V (wv V) c o dst fr H=some (fr',H')/\N fr' H'
structure VD (ops:List (Cls×IOper)) (fr:WFr) (H:q9) (N:f4):Prop where
 run:∃ fr' H',N1 V (wv V) ops fr H=some (fr',H')/\N fr' H'
abbrev Hs:=List (Nat×f4)
def jC:Hs->Nat->f4
 | [],_,_,_=>False
 | (j,K)::r,i,fr,H=>bif Nat.beq i j then K fr H else jC r i fr H
structure RP where
 ret:f4
 go:Nat->f4
instance:Coe f4 RP:=⟨fun p=>⟨p,fun _ _ _=>False⟩⟩
def yI (N:f4) (B:Hs) (R:RP):Ex->f4
 | .nrm=>N
 | .exit i=>jC B i
 | .ret=>R.ret
 | .goto l=>R.go l
structure Cnd (t b:Bool) (P:Prop):Prop where
 go:t=b->P
theorem G1 {P:Prop}:Cnd false true P:=⟨fun h=>ff h⟩
theorem C2 {P:Prop}:Cnd true false P:=⟨fun h=>ft h⟩
theorem C3 {P:Prop} (h:P):Cnd true true P:=⟨fun _=>h⟩
theorem F9 {P:Prop} (h:P):Cnd false false P:=⟨fun _=>h⟩
theorem u7 {x y:Int} {P:Prop} (h:x=y->P):Cnd (x==y) true P:=⟨fun e=>h (eq_of_beq e)⟩
theorem L1 {x y:List UInt8} {P:Prop} (h:x=y->P):Cnd (x==y) true P:=⟨fun e=>h (eq_of_beq e)⟩
theorem g8 {x y:Int} {P:Prop} (h:¬ x=y->P):Cnd (x==y) false P:=⟨fun e=>h (fun q=>by subst q;simp at e)⟩
theorem L2 {x y:List UInt8} {P:Prop} (h:¬ x=y->P):Cnd (x==y) false P:=⟨fun e=>h (fun q=>by subst q;simp at e)⟩
theorem f5 {x y:Int} {P:Prop} (h:¬ x=y->P):Cnd (x != y) true P:=⟨fun e=>h (fun q=>by subst q;simp at e)⟩
theorem f6 {x y:Int} {P:Prop} (h:x=y->P):Cnd (x != y) false P:=⟨fun e=>h (by simpa using e)⟩
theorem x6 {p:Prop} {inst:Decidable p} {P:Prop} (h:p->P):Cnd (@decide p inst) true P:=⟨fun e=>h (of_decide_eq_true e)⟩
theorem x5 {p:Prop} {inst:Decidable p} {P:Prop} (h:¬ p->P):Cnd (@decide p inst) false P:=⟨fun e=>h (of_decide_eq_false e)⟩
theorem z38 {t b:Bool} {P:Prop} (h:Cnd t (!b) P):Cnd (!t) b P:=⟨fun e=>h.go (by cases t<;>cases b<;>simp_all)⟩
theorem s4 {t:Bool} {P:Prop} (h:Cnd t false P):Cnd (!t) true P:=z38 h
theorem s5 {t:Bool} {P:Prop} (h:Cnd t true P):Cnd (!t) false P:=z38 h
theorem C0 {t b:Bool} {P:Prop} (h:t=b->P):Cnd t b P:=⟨h⟩
structure Dand (a b:Prop):Prop where
 one:a
 two:b
theorem f9 {a b:Prop} (h1:a) (h2:b):Dand a b:=⟨h1,h2⟩
structure WP (c:ICode) (fr:WFr) (H:q9) (N:f4) (B:Hs) (R:RP):Prop where
 run:∃ s fr' H',wC V (wv V) witW c fr H=some (s,fr',H')/\yI N B R s fr' H'
end
section
variable {V:WEnv} {fr fr':WFr} {H H':q9} {N:f4} {B:Hs} {R:RP} {dst:Option Nat} {d:Nat}
theorem v8 (h:N fr H):WP V .skip fr H N B R:=⟨_,_,_,rfl,h⟩
theorem w9 (h:R.ret fr H):WP V .ret fr H N B R:=⟨_,_,_,rfl,h⟩
theorem l0 {i:Nat} (h:jC B i fr H):WP V (.exit i) fr H N B R:=⟨_,_,_,rfl,h⟩
def cG:Hs->Nat->Option f4
 | [],_=>none
 | (j,K)::r,i=>bif Nat.beq i j then some K else cG r i
theorem T9 {i:Nat} {K:f4}:∀ {B:Hs},cG B i=some K->K fr H->jC B i fr H:=by
 intro B;induction B with
 | nil=>intro h;cases h
 | cons p r ih=>
   obtain ⟨j,K'⟩:=p;intro h hk;have h:(bif Nat.beq i j then some K' else cG r i)=some K:=h;show bif Nat.beq i j then K' fr H else jC r i fr H
   cases hb:Nat.beq i j with
   | true=>rw [hb] at h;injection h with h;subst h;exact hk
   | false=>rw [hb] at h;exact ih h hk
theorem j1 {a b:ICode} (h:WP V a fr H (fun fr' H'=>WP V b fr' H' N B R) B R):WP V (.seq a b) fr H N B R:=by
 obtain ⟨s,fr1,H1,h1,h2⟩:=h;cases s with
 | nrm=>
   obtain ⟨s,fr2,H2,h3,h4⟩:=h2;exact ⟨s,fr2,H2,by rw [bN,h1];exact h3,h4⟩
 | exit i=>exact ⟨.exit i,fr1,H1,by rw [bN,h1],h2⟩
 | goto l=>exact ⟨.goto l,fr1,H1,by rw [bN,h1],h2⟩
 | ret=>exact ⟨.ret,fr1,H1,by rw [bN,h1],h2⟩
theorem x3 {i:Nat} {a:ICode} (h:WP V a fr H N ((i,N)::B) R):WP V (.block i a) fr H N B R:=by
 obtain ⟨s,fr1,H1,h1,h2⟩:=h;cases s with
 | nrm=>exact ⟨.nrm,_,_,by rw [gK,h1],h2⟩
 | exit j=>
   by_cases hj:j=i
   . subst hj;refine ⟨.nrm,fr1,H1,by rw [gK,h1];simp only [if_true],?_⟩;have:(bif Nat.beq j j then N fr1 H1 else jC B j fr1 H1):=h2;rw [zQ,if_pos rfl] at this;exact this
   . refine ⟨.exit j,fr1,H1,by rw [gK,h1];simp only [if_neg hj],?_⟩;have:(bif Nat.beq j i then N fr1 H1 else jC B j fr1 H1):=h2;rw [zQ,if_neg hj] at this;exact this
 | goto l=>exact ⟨.goto l,_,_,by rw [gK,h1],h2⟩
 | ret=>exact ⟨.ret,_,_,by rw [gK,h1],h2⟩
theorem zt3 {ops:List IOper} (h:VO V ops { fr with al:=f0 } H N):WP V (.region ops) fr H N B R:=by
 obtain ⟨fr1,H1,h1,h2⟩:=h;exact ⟨.nrm,_,_,by rw [jj0,h1],h2⟩
theorem j3 {ops:List IOper} {l:List (Nat×WV)} {a:List (Nat×Option (Nat×Nat))} (h:VO V ops (FL l []) H N):WP V (.region ops) (FL l a) H N B R:=zt3 h
theorem jg7 {ops:List (Cls×IOper)} (h:VD V ops { fr with al:=f0 } H N):WP V (.regionD ops) fr H N B R:=by
 obtain ⟨fr1,H1,h1,h2⟩:=h;exact ⟨.nrm,_,_,by rw [q44,h1],h2⟩
theorem o0 {ops:List (Cls×IOper)} {l:List (Nat×WV)} {a:List (Nat×Option (Nat×Nat))} (h:VD V ops (FL l []) H N):WP V (.regionD ops) (FL l a) H N B R:=jg7 h
theorem wp_cond {x:Opd} {a b:ICode} {t:Bool} (hx:fr.rd x=.c (.bool t)) (h1:t=true->WP V a fr H N B R) (h2:t=false->WP V b fr H N B R):WP V (.cond x a b) fr H N B R:=by
 cases t with
 | true=>
   obtain ⟨s,fr1,H1,g1,g2⟩:=h1 rfl;exact ⟨s,fr1,H1,by rw [oI,hx];exact g1,g2⟩
 | false=>
   obtain ⟨s,fr1,H1,g1,g2⟩:=h2 rfl;exact ⟨s,fr1,H1,by rw [oI,hx];exact g1,g2⟩
theorem m5 {x:Opd} {a b:ICode} {t:Bool} (hx:fr.rd x=.c (.bool t)) (ht:t=true) (h1:WP V a fr H N B R):WP V (.cond x a b) fr H N B R:=wp_cond hx (fun _=>h1) (fun h=>by rw [ht] at h;cases h)
theorem g9 {x:Opd} {a b:ICode} {t:Bool} (hx:fr.rd x=.c (.bool t)) (ht:t=false) (h1:WP V b fr H N B R):WP V (.cond x a b) fr H N B R:=wp_cond hx (fun h=>by rw [ht] at h;cases h) (fun _=>h1)
theorem j4 (h:N fr H):VO V [] fr H N:=⟨_,_,rfl,h⟩
theorem j2 {o:IOp} {r:List IOper} (h:OpP V o dst fr H (fun fr' H'=>VO V r fr' H' N)):VO V (⟨dst,none,o⟩::r) fr H N:=by
 obtain ⟨fr1,H1,h1,fr2,H2,h2,h3⟩:=h;refine ⟨fr2,H2,?_,h3⟩;show (match M9 V (wv V) ⟨dst,none,o⟩ fr H with
  | some (fr',H')=>M7 V (wv V) r fr' H'
  | none=>none)=_
 have:M9 V (wv V) ⟨dst,none,o⟩ fr H=wOp V (wv V) o dst fr H:=rfl;rw [this,h1];exact h2
theorem fX {o:IOp} {s:Nat} {w b:Bool} (hs:fr.env s=.c (.bool b)):M9 V (wv V) ⟨dst,some (s,w),o⟩ fr H=if b=w then wOp V (wv V) o dst fr H else some (fr.put dst .skipv,H):=by
 show (match fr.env s with
  | .c (.bool b)=>if b=w then wOp V (wv V) o dst fr H else some (fr.put dst .skipv,H)
  | .skipv=>some (fr.put dst .skipv,H)
  | _=>none)=_
 rw [hs]
theorem x8 {o:IOp} {r:List IOper} {s:Nat} {w b:Bool} (hs:fr.env s=.c (.bool b)) (hb:b=w) (h:OpP V o dst fr H (fun fr' H'=>VO V r fr' H' N)):VO V (⟨dst,some (s,w),o⟩::r) fr H N:=by
 obtain ⟨fr1,H1,h1,fr2,H2,h2,h3⟩:=h;refine ⟨fr2,H2,?_,h3⟩;show (match M9 V (wv V) ⟨dst,some (s,w),o⟩ fr H with
  | some (fr',H')=>M7 V (wv V) r fr' H'
  | none=>none)=_
 rw [fX hs,if_pos hb,h1];exact h2
theorem zg1 {o:IOp} {r:List IOper} {s:Nat} {w b:Bool} (hs:fr.env s=.c (.bool b)) (hb:b=!w) (hp:Put fr dst .skipv fr') (h:VO V r fr' H N):VO V (⟨dst,some (s,w),o⟩::r) fr H N:=by
 obtain ⟨fr2,H2,h2,h3⟩:=h;refine ⟨fr2,H2,?_,h3⟩;show (match M9 V (wv V) ⟨dst,some (s,w),o⟩ fr H with
  | some (fr',H')=>M7 V (wv V) r fr' H'
  | none=>none)=_
 rw [fX hs,if_neg (by intro e;subst e;cases b<;>cases hb),hp.eq];exact h2
theorem b9 {o:IOp} {r:List IOper} {s:Nat} {b:Bool} (hs:fr.env s=.c (.bool b)) (hb:b=false) (hp:Put fr dst .skipv fr') (h:VO V r fr' H N):VO V (⟨dst,some (s,true),o⟩::r) fr H N:=zg1 hs hb hp h
theorem l4 {o:IOp} {r:List IOper} {s:Nat} {b:Bool} (hs:fr.env s=.c (.bool b)) (hb:b=true) (hp:Put fr dst .skipv fr') (h:VO V r fr' H N):VO V (⟨dst,some (s,false),o⟩::r) fr H N:=zg1 hs hb hp h
theorem qS {o:IOp} {r:List IOper} {s:Nat} {w:Bool} (hs:fr.env s=.skipv) (hp:Put fr dst .skipv fr') (h:VO V r fr' H N):VO V (⟨dst,some (s,w),o⟩::r) fr H N:=by
 obtain ⟨fr2,H2,h2,h3⟩:=h;refine ⟨fr2,H2,?_,h3⟩;show (match (match fr.env s with
  | .c (.bool b)=>if b=w then wOp V (wv V) o dst fr H else some (fr.put dst .skipv,H)
  | .skipv=>some (fr.put dst .skipv,H)
  | _=>none) with
  | some (fr',H')=>M7 V (wv V) r fr' H'
  | none=>none)=_
 rw [hs,hp.eq];exact h2
theorem qn5 {l:List (Nat×WV)} {s:Nat} {v:WV} (h:frl l s=v):frl l=frl ((s,v)::l):=by
 rw [<-vZ];funext x;show frl l x=if x=s then v else frl l x
 by_cases hx:x=s
 . subst hx;rw [if_pos rfl,h]
 . rw [if_neg hx]
theorem yS {l:List (Nat×WV)} {a:List (Nat×Option (Nat×Nat))} {s:Nat} {v:WV} (h:(FL l a).env s=v):FL l a=FL ((s,v)::l) a:=by
 unfold FL;rw [<-qn5 h]
theorem zw2 {l:List (Nat×WV)} {a:List (Nat×Option (Nat×Nat))} {o:IOp} {r:List IOper} {s:Nat} {w b:Bool} (hs:(FL l a).env s=.c (.bool b))
 (h1:b=true->VO V (⟨dst,some (s,w),o⟩::r) (FL ((s,.c (.bool true))::l) a) H N) (h2:b=false->VO V (⟨dst,some (s,w),o⟩::r) (FL ((s,.c (.bool false))::l) a) H N) :
 VO V (⟨dst,some (s,w),o⟩::r) (FL l a) H N:=by
 cases b with
 | true=>rw [yS hs];exact h1 rfl
 | false=>rw [yS hs];exact h2 rfl
theorem v7 {l:List (Nat×WV)} {a:List (Nat×Option (Nat×Nat))} {s:Nat} {t:Bool} {x y:ICode} {B:Hs} {R:RP} (hs:(FL l a).env s=.c (.bool t))
 (h1:Cnd t true (WP V x (FL ((s,.c (.bool true))::l) a) H N B R)) (h2:Cnd t false (WP V y (FL ((s,.c (.bool false))::l) a) H N B R)):WP V (.cond (.t s) x y) (FL l a) H N B R:=by
 have hr:(FL l a).rd (.t s)=.c (.bool t):=by simp only [WFr.rd,hs];rfl
 refine wp_cond hr (fun e=>?_) (fun e=>?_)
 . subst e;rw [yS hs];exact h1.go rfl
 . subst e;rw [yS hs];exact h2.go rfl
theorem y7 {l:List (Nat×WV)} {a:List (Nat×Option (Nat×Nat))} {o:IOp} {r:List IOper} {s:Nat} {w b:Bool} (hs:(FL l a).env s=.c (.bool b))
 (h1:Cnd b true (VO V (⟨dst,some (s,w),o⟩::r) (FL ((s,.c (.bool true))::l) a) H N)) (h2:Cnd b false (VO V (⟨dst,some (s,w),o⟩::r) (FL ((s,.c (.bool false))::l) a) H N)) :
 VO V (⟨dst,some (s,w),o⟩::r) (FL l a) H N:=zw2 hs h1.go h2.go
end
end Go.Proofs.Lz
