/- A calculus over the evaluator with slices a5 values: one operation a step, and what is left to show. -/
import Derived.Test.YtclbpddolhgibaaGreatDoorLzWOm
import Derived.Test.YtclbpddolhgibaaGreatDoorLzSimp
namespace Go.Proofs.Lz
@[simp] theorem iR (E:WEnv) (c:x9) (it:w9->w9) (ops:List IOper) (fr:WFr) (H:q8) :
 wC E c it (.region ops) fr H=match B5 E c ops { fr with al:=j8 } H with
  | some (fr',H')=>some (.nrm,fr',H')
  | none=>none:=rfl
@[simp] theorem oD (E:WEnv) (c:x9) (it:w9->w9) (ops:List (Cls×IOper)) (fr:WFr) (H:q8) :
 wC E c it (.regionD ops) fr H=match A3 E c ops { fr with al:=j8 } H with
  | some (fr',H')=>some (.nrm,fr',H')
  | none=>none:=rfl
@[simp] theorem vZ (E:WEnv) (c:x9) (it:w9->w9) (a b:ICode) (fr:WFr) (H:q8) :
 wC E c it (.seq a b) fr H=match wC E c it a fr H with
  | some (.nrm,fr',H')=>wC E c it b fr' H'
  | r=>r:=rfl
@[simp] theorem w_skip (E:WEnv) (c:x9) (it:w9->w9) (fr:WFr) (H:q8):wC E c it .skip fr H=some (.nrm,fr,H):=rfl
@[simp] theorem w_exit (E:WEnv) (c:x9) (it:w9->w9) (i:Nat) (fr:WFr) (H:q8):wC E c it (.exit i) fr H=some (.exit i,fr,H):=rfl
@[simp] theorem w_goto (E:WEnv) (c:x9) (it:w9->w9) (i:Nat) (fr:WFr) (H:q8):wC E c it (.goto i) fr H=some (.goto i,fr,H):=rfl
@[simp] theorem w_ret (E:WEnv) (c:x9) (it:w9->w9) (fr:WFr) (H:q8):wC E c it .ret fr H=some (.ret,fr,H):=rfl
@[simp] theorem w_label (E:WEnv) (c:x9) (it:w9->w9) (i:Nat) (fr:WFr) (H:q8):wC E c it (.label i) fr H=some (.nrm,fr,H):=rfl
@[simp] theorem aO (E:WEnv) (c:x9) (it:w9->w9) (x:Opd) (a b:ICode) (fr:WFr) (H:q8) :
 wC E c it (.cond x a b) fr H=match fr.rd x with
  | .c (.bool t)=>if t=true then wC E c it a fr H else wC E c it b fr H
  | _=>none:=rfl
@[simp] theorem wM (E:WEnv) (c:x9) (it:w9->w9) (i:Nat) (a:ICode) (fr:WFr) (H:q8) :
 wC E c it (.block i a) fr H=match wC E c it a fr H with
  | some (.exit j,fr',H')=>if j=i then some (.nrm,fr',H') else some (.exit j,fr',H')
  | r=>r:=rfl
theorem zk9 (E:WEnv) (c:x9) (it:w9->w9) (l:List Nat) (a:ICode) (fr:WFr) (H:q8) :
 wC E c it (.loop l a) fr H=it (fun fr H=>wC E c it a (o8 l fr) H) fr H:=rfl
attribute [simp] l8 Z9 Q7 B5 i8 wOp j1 A3 e9 E2 wD D9 WFr.place WFr.put WFr.putD WFr.put1 WFr.link WFr.rd D6 WV.flat xM K6 I9 qJ
attribute [simp] peek r7 V1 qX jW N2 okW okA hit u3 w8 C6 B9 inK d5 G9 x3 c9 A8 F6 A9 b9 j3 i7 v7 m9 u4 l4 L0 Lz.take qF o9 M6 cellW vK fitsW N7 zJ xN zS uY ixW Y6 jF wE zR I2 J4 I3 vM vY gR O6 O5 blind appW qK uG T8 N8 jV plainW lR jT G4 I1 C4 noView zC vX
attribute [simp] S7 wA qZ zT Y4 f4 shut1 qT Q0 U7 shut I8 noRefW noRefW.noRefWL U8 jU wY qC wZ wI vL a7 C0 V3 uH X6 M5 G5 Y3 zF o8 D5 l9 E9 Q6 o0 leave1 E8 Z5
@[simp] theorem hitF_env (K:Pl->Bool) (fz:Bool) (w:WFr) (s:Nat):(u5 K fz w).env s=hit K fz (Pl.sl s) (w.env s):=rfl
@[simp] theorem hitF_al (K:Pl->Bool) (fz:Bool) (w:WFr):(u5 K fz w).al=w.al:=rfl
@[simp] theorem blindF_env (p:Pl) (w:WFr) (s:Nat):(xU p w).env s=blind p (w.env s):=rfl
@[simp] theorem blindF_al (p:Pl) (w:WFr):(xU p w).al=w.al:=rfl
@[simp] theorem peek1_c (q:Pl) (v:CV):A1 q (.c v)=(.c v):=rfl
@[simp] theorem thawW0_c (v:CV):f9 (.c v)=some v:=rfl
@[simp] theorem peek1_agg (q:Pl) (cs:List WV):A1 q (.agg cs)=(.agg cs):=rfl
@[simp] theorem thawW0_agg (cs:List WV):f9 (.agg cs)=none:=rfl
@[simp] theorem peek1_tup (q:Pl) (vs:List WV):A1 q (.tup vs)=(.tup vs):=rfl
@[simp] theorem thawW0_tup (vs:List WV):f9 (.tup vs)=none:=rfl
@[simp] theorem peek1_nils (q:Pl) :A1 q .nils=.nils:=rfl
@[simp] theorem thawW0_nils :f9 .nils=some (.frz none []):=rfl
@[simp] theorem peek1_own (q:Pl) (b:Bool) (e:Nat) (ek:Option Nat) (xs:List CV):A1 q (.own b e ek xs)=.view q b 0 e ek xs:=rfl
@[simp] theorem thawW0_own (b:Bool) (e:Nat) (ek:Option Nat) (xs:List CV):f9 (.own b e ek xs)=none:=rfl
@[simp] theorem peek1_view (q:Pl) (pl:Pl) (b:Bool) (off e:Nat) (ek:Option Nat) (xs:List CV):A1 q (.view pl b off e ek xs)=(.view pl b off e ek xs):=rfl
@[simp] theorem thawW0_view (pl:Pl) (b:Bool) (off e:Nat) (ek:Option Nat) (xs:List CV):f9 (.view pl b off e ek xs)=some (.frz ek xs):=rfl
@[simp] theorem peek1_imm (q:Pl) (fz:Bool) (ek:Option Nat) (xs:List CV):A1 q (.imm fz ek xs)=(.imm fz ek xs):=rfl
@[simp] theorem thawW0_imm (fz:Bool) (ek:Option Nat) (xs:List CV):f9 (.imm fz ek xs)=some (.frz ek xs):=rfl
@[simp] theorem peek1_ptr (q:Pl) (id off:Nat):A1 q (.ptr id off)=(.ptr id off):=rfl
@[simp] theorem thawW0_ptr (id off:Nat):f9 (.ptr id off)=none:=rfl
@[simp] theorem peek1_eptr (q:Pl) (pl:Pl) (i off:Nat) (ek:Option Nat) (x:CV):A1 q (.eptr pl i off ek x)=(.eptr pl i off ek x):=rfl
@[simp] theorem thawW0_eptr (pl:Pl) (i off:Nat) (ek:Option Nat) (x:CV):f9 (.eptr pl i off ek x)=none:=rfl
@[simp] theorem peek1_iptr (q:Pl) (fz:Bool) (ek:Option Nat) (x:CV) (off:Nat):A1 q (.iptr fz ek x off)=(.iptr fz ek x off):=rfl
@[simp] theorem thawW0_iptr (fz:Bool) (ek:Option Nat) (x:CV) (off:Nat):f9 (.iptr fz ek x off)=none:=rfl
@[simp] theorem peek1_lbox (q:Pl) (ek:Option Nat) (v:WV):A1 q (.lbox ek v)=(.lbox ek v):=rfl
@[simp] theorem thawW0_lbox (ek:Option Nat) (v:WV):f9 (.lbox ek v)=none:=rfl
@[simp] theorem peek1_fn (q:Pl) (f:Nat) (first cap:List WV):A1 q (.fn f first cap)=(.fn f first cap):=rfl
@[simp] theorem thawW0_fn (f:Nat) (first cap:List WV):f9 (.fn f first cap)=none:=rfl
@[simp] theorem peek1_skipv (q:Pl) :A1 q .skipv=.skipv:=rfl
@[simp] theorem thawW0_skipv :f9 .skipv=none:=rfl
@[simp] theorem peek1_undef (q:Pl) :A1 q .undef=.undef:=rfl
@[simp] theorem thawW0_undef :f9 .undef=none:=rfl
@[simp] theorem peek1_gone (q:Pl) :A1 q .gone=.gone:=rfl
@[simp] theorem thawW0_gone :f9 .gone=none:=rfl
theorem set_get {α:Type} {H:List α} {p:Nat} {x:α} (h:H[p]?=some x) (a:α):(H.set p a)[p]?=some a:=List.getElem?_set_self (gEs h).1
end Go.Proofs.Lz
set_option linter.unusedSimpArgs false
set_option linter.unusedVariables false
namespace Go.Proofs.Lz
def frl:List (Nat×WV)->Nat->WV
 | [],_=>.undef
 | (t,v)::r,s=>bif Nat.beq s t then v else frl r s
def lookA:List (Nat×Option (Nat×Nat))->Nat->Option (Nat×Nat)
 | [],_=>none
 | (t,v)::r,s=>bif Nat.beq s t then v else lookA r s
def FL (l:List (Nat×WV)) (a:List (Nat×Option (Nat×Nat))):WFr:={ env:=frl l,al:=lookA a }
theorem R9 {α:Type} (s t:Nat) (a b:α):(bif Nat.beq s t then a else b)=if s=t then a else b:=by
 by_cases h:s=t
 . subst h;simp
 . have:Nat.beq s t=false:=by
    cases hb:Nat.beq s t with
    | true=>exact absurd (Nat.eq_of_beq_eq_true hb) h
    | false=>rfl
   rw [this,if_neg h];rfl
theorem zx9:∀ l,frl l=l8 l:=by
 intro l;induction l with
 | nil=>rfl
 | cons p r ih=>
   funext s;obtain ⟨t,v⟩:=p;show (bif Nat.beq s t then v else frl r s)=if s=t then v else l8 r s
   rw [R9,ih]
theorem nD (l:List (Nat×WV)):({ env:=l8 l,al:=j8 }:WFr)=FL l []:=by
 unfold FL;rw [zx9];rfl
theorem qN (l:List (Nat×WV)) (d:Nat) (v:WV):upd (frl l) d v=frl ((d,v)::l):=by
 funext s;show (if s=d then v else frl l s)=(bif Nat.beq s d then v else frl l s);rw [R9]
theorem tQ (l:List (Nat×Option (Nat×Nat))) (d:Nat) (v:Option (Nat×Nat)):upd (lookA l) d v=lookA ((d,v)::l):=by
 funext s;show (if s=d then v else lookA l s)=(bif Nat.beq s d then v else lookA l s);rw [R9]
theorem nH (d:Nat):upd (lookA []) d none=lookA []:=by
 funext s;show (if s=d then none else none)=none;split<;>rfl
theorem ff {p:Prop} (h:false=true):p:=absurd h Bool.false_ne_true
theorem ft {p:Prop} (h:true=false):p:=absurd h.symm Bool.false_ne_true
structure Put (fr:WFr) (dst:Option Nat) (v:WV) (fr':WFr):Prop where
 eq:fr.put dst v=fr'
theorem y6 {l:List (Nat×WV)} {d:Nat} {u:CV}:Put (FL l []) (some d) (.c u) (FL ((d,.c u)::l) []):=⟨by
 show WFr.putD (FL l []) d (.c u)=_;have:v7 (.c u)=false:=rfl;unfold WFr.putD;rw [this];simp only [Bool.false_eq_true,if_false,WFr.put1,FL,qN,nH]⟩
theorem Y7 {l:List (Nat×WV)} {d:Nat} {v:WV} (h:v7 v=false):Put (FL l []) (some d) v (FL ((d,v)::l) []):=⟨by
 show WFr.putD (FL l []) d v=_;unfold WFr.putD;rw [h];simp only [Bool.false_eq_true,if_false,WFr.put1,FL,qN,nH]⟩
theorem F9 {l:List (Nat×WV)} {a:List (Nat×Option (Nat×Nat))} {d:Nat} {v:WV} (h:v7 v=false):Put (FL l a) (some d) v (FL ((d,v)::l) ((d,none)::a)):=⟨by
 show WFr.putD (FL l a) d v=_;unfold WFr.putD;rw [h];simp only [Bool.false_eq_true,if_false,WFr.put1,FL,qN,tQ]⟩
abbrev C9:=WFr->q8->Prop
section
variable (V:WEnv)
structure OpP (o:IOp) (dst:Option Nat) (fr:WFr) (H:q8) (N:C9):Prop where
 run:∃ fr' H',wOp V (wv V) o dst fr H=some (fr',H')/\N fr' H'
structure VO (ops:List IOper) (fr:WFr) (H:q8) (N:C9):Prop where
 run:∃ fr' H',B5 V (wv V) ops fr H=some (fr',H')/\N fr' H'
structure OpD (c:Cls) (o:IOp) (dst:Option Nat) (fr:WFr) (H:q8) (N:C9):Prop where
 run:∃ fr' H',wD V (wv V) c o dst fr H=some (fr',H')/\N fr' H'
structure VD (ops:List (Cls×IOper)) (fr:WFr) (H:q8) (N:C9):Prop where
 run:∃ fr' H',A3 V (wv V) ops fr H=some (fr',H')/\N fr' H'
abbrev Hs:=List (Nat×C9)
def qL:Hs->Nat->C9
 | [],_,_,_=>False
 | (j,K)::r,i,fr,H=>bif Nat.beq i j then K fr H else qL r i fr H
structure RP where
 ret:C9
 go:Nat->C9
instance:Coe C9 RP:=⟨fun p=>⟨p,fun _ _ _=>False⟩⟩
def kG (N:C9) (B:Hs) (R:RP):Ex->C9
 | .nrm=>N
 | .exit i=>qL B i
 | .ret=>R.ret
 | .goto l=>R.go l
structure Cnd (t b:Bool) (P:Prop):Prop where
 go:t=b->P
theorem lN {P:Prop}:Cnd false true P:=⟨fun h=>ff h⟩
theorem tP {P:Prop}:Cnd true false P:=⟨fun h=>ft h⟩
theorem sA {P:Prop} (h:P):Cnd true true P:=⟨fun _=>h⟩
theorem tI {P:Prop} (h:P):Cnd false false P:=⟨fun _=>h⟩
theorem zB {x y:Int} {P:Prop} (h:x=y->P):Cnd (x==y) true P:=⟨fun e=>h (eq_of_beq e)⟩
theorem zW {x y:List UInt8} {P:Prop} (h:x=y->P):Cnd (x==y) true P:=⟨fun e=>h (eq_of_beq e)⟩
theorem X2 {x y:Int} {P:Prop} (h:¬ x=y->P):Cnd (x==y) false P:=⟨fun e=>h (fun q=>by subst q;simp at e)⟩
theorem zU {x y:List UInt8} {P:Prop} (h:¬ x=y->P):Cnd (x==y) false P:=⟨fun e=>h (fun q=>by subst q;simp at e)⟩
theorem yD {x y:Int} {P:Prop} (h:¬ x=y->P):Cnd (x != y) true P:=⟨fun e=>h (fun q=>by subst q;simp at e)⟩
theorem uB {x y:Int} {P:Prop} (h:x=y->P):Cnd (x != y) false P:=⟨fun e=>h (by simpa using e)⟩
theorem A7 {p:Prop} {inst:Decidable p} {P:Prop} (h:p->P):Cnd (@decide p inst) true P:=⟨fun e=>h (of_decide_eq_true e)⟩
theorem A6 {p:Prop} {inst:Decidable p} {P:Prop} (h:¬ p->P):Cnd (@decide p inst) false P:=⟨fun e=>h (of_decide_eq_false e)⟩
theorem aK {t b:Bool} {P:Prop} (h:Cnd t (!b) P):Cnd (!t) b P:=⟨fun e=>h.go (by cases t<;>cases b<;>simp_all)⟩
theorem P7 {t:Bool} {P:Prop} (h:Cnd t false P):Cnd (!t) true P:=aK h
theorem Q1 {t:Bool} {P:Prop} (h:Cnd t true P):Cnd (!t) false P:=aK h
theorem W8 {t b:Bool} {P:Prop} (h:t=b->P):Cnd t b P:=⟨h⟩
structure Dand (a b:Prop):Prop where
 one:a
 two:b
theorem M9 {a b:Prop} (h1:a) (h2:b):Dand a b:=⟨h1,h2⟩
structure WP (c:ICode) (fr:WFr) (H:q8) (N:C9) (B:Hs) (R:RP):Prop where
 run:∃ s fr' H',wC V (wv V) witW c fr H=some (s,fr',H')/\kG N B R s fr' H'
end
section
variable {V:WEnv} {fr fr':WFr} {H H':q8} {N:C9} {B:Hs} {R:RP} {dst:Option Nat} {d:Nat}
theorem A4 (h:N fr H):WP V .skip fr H N B R:=⟨_,_,_,rfl,h⟩
theorem m8 (h:R.ret fr H):WP V .ret fr H N B R:=⟨_,_,_,rfl,h⟩
theorem C3 {i:Nat} (h:qL B i fr H):WP V (.exit i) fr H N B R:=⟨_,_,_,rfl,h⟩
def zq4:Hs->Nat->Option C9
 | [],_=>none
 | (j,K)::r,i=>bif Nat.beq i j then some K else zq4 r i
theorem x4 {a b:ICode} (h:WP V a fr H (fun fr' H'=>WP V b fr' H' N B R) B R):WP V (.seq a b) fr H N B R:=by
 obtain ⟨s,fr1,H1,h1,h2⟩:=h;cases s with
 | nrm=>
   obtain ⟨s,fr2,H2,h3,h4⟩:=h2;exact ⟨s,fr2,H2,by rw [vZ,h1];exact h3,h4⟩
 | exit i=>exact ⟨.exit i,fr1,H1,by rw [vZ,h1],h2⟩
 | goto l=>exact ⟨.goto l,fr1,H1,by rw [vZ,h1],h2⟩
 | ret=>exact ⟨.ret,fr1,H1,by rw [vZ,h1],h2⟩
theorem l7 {i:Nat} {a:ICode} (h:WP V a fr H N ((i,N)::B) R):WP V (.block i a) fr H N B R:=by
 obtain ⟨s,fr1,H1,h1,h2⟩:=h;cases s with
 | nrm=>exact ⟨.nrm,_,_,by rw [wM,h1],h2⟩
 | exit j=>
   by_cases hj:j=i
   . subst hj;refine ⟨.nrm,fr1,H1,by rw [wM,h1];simp only [if_true],?_⟩;have:(bif Nat.beq j j then N fr1 H1 else qL B j fr1 H1):=h2;rw [R9,if_pos rfl] at this;exact this
   . refine ⟨.exit j,fr1,H1,by rw [wM,h1];simp only [if_neg hj],?_⟩;have:(bif Nat.beq j i then N fr1 H1 else qL B j fr1 H1):=h2;rw [R9,if_neg hj] at this;exact this
 | goto l=>exact ⟨.goto l,_,_,by rw [wM,h1],h2⟩
 | ret=>exact ⟨.ret,_,_,by rw [wM,h1],h2⟩
theorem aU {ops:List IOper} (h:VO V ops { fr with al:=j8 } H N):WP V (.region ops) fr H N B R:=by
 obtain ⟨fr1,H1,h1,h2⟩:=h;exact ⟨.nrm,_,_,by rw [iR,h1],h2⟩
theorem x7 {ops:List IOper} {l:List (Nat×WV)} {a:List (Nat×Option (Nat×Nat))} (h:VO V ops (FL l []) H N):WP V (.region ops) (FL l a) H N B R:=aU h
theorem z74 {ops:List (Cls×IOper)} (h:VD V ops { fr with al:=j8 } H N):WP V (.regionD ops) fr H N B R:=by
 obtain ⟨fr1,H1,h1,h2⟩:=h;exact ⟨.nrm,_,_,by rw [oD,h1],h2⟩
theorem L6 {ops:List (Cls×IOper)} {l:List (Nat×WV)} {a:List (Nat×Option (Nat×Nat))} (h:VD V ops (FL l []) H N):WP V (.regionD ops) (FL l a) H N B R:=z74 h
theorem wp_cond {x:Opd} {a b:ICode} {t:Bool} (hx:fr.rd x=.c (.bool t)) (h1:t=true->WP V a fr H N B R) (h2:t=false->WP V b fr H N B R):WP V (.cond x a b) fr H N B R:=by
 cases t with
 | true=>
   obtain ⟨s,fr1,H1,g1,g2⟩:=h1 rfl;exact ⟨s,fr1,H1,by rw [aO,hx];exact g1,g2⟩
 | false=>
   obtain ⟨s,fr1,H1,g1,g2⟩:=h2 rfl;exact ⟨s,fr1,H1,by rw [aO,hx];exact g1,g2⟩
theorem x6 (h:N fr H):VO V [] fr H N:=⟨_,_,rfl,h⟩
theorem x5 {o:IOp} {r:List IOper} (h:OpP V o dst fr H (fun fr' H'=>VO V r fr' H' N)):VO V (⟨dst,none,o⟩::r) fr H N:=by
 obtain ⟨fr1,H1,h1,fr2,H2,h2,h3⟩:=h;refine ⟨fr2,H2,?_,h3⟩;show (match i8 V (wv V) ⟨dst,none,o⟩ fr H with
  | some (fr',H')=>B5 V (wv V) r fr' H'
  | none=>none)=_
 have:i8 V (wv V) ⟨dst,none,o⟩ fr H=wOp V (wv V) o dst fr H:=rfl;rw [this,h1];exact h2
theorem tH {o:IOp} {s:Nat} {w b:Bool} (hs:fr.env s=.c (.bool b)):i8 V (wv V) ⟨dst,some (s,w),o⟩ fr H=if b=w then wOp V (wv V) o dst fr H else some (fr.put dst .skipv,H):=by
 show (match fr.env s with
  | .c (.bool b)=>if b=w then wOp V (wv V) o dst fr H else some (fr.put dst .skipv,H)
  | .skipv=>some (fr.put dst .skipv,H)
  | _=>none)=_
 rw [hs]
theorem jK {o:IOp} {r:List IOper} {s:Nat} {w b:Bool} (hs:fr.env s=.c (.bool b)) (hb:b=w) (h:OpP V o dst fr H (fun fr' H'=>VO V r fr' H' N)):VO V (⟨dst,some (s,w),o⟩::r) fr H N:=by
 obtain ⟨fr1,H1,h1,fr2,H2,h2,h3⟩:=h;refine ⟨fr2,H2,?_,h3⟩;show (match i8 V (wv V) ⟨dst,some (s,w),o⟩ fr H with
  | some (fr',H')=>B5 V (wv V) r fr' H'
  | none=>none)=_
 rw [tH hs,if_pos hb,h1];exact h2
theorem dY {o:IOp} {r:List IOper} {s:Nat} {w b:Bool} (hs:fr.env s=.c (.bool b)) (hb:b=!w) (hp:Put fr dst .skipv fr') (h:VO V r fr' H N):VO V (⟨dst,some (s,w),o⟩::r) fr H N:=by
 obtain ⟨fr2,H2,h2,h3⟩:=h;refine ⟨fr2,H2,?_,h3⟩;show (match i8 V (wv V) ⟨dst,some (s,w),o⟩ fr H with
  | some (fr',H')=>B5 V (wv V) r fr' H'
  | none=>none)=_
 rw [tH hs,if_neg (by intro e;subst e;cases b<;>cases hb),hp.eq];exact h2
theorem bG {o:IOp} {r:List IOper} {s:Nat} {b:Bool} (hs:fr.env s=.c (.bool b)) (hb:b=false) (hp:Put fr dst .skipv fr') (h:VO V r fr' H N):VO V (⟨dst,some (s,true),o⟩::r) fr H N:=dY hs hb hp h
theorem aC {o:IOp} {r:List IOper} {s:Nat} {b:Bool} (hs:fr.env s=.c (.bool b)) (hb:b=true) (hp:Put fr dst .skipv fr') (h:VO V r fr' H N):VO V (⟨dst,some (s,false),o⟩::r) fr H N:=dY hs hb hp h
theorem zf6 {l:List (Nat×WV)} {s:Nat} {v:WV} (h:frl l s=v):frl l=frl ((s,v)::l):=by
 rw [<-qN];funext x;show frl l x=if x=s then v else frl l x
 by_cases hx:x=s
 . subst hx;rw [if_pos rfl,h]
 . rw [if_neg hx]
theorem zI {l:List (Nat×WV)} {a:List (Nat×Option (Nat×Nat))} {s:Nat} {v:WV} (h:(FL l a).env s=v):FL l a=FL ((s,v)::l) a:=by
 unfold FL;rw [<-zf6 h]
theorem zj5 {l:List (Nat×WV)} {a:List (Nat×Option (Nat×Nat))} {o:IOp} {r:List IOper} {s:Nat} {w b:Bool} (hs:(FL l a).env s=.c (.bool b))
 (h1:b=true->VO V (⟨dst,some (s,w),o⟩::r) (FL ((s,.c (.bool true))::l) a) H N) (h2:b=false->VO V (⟨dst,some (s,w),o⟩::r) (FL ((s,.c (.bool false))::l) a) H N) :
 VO V (⟨dst,some (s,w),o⟩::r) (FL l a) H N:=by
 cases b with
 | true=>rw [zI hs];exact h1 rfl
 | false=>rw [zI hs];exact h2 rfl
theorem d6 {l:List (Nat×WV)} {a:List (Nat×Option (Nat×Nat))} {s:Nat} {t:Bool} {x y:ICode} {B:Hs} {R:RP} (hs:(FL l a).env s=.c (.bool t))
 (h1:Cnd t true (WP V x (FL ((s,.c (.bool true))::l) a) H N B R)) (h2:Cnd t false (WP V y (FL ((s,.c (.bool false))::l) a) H N B R)):WP V (.cond (.t s) x y) (FL l a) H N B R:=by
 have hr:(FL l a).rd (.t s)=.c (.bool t):=by simp only [WFr.rd,hs];rfl
 refine wp_cond hr (fun e=>?_) (fun e=>?_)
 . subst e;rw [zI hs];exact h1.go rfl
 . subst e;rw [zI hs];exact h2.go rfl
theorem jP {l:List (Nat×WV)} {a:List (Nat×Option (Nat×Nat))} {o:IOp} {r:List IOper} {s:Nat} {w b:Bool} (hs:(FL l a).env s=.c (.bool b))
 (h1:Cnd b true (VO V (⟨dst,some (s,w),o⟩::r) (FL ((s,.c (.bool true))::l) a) H N)) (h2:Cnd b false (VO V (⟨dst,some (s,w),o⟩::r) (FL ((s,.c (.bool false))::l) a) H N)) :
 VO V (⟨dst,some (s,w),o⟩::r) (FL l a) H N:=zj5 hs h1.go h2.go
end
end Go.Proofs.Lz
