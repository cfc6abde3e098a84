/- A calculus over the evaluator with slices a5 values: one operation a step, and what is left to show. -/
import Derived.Test.YtencoceemejcnaaGreatDoorLzWOm
import Derived.Test.YtencoceemejcnaaGreatDoorLzSimp
namespace Go.Proofs.Lz
@[simp] theorem jw6 (E:WEnv) (c:z90) (it:WRun→WRun) (ops:List IOper) (fr:WFr) (H:z07) :
 wC E c it (.region ops) fr H=match wOps E c ops { fr with al:=noAl } H with
  | some (fr',H')=>some (.nrm,fr',H')
  | none=>none:=rfl
@[simp] theorem jm7 (E:WEnv) (c:z90) (it:WRun→WRun) (ops:List (Cls×IOper)) (fr:WFr) (H:z07) :
 wC E c it (.regionD ops) fr H=match zo3 E c ops { fr with al:=noAl } H with
  | some (fr',H')=>some (.nrm,fr',H')
  | none=>none:=rfl
@[simp] theorem jv6 (E:WEnv) (c:z90) (it:WRun→WRun) (a b:ICode) (fr:WFr) (H:z07) :
 wC E c it (.seq a b) fr H=match wC E c it a fr H with
  | some (.nrm,fr',H')=>wC E c it b fr' H'
  | r=>r:=rfl
@[simp] theorem w_skip (E:WEnv) (c:z90) (it:WRun→WRun) (fr:WFr) (H:z07):wC E c it .skip fr H=some (.nrm,fr,H):=rfl
@[simp] theorem w_exit (E:WEnv) (c:z90) (it:WRun→WRun) (i:Nat) (fr:WFr) (H:z07):wC E c it (.exit i) fr H=some (.exit i,fr,H):=rfl
@[simp] theorem w_goto (E:WEnv) (c:z90) (it:WRun→WRun) (i:Nat) (fr:WFr) (H:z07):wC E c it (.goto i) fr H=some (.goto i,fr,H):=rfl
@[simp] theorem w_ret (E:WEnv) (c:z90) (it:WRun→WRun) (fr:WFr) (H:z07):wC E c it .ret fr H=some (.ret,fr,H):=rfl
@[simp] theorem w_label (E:WEnv) (c:z90) (it:WRun→WRun) (i:Nat) (fr:WFr) (H:z07):wC E c it (.label i) fr H=some (.nrm,fr,H):=rfl
@[simp] theorem w38 (E:WEnv) (c:z90) (it:WRun→WRun) (x:Opd) (a b:ICode) (fr:WFr) (H:z07) :
 wC E c it (.cond x a b) fr H=match fr.rd x with
  | .c (.bool t)=>if t=true then wC E c it a fr H else wC E c it b fr H
  | _=>none:=rfl
@[simp] theorem qb3 (E:WEnv) (c:z90) (it:WRun→WRun) (i:Nat) (a:ICode) (fr:WFr) (H:z07) :
 wC E c it (.block i a) fr H=match wC E c it a fr H with
  | some (.exit j,fr',H')=>if j=i then some (.nrm,fr',H') else some (.exit j,fr',H')
  | r=>r:=rfl
theorem w41 (E:WEnv) (c:z90) (it:WRun→WRun) (l:List Nat) (a:ICode) (fr:WFr) (H:z07) :
 wC E c it (.loop l a) fr H=it (fun fr H=>wC E c it a (zm0 l fr) H) fr H:=rfl
attribute [simp] ze0 zz4 zy0 wOps wStp wOp wOp0 zo3 zn4 zs4 wD zi3 WFr.place WFr.put WFr.putD WFr.put1 WFr.link WFr.rd zi1 WV.flat aggW q16 zz1 qe4
attribute [simp] peek zj9 qe9 jc4 ofHV qc5 okW okA hit hitC hit1 hitL hitT inK hitH zk2 srcs srcC src1 srcL srcT zg4 z55 ze9 z78 z89 z73 zd1 isHp Lz.take wint z74 zr3 cellW jv7 fitsW zb5 zv9 qn8 q56 lenW ixW slcW qq3 qp0 qj1 zm6 zo0 zn3 j89 j74 w74 zs3 zt7 blind appW jb4 j91 qw0 zh6 qc7 plainW jt3 j11 wput zh5 zd0 noView inSl inHp
attribute [simp] zt8 qp9 qg0 q47 qz3 zf4 shut1 ja1 qb5 qf7 shut isCW noRefW noRefW.noRefWL qt6 jr8 jt8 jd4 w00 ji8 jy2 zd3 zg8 q48 j59 j19 q15 zc7 zz2 qu7 zm0 zf2 zd2 zk9 zx9 zn7 leave1 zl0 zq8
@[simp] theorem hitF_env (K:Pl→Bool) (fz:Bool) (w:WFr) (s:Nat):(hitF K fz w).env s=hit K fz (Pl.sl s) (w.env s):=rfl
@[simp] theorem hitF_al (K:Pl→Bool) (fz:Bool) (w:WFr):(hitF K fz w).al=w.al:=rfl
@[simp] theorem blindF_env (p:Pl) (w:WFr) (s:Nat):(j40 p w).env s=blind p (w.env s):=rfl
@[simp] theorem blindF_al (p:Pl) (w:WFr):(j40 p w).al=w.al:=rfl
@[simp] theorem peek1_c (q:Pl) (v:CV):zn5 q (.c v)=(.c v):=rfl
@[simp] theorem thawW0_c (v:CV):zd8 (.c v)=some v:=rfl
@[simp] theorem peek1_agg (q:Pl) (cs:List WV):zn5 q (.agg cs)=(.agg cs):=rfl
@[simp] theorem thawW0_agg (cs:List WV):zd8 (.agg cs)=none:=rfl
@[simp] theorem peek1_tup (q:Pl) (vs:List WV):zn5 q (.tup vs)=(.tup vs):=rfl
@[simp] theorem thawW0_tup (vs:List WV):zd8 (.tup vs)=none:=rfl
@[simp] theorem peek1_nils (q:Pl) :zn5 q .nils=.nils:=rfl
@[simp] theorem thawW0_nils :zd8 .nils=some (.frz none []):=rfl
@[simp] theorem peek1_own (q:Pl) (b:Bool) (e:Nat) (ek:Option Nat) (xs:List CV):zn5 q (.own b e ek xs)=.view q b 0 e ek xs:=rfl
@[simp] theorem thawW0_own (b:Bool) (e:Nat) (ek:Option Nat) (xs:List CV):zd8 (.own b e ek xs)=none:=rfl
@[simp] theorem peek1_view (q:Pl) (pl:Pl) (b:Bool) (off e:Nat) (ek:Option Nat) (xs:List CV):zn5 q (.view pl b off e ek xs)=(.view pl b off e ek xs):=rfl
@[simp] theorem thawW0_view (pl:Pl) (b:Bool) (off e:Nat) (ek:Option Nat) (xs:List CV):zd8 (.view pl b off e ek xs)=some (.frz ek xs):=rfl
@[simp] theorem peek1_imm (q:Pl) (fz:Bool) (ek:Option Nat) (xs:List CV):zn5 q (.imm fz ek xs)=(.imm fz ek xs):=rfl
@[simp] theorem thawW0_imm (fz:Bool) (ek:Option Nat) (xs:List CV):zd8 (.imm fz ek xs)=some (.frz ek xs):=rfl
@[simp] theorem peek1_ptr (q:Pl) (id off:Nat):zn5 q (.ptr id off)=(.ptr id off):=rfl
@[simp] theorem thawW0_ptr (id off:Nat):zd8 (.ptr id off)=none:=rfl
@[simp] theorem peek1_eptr (q:Pl) (pl:Pl) (i off:Nat) (ek:Option Nat) (x:CV):zn5 q (.eptr pl i off ek x)=(.eptr pl i off ek x):=rfl
@[simp] theorem thawW0_eptr (pl:Pl) (i off:Nat) (ek:Option Nat) (x:CV):zd8 (.eptr pl i off ek x)=none:=rfl
@[simp] theorem peek1_iptr (q:Pl) (fz:Bool) (ek:Option Nat) (x:CV) (off:Nat):zn5 q (.iptr fz ek x off)=(.iptr fz ek x off):=rfl
@[simp] theorem thawW0_iptr (fz:Bool) (ek:Option Nat) (x:CV) (off:Nat):zd8 (.iptr fz ek x off)=none:=rfl
@[simp] theorem peek1_lbox (q:Pl) (ek:Option Nat) (v:WV):zn5 q (.lbox ek v)=(.lbox ek v):=rfl
@[simp] theorem thawW0_lbox (ek:Option Nat) (v:WV):zd8 (.lbox ek v)=none:=rfl
@[simp] theorem peek1_fn (q:Pl) (f:Nat) (first cap:List WV):zn5 q (.fn f first cap)=(.fn f first cap):=rfl
@[simp] theorem thawW0_fn (f:Nat) (first cap:List WV):zd8 (.fn f first cap)=none:=rfl
@[simp] theorem peek1_skipv (q:Pl) :zn5 q .skipv=.skipv:=rfl
@[simp] theorem thawW0_skipv :zd8 .skipv=none:=rfl
@[simp] theorem peek1_undef (q:Pl) :zn5 q .undef=.undef:=rfl
@[simp] theorem thawW0_undef :zd8 .undef=none:=rfl
@[simp] theorem peek1_gone (q:Pl) :zn5 q .gone=.gone:=rfl
@[simp] theorem thawW0_gone :zd8 .gone=none:=rfl
theorem wh1 {α:Type} {H:List α} {p:Nat} {x:α} (h:H[p]?=some x) (a:α):(H.set p a)[p]?=some a:=List.getElem?_set_self (List.getElem?_eq_some_iff.1 h).1
end Go.Proofs.Lz
set_option linter.unusedSimpArgs false
set_option linter.unusedVariables false
namespace Go.Proofs.Lz
def frl:List (Nat×WV)→Nat→WV
 | [],_=>.undef
 | (t,v)::r,s=>bif Nat.beq s t then v else frl r s
def lookA:List (Nat×Option (Nat×Nat))→Nat→Option (Nat×Nat)
 | [],_=>none
 | (t,v)::r,s=>bif Nat.beq s t then v else lookA r s
def FL (l:List (Nat×WV)) (a:List (Nat×Option (Nat×Nat))):WFr:={ env:=frl l,al:=lookA a }
theorem zu7 {α:Type} (s t:Nat) (a b:α):(bif Nat.beq s t then a else b)=if s=t then a else b:=by
 by_cases h:s=t
 · subst h;simp
 · have:Nat.beq s t=false:=by
    cases hb:Nat.beq s t with
    | true=>exact absurd (Nat.eq_of_beq_eq_true hb) h
    | false=>rfl
   rw [this,if_neg h];rfl
theorem j07:∀ l,frl l=ze0 l:=by
 intro l
 induction l with
 | nil=>rfl
 | cons p r ih=>
   funext s
   obtain ⟨t,v⟩:=p
   show (bif Nat.beq s t then v else frl r s)=if s=t then v else ze0 r s
   rw [zu7,ih]
theorem ql6 (l:List (Nat×WV)):({ env:=ze0 l,al:=noAl }:WFr)=FL l []:=by
 unfold FL
 rw [j07]
 rfl
theorem zp2 (l:List (Nat×WV)) (d:Nat) (v:WV):upd (frl l) d v=frl ((d,v)::l):=by
 funext s
 show (if s=d then v else frl l s)=(bif Nat.beq s d then v else frl l s)
 rw [zu7]
theorem qf9 (l:List (Nat×Option (Nat×Nat))) (d:Nat) (v:Option (Nat×Nat)):upd (lookA l) d v=lookA ((d,v)::l):=by
 funext s
 show (if s=d then v else lookA l s)=(bif Nat.beq s d then v else lookA l s)
 rw [zu7]
theorem qb0 (d:Nat):upd (lookA []) d none=lookA []:=by
 funext s
 show (if s=d then none else none)=none
 split<;>rfl
theorem ff {p:Prop} (h:false=true):p:=absurd h Bool.false_ne_true
theorem ft {p:Prop} (h:true=false):p:=absurd h.symm Bool.false_ne_true
structure Put (fr:WFr) (dst:Option Nat) (v:WV) (fr':WFr):Prop where
 eq:fr.put dst v=fr'
theorem z13 {l:List (Nat×WV)} {d:Nat} {u:CV}:Put (FL l []) (some d) (.c u) (FL ((d,.c u)::l) []):=⟨by
 show WFr.putD (FL l []) d (.c u)=_
 have:z78 (.c u)=false:=rfl
 unfold WFr.putD
 rw [this]
 simp only [Bool.false_eq_true,if_false,WFr.put1,FL,zp2,qb0]⟩
theorem z18 {l:List (Nat×WV)} {d:Nat} {v:WV} (h:z78 v=false):Put (FL l []) (some d) v (FL ((d,v)::l) []):=⟨by
 show WFr.putD (FL l []) d v=_
 unfold WFr.putD
 rw [h]
 simp only [Bool.false_eq_true,if_false,WFr.put1,FL,zp2,qb0]⟩
theorem qr0 {l:List (Nat×WV)} {a:List (Nat×Option (Nat×Nat))} {d:Nat} {v:WV} (h:z78 v=false):Put (FL l a) (some d) v (FL ((d,v)::l) ((d,none)::a)):=⟨by
 show WFr.putD (FL l a) d v=_
 unfold WFr.putD
 rw [h]
 simp only [Bool.false_eq_true,if_false,WFr.put1,FL,zp2,qf9]⟩
abbrev Post:=WFr→z07→Prop
section
variable (V:WEnv)
structure OpP (o:IOp) (dst:Option Nat) (fr:WFr) (H:z07) (N:Post):Prop where
 run:∃ fr' H',wOp V (wv V) o dst fr H=some (fr',H')∧N fr' H'
structure VO (ops:List IOper) (fr:WFr) (H:z07) (N:Post):Prop where
 run:∃ fr' H',wOps V (wv V) ops fr H=some (fr',H')∧N fr' H'
structure OpD (c:Cls) (o:IOp) (dst:Option Nat) (fr:WFr) (H:z07) (N:Post):Prop where
 run:∃ fr' H',wD V (wv V) c o dst fr H=some (fr',H')∧N fr' H'
structure VD (ops:List (Cls×IOper)) (fr:WFr) (H:z07) (N:Post):Prop where
 run:∃ fr' H',zo3 V (wv V) ops fr H=some (fr',H')∧N fr' H'
abbrev Hs:=List (Nat×Post)
def qn6:Hs→Nat→Post
 | [],_,_,_=>False
 | (j,K)::r,i,fr,H=>bif Nat.beq i j then K fr H else qn6 r i fr H
structure RP where
 ret:Post
 go:Nat→Post
instance:Coe Post RP:=⟨fun p=>⟨p,fun _ _ _=>False⟩⟩
def outK (N:Post) (B:Hs) (R:RP):Ex→Post
 | .nrm=>N
 | .exit i=>qn6 B i
 | .ret=>R.ret
 | .goto l=>R.go l
structure Cnd (t b:Bool) (P:Prop):Prop where
 go:t=b→P
theorem zf3 {P:Prop}:Cnd false true P:=⟨fun h=>ff h⟩
theorem zb1 {P:Prop}:Cnd true false P:=⟨fun h=>ft h⟩
theorem zb2 {P:Prop} (h:P):Cnd true true P:=⟨fun _=>h⟩
theorem zf1 {P:Prop} (h:P):Cnd false false P:=⟨fun _=>h⟩
theorem za1 {x y:Int} {P:Prop} (h:x=y→P):Cnd (x==y) true P:=⟨fun e=>h (eq_of_beq e)⟩
theorem zx3 {x y:List UInt8} {P:Prop} (h:x=y→P):Cnd (x==y) true P:=⟨fun e=>h (eq_of_beq e)⟩
theorem z69 {x y:Int} {P:Prop} (h:¬ x=y→P):Cnd (x==y) false P:=⟨fun e=>h (fun q=>by subst q;simp at e)⟩
theorem zk8 {x y:List UInt8} {P:Prop} (h:¬ x=y→P):Cnd (x==y) false P:=⟨fun e=>h (fun q=>by subst q;simp at e)⟩
theorem zn8 {x y:Int} {P:Prop} (h:¬ x=y→P):Cnd (x != y) true P:=⟨fun e=>h (fun q=>by subst q;simp at e)⟩
theorem zi4 {x y:Int} {P:Prop} (h:x=y→P):Cnd (x != y) false P:=⟨fun e=>h (by simpa using e)⟩
theorem z81 {p:Prop} {inst:Decidable p} {P:Prop} (h:p→P):Cnd (@decide p inst) true P:=⟨fun e=>h (of_decide_eq_true e)⟩
theorem z60 {p:Prop} {inst:Decidable p} {P:Prop} (h:¬ p→P):Cnd (@decide p inst) false P:=⟨fun e=>h (of_decide_eq_false e)⟩
theorem wj5 {t b:Bool} {P:Prop} (h:Cnd t (!b) P):Cnd (!t) b P:=⟨fun e=>h.go (by cases t<;>cases b<;>simp_all)⟩
theorem z65 {t:Bool} {P:Prop} (h:Cnd t false P):Cnd (!t) true P:=wj5 h
theorem z64 {t:Bool} {P:Prop} (h:Cnd t true P):Cnd (!t) false P:=wj5 h
theorem zf9 {t b:Bool} {P:Prop} (h:t=b→P):Cnd t b P:=⟨h⟩
structure Dand (a b:Prop):Prop where
 one:a
 two:b
theorem dand {a b:Prop} (h1:a) (h2:b):Dand a b:=⟨h1,h2⟩
structure WP (c:ICode) (fr:WFr) (H:z07) (N:Post) (B:Hs) (R:RP):Prop where
 run:∃ s fr' H',wC V (wv V) witW c fr H=some (s,fr',H')∧outK N B R s fr' H'
end
section
variable {V:WEnv} {fr fr':WFr} {H H':z07} {N:Post} {B:Hs} {R:RP} {dst:Option Nat} {d:Nat}
theorem z12 (h:N fr H):WP V .skip fr H N B R:=⟨_,_,_,rfl,h⟩
theorem z19 (h:R.ret fr H):WP V .ret fr H N B R:=⟨_,_,_,rfl,h⟩
theorem z58 {i:Nat} (h:qn6 B i fr H):WP V (.exit i) fr H N B R:=⟨_,_,_,rfl,h⟩
def w72:Hs→Nat→Option Post
 | [],_=>none
 | (j,K)::r,i=>bif Nat.beq i j then some K else w72 r i
theorem zb7 {i:Nat} {K:Post}:∀ {B:Hs},w72 B i=some K→K fr H→qn6 B i fr H:=by
 intro B
 induction B with
 | nil=>intro h;cases h
 | cons p r ih=>
   obtain ⟨j,K'⟩:=p
   intro h hk
   have h:(bif Nat.beq i j then some K' else w72 r i)=some K:=h
   show bif Nat.beq i j then K' fr H else qn6 r i fr H
   cases hb:Nat.beq i j with
   | true=>rw [hb] at h;injection h with h;subst h;exact hk
   | false=>rw [hb] at h;exact ih h hk
theorem z02 {a b:ICode} (h:WP V a fr H (fun fr' H'=>WP V b fr' H' N B R) B R):WP V (.seq a b) fr H N B R:=by
 obtain ⟨s,fr1,H1,h1,h2⟩:=h
 cases s with
 | nrm=>
   obtain ⟨s,fr2,H2,h3,h4⟩:=h2
   exact ⟨s,fr2,H2,by rw [jv6,h1];exact h3,h4⟩
 | exit i=>exact ⟨.exit i,fr1,H1,by rw [jv6,h1],h2⟩
 | goto l=>exact ⟨.goto l,fr1,H1,by rw [jv6,h1],h2⟩
 | ret=>exact ⟨.ret,fr1,H1,by rw [jv6,h1],h2⟩
theorem z08 {i:Nat} {a:ICode} (h:WP V a fr H N ((i,N)::B) R):WP V (.block i a) fr H N B R:=by
 obtain ⟨s,fr1,H1,h1,h2⟩:=h
 cases s with
 | nrm=>exact ⟨.nrm,_,_,by rw [qb3,h1],h2⟩
 | exit j=>
   by_cases hj:j=i
   · subst hj
     refine ⟨.nrm,fr1,H1,by rw [qb3,h1];simp only [if_true],?_⟩
     have:(bif Nat.beq j j then N fr1 H1 else qn6 B j fr1 H1):=h2
     rw [zu7,if_pos rfl] at this
     exact this
   · refine ⟨.exit j,fr1,H1,by rw [qb3,h1];simp only [if_neg hj],?_⟩
     have:(bif Nat.beq j i then N fr1 H1 else qn6 B j fr1 H1):=h2
     rw [zu7,if_neg hj] at this
     exact this
 | goto l=>exact ⟨.goto l,_,_,by rw [qb3,h1],h2⟩
 | ret=>exact ⟨.ret,_,_,by rw [qb3,h1],h2⟩
theorem qy8 {ops:List IOper} (h:VO V ops { fr with al:=noAl } H N):WP V (.region ops) fr H N B R:=by
 obtain ⟨fr1,H1,h1,h2⟩:=h
 exact ⟨.nrm,_,_,by rw [jw6,h1],h2⟩
theorem z00 {ops:List IOper} {l:List (Nat×WV)} {a:List (Nat×Option (Nat×Nat))} (h:VO V ops (FL l []) H N):WP V (.region ops) (FL l a) H N B R:=qy8 h
theorem qq1 {ops:List (Cls×IOper)} (h:VD V ops { fr with al:=noAl } H N):WP V (.regionD ops) fr H N B R:=by
 obtain ⟨fr1,H1,h1,h2⟩:=h
 exact ⟨.nrm,_,_,by rw [jm7,h1],h2⟩
theorem z24 {ops:List (Cls×IOper)} {l:List (Nat×WV)} {a:List (Nat×Option (Nat×Nat))} (h:VD V ops (FL l []) H N):WP V (.regionD ops) (FL l a) H N B R:=qq1 h
theorem wp_cond {x:Opd} {a b:ICode} {t:Bool} (hx:fr.rd x=.c (.bool t)) (h1:t=true→WP V a fr H N B R) (h2:t=false→WP V b fr H N B R):WP V (.cond x a b) fr H N B R:=by
 cases t with
 | true=>
   obtain ⟨s,fr1,H1,g1,g2⟩:=h1 rfl
   exact ⟨s,fr1,H1,by rw [w38,hx];exact g1,g2⟩
 | false=>
   obtain ⟨s,fr1,H1,g1,g2⟩:=h2 rfl
   exact ⟨s,fr1,H1,by rw [w38,hx];exact g1,g2⟩
theorem z41 {x:Opd} {a b:ICode} {t:Bool} (hx:fr.rd x=.c (.bool t)) (ht:t=true) (h1:WP V a fr H N B R):WP V (.cond x a b) fr H N B R:=wp_cond hx (fun _=>h1) (fun h=>by rw [ht] at h;cases h)
theorem z38 {x:Opd} {a b:ICode} {t:Bool} (hx:fr.rd x=.c (.bool t)) (ht:t=false) (h1:WP V b fr H N B R):WP V (.cond x a b) fr H N B R:=wp_cond hx (fun h=>by rw [ht] at h;cases h) (fun _=>h1)
theorem z04 (h:N fr H):VO V [] fr H N:=⟨_,_,rfl,h⟩
theorem z01 {o:IOp} {r:List IOper} (h:OpP V o dst fr H (fun fr' H'=>VO V r fr' H' N)):VO V (⟨dst,none,o⟩::r) fr H N:=by
 obtain ⟨fr1,H1,h1,fr2,H2,h2,h3⟩:=h
 refine ⟨fr2,H2,?_,h3⟩
 show (match wStp V (wv V) ⟨dst,none,o⟩ fr H with
  | some (fr',H')=>wOps V (wv V) r fr' H'
  | none=>none)=_
 have:wStp V (wv V) ⟨dst,none,o⟩ fr H=wOp V (wv V) o dst fr H:=rfl
 rw [this,h1]
 exact h2
theorem wo6 {o:IOp} {s:Nat} {w b:Bool} (hs:fr.env s=.c (.bool b)):wStp V (wv V) ⟨dst,some (s,w),o⟩ fr H=if b=w then wOp V (wv V) o dst fr H else some (fr.put dst .skipv,H):=by
 show (match fr.env s with
  | .c (.bool b)=>if b=w then wOp V (wv V) o dst fr H else some (fr.put dst .skipv,H)
  | .skipv=>some (fr.put dst .skipv,H)
  | _=>none)=_
 rw [hs]
theorem z52 {o:IOp} {r:List IOper} {s:Nat} {w b:Bool} (hs:fr.env s=.c (.bool b)) (hb:b=w) (h:OpP V o dst fr H (fun fr' H'=>VO V r fr' H' N)):VO V (⟨dst,some (s,w),o⟩::r) fr H N:=by
 obtain ⟨fr1,H1,h1,fr2,H2,h2,h3⟩:=h
 refine ⟨fr2,H2,?_,h3⟩
 show (match wStp V (wv V) ⟨dst,some (s,w),o⟩ fr H with
  | some (fr',H')=>wOps V (wv V) r fr' H'
  | none=>none)=_
 rw [wo6 hs,if_pos hb,h1]
 exact h2
theorem jo4 {o:IOp} {r:List IOper} {s:Nat} {w b:Bool} (hs:fr.env s=.c (.bool b)) (hb:b=!w) (hp:Put fr dst .skipv fr') (h:VO V r fr' H N):VO V (⟨dst,some (s,w),o⟩::r) fr H N:=by
 obtain ⟨fr2,H2,h2,h3⟩:=h
 refine ⟨fr2,H2,?_,h3⟩
 show (match wStp V (wv V) ⟨dst,some (s,w),o⟩ fr H with
  | some (fr',H')=>wOps V (wv V) r fr' H'
  | none=>none)=_
 rw [wo6 hs,if_neg (by intro e;subst e;cases b<;>cases hb),hp.eq]
 exact h2
theorem z43 {o:IOp} {r:List IOper} {s:Nat} {b:Bool} (hs:fr.env s=.c (.bool b)) (hb:b=false) (hp:Put fr dst .skipv fr') (h:VO V r fr' H N):VO V (⟨dst,some (s,true),o⟩::r) fr H N:=jo4 hs hb hp h
theorem z42 {o:IOp} {r:List IOper} {s:Nat} {b:Bool} (hs:fr.env s=.c (.bool b)) (hb:b=true) (hp:Put fr dst .skipv fr') (h:VO V r fr' H N):VO V (⟨dst,some (s,false),o⟩::r) fr H N:=jo4 hs hb hp h
theorem zj4 {o:IOp} {r:List IOper} {s:Nat} {w:Bool} (hs:fr.env s=.skipv) (hp:Put fr dst .skipv fr') (h:VO V r fr' H N):VO V (⟨dst,some (s,w),o⟩::r) fr H N:=by
 obtain ⟨fr2,H2,h2,h3⟩:=h
 refine ⟨fr2,H2,?_,h3⟩
 show (match (match fr.env s with
  | .c (.bool b)=>if b=w then wOp V (wv V) o dst fr H else some (fr.put dst .skipv,H)
  | .skipv=>some (fr.put dst .skipv,H)
  | _=>none) with
  | some (fr',H')=>wOps V (wv V) r fr' H'
  | none=>none)=_
 rw [hs,hp.eq]
 exact h2
theorem jp3 {l:List (Nat×WV)} {s:Nat} {v:WV} (h:frl l s=v):frl l=frl ((s,v)::l):=by
 rw [← zp2]
 funext x
 show frl l x=if x=s then v else frl l x
 by_cases hx:x=s
 · subst hx;rw [if_pos rfl,h]
 · rw [if_neg hx]
theorem q27 {l:List (Nat×WV)} {a:List (Nat×Option (Nat×Nat))} {s:Nat} {v:WV} (h:(FL l a).env s=v):FL l a=FL ((s,v)::l) a:=by
 unfold FL
 rw [← jp3 h]
theorem w29 {l:List (Nat×WV)} {a:List (Nat×Option (Nat×Nat))} {o:IOp} {r:List IOper} {s:Nat} {w b:Bool} (hs:(FL l a).env s=.c (.bool b))
 (h1:b=true→VO V (⟨dst,some (s,w),o⟩::r) (FL ((s,.c (.bool true))::l) a) H N) (h2:b=false→VO V (⟨dst,some (s,w),o⟩::r) (FL ((s,.c (.bool false))::l) a) H N) :
 VO V (⟨dst,some (s,w),o⟩::r) (FL l a) H N:=by
 cases b with
 | true=>rw [q27 hs];exact h1 rfl
 | false=>rw [q27 hs];exact h2 rfl
theorem z15 {l:List (Nat×WV)} {a:List (Nat×Option (Nat×Nat))} {s:Nat} {t:Bool} {x y:ICode} {B:Hs} {R:RP} (hs:(FL l a).env s=.c (.bool t))
 (h1:Cnd t true (WP V x (FL ((s,.c (.bool true))::l) a) H N B R)) (h2:Cnd t false (WP V y (FL ((s,.c (.bool false))::l) a) H N B R)):WP V (.cond (.t s) x y) (FL l a) H N B R:=by
 have hr:(FL l a).rd (.t s)=.c (.bool t):=by simp only [WFr.rd,hs];rfl
 refine wp_cond hr (fun e=>?_) (fun e=>?_)
 · subst e;rw [q27 hs];exact h1.go rfl
 · subst e;rw [q27 hs];exact h2.go rfl
theorem z40 {l:List (Nat×WV)} {a:List (Nat×Option (Nat×Nat))} {o:IOp} {r:List IOper} {s:Nat} {w b:Bool} (hs:(FL l a).env s=.c (.bool b))
 (h1:Cnd b true (VO V (⟨dst,some (s,w),o⟩::r) (FL ((s,.c (.bool true))::l) a) H N)) (h2:Cnd b false (VO V (⟨dst,some (s,w),o⟩::r) (FL ((s,.c (.bool false))::l) a) H N)) :
 VO V (⟨dst,some (s,w),o⟩::r) (FL l a) H N:=w29 hs h1.go h2.go
end
end Go.Proofs.Lz
