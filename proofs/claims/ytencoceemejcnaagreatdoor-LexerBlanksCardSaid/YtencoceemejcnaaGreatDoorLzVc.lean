/- A calculus over the evaluator with slices a5 values: one operation a step, and what is left to show. -/
import Derived.Test.YtencoceemejcnaaGreatDoorLzWOm
import Derived.Test.YtencoceemejcnaaGreatDoorLzSimp
namespace Go.Proofs.Lz
@[simp] theorem w64 (E:WEnv) (c:za5) (it:WRun→WRun) (ops:List IOper) (fr:WFr) (H:z18) :
 wC E c it (.region ops) fr H=match wOps E c ops { fr with al:=noAl } H with
  | some (fr',H')=>some (.nrm,fr',H')
  | none=>none:=rfl
@[simp] theorem w03 (E:WEnv) (c:za5) (it:WRun→WRun) (ops:List (Cls×IOper)) (fr:WFr) (H:z18) :
 wC E c it (.regionD ops) fr H=match zr6 E c ops { fr with al:=noAl } H with
  | some (fr',H')=>some (.nrm,fr',H')
  | none=>none:=rfl
@[simp] theorem w69 (E:WEnv) (c:za5) (it:WRun→WRun) (a b:ICode) (fr:WFr) (H:z18) :
 wC E c it (.seq a b) fr H=match wC E c it a fr H with
  | some (.nrm,fr',H')=>wC E c it b fr' H'
  | r=>r:=rfl
@[simp] theorem w_skip (E:WEnv) (c:za5) (it:WRun→WRun) (fr:WFr) (H:z18):wC E c it .skip fr H=some (.nrm,fr,H):=rfl
@[simp] theorem w_exit (E:WEnv) (c:za5) (it:WRun→WRun) (i:Nat) (fr:WFr) (H:z18):wC E c it (.exit i) fr H=some (.exit i,fr,H):=rfl
@[simp] theorem w_goto (E:WEnv) (c:za5) (it:WRun→WRun) (i:Nat) (fr:WFr) (H:z18):wC E c it (.goto i) fr H=some (.goto i,fr,H):=rfl
@[simp] theorem w_ret (E:WEnv) (c:za5) (it:WRun→WRun) (fr:WFr) (H:z18):wC E c it .ret fr H=some (.ret,fr,H):=rfl
@[simp] theorem w_label (E:WEnv) (c:za5) (it:WRun→WRun) (i:Nat) (fr:WFr) (H:z18):wC E c it (.label i) fr H=some (.nrm,fr,H):=rfl
@[simp] theorem wg8 (E:WEnv) (c:za5) (it:WRun→WRun) (x:Opd) (a b:ICode) (fr:WFr) (H:z18) :
 wC E c it (.cond x a b) fr H=match fr.rd x with
  | .c (.bool t)=>if t=true then wC E c it a fr H else wC E c it b fr H
  | _=>none:=rfl
@[simp] theorem qf9 (E:WEnv) (c:za5) (it:WRun→WRun) (i:Nat) (a:ICode) (fr:WFr) (H:z18) :
 wC E c it (.block i a) fr H=match wC E c it a fr H with
  | some (.exit j,fr',H')=>if j=i then some (.nrm,fr',H') else some (.exit j,fr',H')
  | r=>r:=rfl
theorem wh4 (E:WEnv) (c:za5) (it:WRun→WRun) (l:List Nat) (a:ICode) (fr:WFr) (H:z18) :
 wC E c it (.loop l a) fr H=it (fun fr H=>wC E c it a (zo4 l fr) H) fr H:=rfl
attribute [simp] zg1 q19 zx7 wOps wStp wOp wOp0 zr6 zq1 zw3 wD zk7 WFr.place WFr.put WFr.putD WFr.put1 WFr.link WFr.rd zk5 WV.flat aggW q81 q02 q06
attribute [simp] peek zl3 qj6 jk0 ofHV qi0 okW okA hit hitC hit1 hitL hitT inK hitH zh3 srcs srcC src1 srcL srcT zg7 z62 ze2 z89 za4 z88 ze0 isHp Lz.take wint z87 zu5 cellW w82 fitsW za0 zy4 qs5 q89 lenW ixW slcW qz3 qw5 qm2 zp9 zq6 zp1 jc4 jf9 wi9 zw0 zu6 blind appW jj7 jb8 qy9 zh0 qe3 plainW js0 j50 wput zj9 zf1 noView inSl inHp
attribute [simp] zx0 qz6 qk4 q74 j37 zh5 shut1 jj0 qe7 qj8 shut isCW noRefW noRefW.noRefWL qz0 w11 jy4 ji8 w87 jv3 w62 ze5 zi1 q87 jg4 j04 q30 zd1 q17 qz9 zo4 zf7 ze8 zj6 zw5 zo9 leave1 zm1 zq2
@[simp] theorem hitF_env (K:Pl→Bool) (fz:Bool) (w:WFr) (s:Nat):(hitF K fz w).env s=hit K fz (Pl.sl s) (w.env s):=rfl
@[simp] theorem hitF_al (K:Pl→Bool) (fz:Bool) (w:WFr):(hitF K fz w).al=w.al:=rfl
@[simp] theorem blindF_env (p:Pl) (w:WFr) (s:Nat):(je3 p w).env s=blind p (w.env s):=rfl
@[simp] theorem blindF_al (p:Pl) (w:WFr):(je3 p w).al=w.al:=rfl
@[simp] theorem peek1_c (q:Pl) (v:CV):zo7 q (.c v)=(.c v):=rfl
@[simp] theorem thawW0_c (v:CV):zg4 (.c v)=some v:=rfl
@[simp] theorem peek1_agg (q:Pl) (cs:List WV):zo7 q (.agg cs)=(.agg cs):=rfl
@[simp] theorem thawW0_agg (cs:List WV):zg4 (.agg cs)=none:=rfl
@[simp] theorem peek1_tup (q:Pl) (vs:List WV):zo7 q (.tup vs)=(.tup vs):=rfl
@[simp] theorem thawW0_tup (vs:List WV):zg4 (.tup vs)=none:=rfl
@[simp] theorem peek1_nils (q:Pl) :zo7 q .nils=.nils:=rfl
@[simp] theorem thawW0_nils :zg4 .nils=some (.frz none []):=rfl
@[simp] theorem peek1_own (q:Pl) (b:Bool) (e:Nat) (ek:Option Nat) (xs:List CV):zo7 q (.own b e ek xs)=.view q b 0 e ek xs:=rfl
@[simp] theorem thawW0_own (b:Bool) (e:Nat) (ek:Option Nat) (xs:List CV):zg4 (.own b e ek xs)=none:=rfl
@[simp] theorem peek1_view (q:Pl) (pl:Pl) (b:Bool) (off e:Nat) (ek:Option Nat) (xs:List CV):zo7 q (.view pl b off e ek xs)=(.view pl b off e ek xs):=rfl
@[simp] theorem thawW0_view (pl:Pl) (b:Bool) (off e:Nat) (ek:Option Nat) (xs:List CV):zg4 (.view pl b off e ek xs)=some (.frz ek xs):=rfl
@[simp] theorem peek1_imm (q:Pl) (fz:Bool) (ek:Option Nat) (xs:List CV):zo7 q (.imm fz ek xs)=(.imm fz ek xs):=rfl
@[simp] theorem thawW0_imm (fz:Bool) (ek:Option Nat) (xs:List CV):zg4 (.imm fz ek xs)=some (.frz ek xs):=rfl
@[simp] theorem peek1_ptr (q:Pl) (id off:Nat):zo7 q (.ptr id off)=(.ptr id off):=rfl
@[simp] theorem thawW0_ptr (id off:Nat):zg4 (.ptr id off)=none:=rfl
@[simp] theorem peek1_eptr (q:Pl) (pl:Pl) (i off:Nat) (ek:Option Nat) (x:CV):zo7 q (.eptr pl i off ek x)=(.eptr pl i off ek x):=rfl
@[simp] theorem thawW0_eptr (pl:Pl) (i off:Nat) (ek:Option Nat) (x:CV):zg4 (.eptr pl i off ek x)=none:=rfl
@[simp] theorem peek1_iptr (q:Pl) (fz:Bool) (ek:Option Nat) (x:CV) (off:Nat):zo7 q (.iptr fz ek x off)=(.iptr fz ek x off):=rfl
@[simp] theorem thawW0_iptr (fz:Bool) (ek:Option Nat) (x:CV) (off:Nat):zg4 (.iptr fz ek x off)=none:=rfl
@[simp] theorem peek1_lbox (q:Pl) (ek:Option Nat) (v:WV):zo7 q (.lbox ek v)=(.lbox ek v):=rfl
@[simp] theorem thawW0_lbox (ek:Option Nat) (v:WV):zg4 (.lbox ek v)=none:=rfl
@[simp] theorem peek1_fn (q:Pl) (f:Nat) (first cap:List WV):zo7 q (.fn f first cap)=(.fn f first cap):=rfl
@[simp] theorem thawW0_fn (f:Nat) (first cap:List WV):zg4 (.fn f first cap)=none:=rfl
@[simp] theorem peek1_skipv (q:Pl) :zo7 q .skipv=.skipv:=rfl
@[simp] theorem thawW0_skipv :zg4 .skipv=none:=rfl
@[simp] theorem peek1_undef (q:Pl) :zo7 q .undef=.undef:=rfl
@[simp] theorem thawW0_undef :zg4 .undef=none:=rfl
@[simp] theorem peek1_gone (q:Pl) :zo7 q .gone=.gone:=rfl
@[simp] theorem thawW0_gone :zg4 .gone=none:=rfl
theorem qc8 {α:Type} {H:List α} {p:Nat} {x:α} (h:H[p]?=some x) (a:α):(H.set p a)[p]?=some a:=List.getElem?_set_self (List.getElem?_eq_some_iff.1 h).1
end Go.Proofs.Lz
set_option linter.unusedSimpArgs false
set_option linter.unusedVariables false
namespace Go.Proofs.Lz
def frl:List (Nat×WV)→Nat→WV
 | [],_=>.undef
 | (t,v)::r,s=>bif Nat.beq s t then v else frl r s
def lookA:List (Nat×Option (Nat×Nat))→Nat→Option (Nat×Nat)
 | [],_=>none
 | (t,v)::r,s=>bif Nat.beq s t then v else lookA r s
def FL (l:List (Nat×WV)) (a:List (Nat×Option (Nat×Nat))):WFr:={ env:=frl l,al:=lookA a }
theorem zv6 {α:Type} (s t:Nat) (a b:α):(bif Nat.beq s t then a else b)=if s=t then a else b:=by
 by_cases h:s=t
 · subst h;simp
 · have:Nat.beq s t=false:=by
    cases hb:Nat.beq s t with
    | true=>exact absurd (Nat.eq_of_beq_eq_true hb) h
    | false=>rfl
   rw [this,if_neg h];rfl
theorem j67:∀ l,frl l=zg1 l:=by
 intro l
 induction l with
 | nil=>rfl
 | cons p r ih=>
   funext s
   obtain ⟨t,v⟩:=p
   show (bif Nat.beq s t then v else frl r s)=if s=t then v else zg1 r s
   rw [zv6,ih]
theorem qs3 (l:List (Nat×WV)):({ env:=zg1 l,al:=noAl }:WFr)=FL l []:=by
 unfold FL
 rw [j67]
 rfl
theorem zn9 (l:List (Nat×WV)) (d:Nat) (v:WV):upd (frl l) d v=frl ((d,v)::l):=by
 funext s
 show (if s=d then v else frl l s)=(bif Nat.beq s d then v else frl l s)
 rw [zv6]
theorem q50 (l:List (Nat×Option (Nat×Nat))) (d:Nat) (v:Option (Nat×Nat)):upd (lookA l) d v=lookA ((d,v)::l):=by
 funext s
 show (if s=d then v else lookA l s)=(bif Nat.beq s d then v else lookA l s)
 rw [zv6]
theorem qc4 (d:Nat):upd (lookA []) d none=lookA []:=by
 funext s
 show (if s=d then none else none)=none
 split<;>rfl
theorem ff {p:Prop} (h:false=true):p:=absurd h Bool.false_ne_true
theorem ft {p:Prop} (h:true=false):p:=absurd h.symm Bool.false_ne_true
structure Put (fr:WFr) (dst:Option Nat) (v:WV) (fr':WFr):Prop where
 eq:fr.put dst v=fr'
theorem z12 {l:List (Nat×WV)} {d:Nat} {u:CV}:Put (FL l []) (some d) (.c u) (FL ((d,.c u)::l) []):=⟨by
 show WFr.putD (FL l []) d (.c u)=_
 have:z89 (.c u)=false:=rfl
 unfold WFr.putD
 rw [this]
 simp only [Bool.false_eq_true,if_false,WFr.put1,FL,zn9,qc4]⟩
theorem z19 {l:List (Nat×WV)} {d:Nat} {v:WV} (h:z89 v=false):Put (FL l []) (some d) v (FL ((d,v)::l) []):=⟨by
 show WFr.putD (FL l []) d v=_
 unfold WFr.putD
 rw [h]
 simp only [Bool.false_eq_true,if_false,WFr.put1,FL,zn9,qc4]⟩
theorem zb6 {l:List (Nat×WV)} {a:List (Nat×Option (Nat×Nat))} {d:Nat} {v:WV} (h:z89 v=false):Put (FL l a) (some d) v (FL ((d,v)::l) ((d,none)::a)):=⟨by
 show WFr.putD (FL l a) d v=_
 unfold WFr.putD
 rw [h]
 simp only [Bool.false_eq_true,if_false,WFr.put1,FL,zn9,q50]⟩
abbrev Post:=WFr→z18→Prop
section
variable (V:WEnv)
structure OpP (o:IOp) (dst:Option Nat) (fr:WFr) (H:z18) (N:Post):Prop where
 run:∃ fr' H',wOp V (wv V) o dst fr H=some (fr',H')∧N fr' H'
structure VO (ops:List IOper) (fr:WFr) (H:z18) (N:Post):Prop where
 run:∃ fr' H',wOps V (wv V) ops fr H=some (fr',H')∧N fr' H'
structure OpD (c:Cls) (o:IOp) (dst:Option Nat) (fr:WFr) (H:z18) (N:Post):Prop where
 run:∃ fr' H',wD V (wv V) c o dst fr H=some (fr',H')∧N fr' H'
structure VD (ops:List (Cls×IOper)) (fr:WFr) (H:z18) (N:Post):Prop where
 run:∃ fr' H',zr6 V (wv V) ops fr H=some (fr',H')∧N fr' H'
abbrev Hs:=List (Nat×Post)
def qp4:Hs→Nat→Post
 | [],_,_,_=>False
 | (j,K)::r,i,fr,H=>bif Nat.beq i j then K fr H else qp4 r i fr H
structure RP where
 ret:Post
 go:Nat→Post
instance:Coe Post RP:=⟨fun p=>⟨p,fun _ _ _=>False⟩⟩
def outK (N:Post) (B:Hs) (R:RP):Ex→Post
 | .nrm=>N
 | .exit i=>qp4 B i
 | .ret=>R.ret
 | .goto l=>R.go l
structure Cnd (t b:Bool) (P:Prop):Prop where
 go:t=b→P
theorem zd9 {P:Prop}:Cnd false true P:=⟨fun h=>ff h⟩
theorem zb1 {P:Prop}:Cnd true false P:=⟨fun h=>ft h⟩
theorem zb3 {P:Prop} (h:P):Cnd true true P:=⟨fun _=>h⟩
theorem ze4 {P:Prop} (h:P):Cnd false false P:=⟨fun _=>h⟩
theorem za1 {x y:Int} {P:Prop} (h:x=y→P):Cnd (x==y) true P:=⟨fun e=>h (eq_of_beq e)⟩
theorem zi9 {x y:List UInt8} {P:Prop} (h:x=y→P):Cnd (x==y) true P:=⟨fun e=>h (eq_of_beq e)⟩
theorem z74 {x y:Int} {P:Prop} (h:¬ x=y→P):Cnd (x==y) false P:=⟨fun e=>h (fun q=>by subst q;simp at e)⟩
theorem zb9 {x y:List UInt8} {P:Prop} (h:¬ x=y→P):Cnd (x==y) false P:=⟨fun e=>h (fun q=>by subst q;simp at e)⟩
theorem zd3 {x y:Int} {P:Prop} (h:¬ x=y→P):Cnd (x != y) true P:=⟨fun e=>h (fun q=>by subst q;simp at e)⟩
theorem za8 {x y:Int} {P:Prop} (h:x=y→P):Cnd (x != y) false P:=⟨fun e=>h (by simpa using e)⟩
theorem z67 {p:Prop} {inst:Decidable p} {P:Prop} (h:p→P):Cnd (@decide p inst) true P:=⟨fun e=>h (of_decide_eq_true e)⟩
theorem z49 {p:Prop} {inst:Decidable p} {P:Prop} (h:¬ p→P):Cnd (@decide p inst) false P:=⟨fun e=>h (of_decide_eq_false e)⟩
theorem v26 {t b:Bool} {P:Prop} (h:Cnd t (!b) P):Cnd (!t) b P:=⟨fun e=>h.go (by cases t<;>cases b<;>simp_all)⟩
theorem z58 {t:Bool} {P:Prop} (h:Cnd t false P):Cnd (!t) true P:=v26 h
theorem z60 {t:Bool} {P:Prop} (h:Cnd t true P):Cnd (!t) false P:=v26 h
theorem zi4 {t b:Bool} {P:Prop} (h:t=b→P):Cnd t b P:=⟨h⟩
structure Dand (a b:Prop):Prop where
 one:a
 two:b
theorem dand {a b:Prop} (h1:a) (h2:b):Dand a b:=⟨h1,h2⟩
structure WP (c:ICode) (fr:WFr) (H:z18) (N:Post) (B:Hs) (R:RP):Prop where
 run:∃ s fr' H',wC V (wv V) witW c fr H=some (s,fr',H')∧outK N B R s fr' H'
end
section
variable {V:WEnv} {fr fr':WFr} {H H':z18} {N:Post} {B:Hs} {R:RP} {dst:Option Nat} {d:Nat}
theorem z08 (h:N fr H):WP V .skip fr H N B R:=⟨_,_,_,rfl,h⟩
theorem z09 (h:R.ret fr H):WP V .ret fr H N B R:=⟨_,_,_,rfl,h⟩
theorem z56 {i:Nat} (h:qp4 B i fr H):WP V (.exit i) fr H N B R:=⟨_,_,_,rfl,h⟩
def wj3:Hs→Nat→Option Post
 | [],_=>none
 | (j,K)::r,i=>bif Nat.beq i j then some K else wj3 r i
theorem zc1 {i:Nat} {K:Post}:∀ {B:Hs},wj3 B i=some K→K fr H→qp4 B i fr H:=by
 intro B
 induction B with
 | nil=>intro h;cases h
 | cons p r ih=>
   obtain ⟨j,K'⟩:=p
   intro h hk
   have h:(bif Nat.beq i j then some K' else wj3 r i)=some K:=h
   show bif Nat.beq i j then K' fr H else qp4 r i fr H
   cases hb:Nat.beq i j with
   | true=>rw [hb] at h;injection h with h;subst h;exact hk
   | false=>rw [hb] at h;exact ih h hk
theorem z02 {a b:ICode} (h:WP V a fr H (fun fr' H'=>WP V b fr' H' N B R) B R):WP V (.seq a b) fr H N B R:=by
 obtain ⟨s,fr1,H1,h1,h2⟩:=h
 cases s with
 | nrm=>
   obtain ⟨s,fr2,H2,h3,h4⟩:=h2
   exact ⟨s,fr2,H2,by rw [w69,h1];exact h3,h4⟩
 | exit i=>exact ⟨.exit i,fr1,H1,by rw [w69,h1],h2⟩
 | goto l=>exact ⟨.goto l,fr1,H1,by rw [w69,h1],h2⟩
 | ret=>exact ⟨.ret,fr1,H1,by rw [w69,h1],h2⟩
theorem z06 {i:Nat} {a:ICode} (h:WP V a fr H N ((i,N)::B) R):WP V (.block i a) fr H N B R:=by
 obtain ⟨s,fr1,H1,h1,h2⟩:=h
 cases s with
 | nrm=>exact ⟨.nrm,_,_,by rw [qf9,h1],h2⟩
 | exit j=>
   by_cases hj:j=i
   · subst hj
     refine ⟨.nrm,fr1,H1,by rw [qf9,h1];simp only [if_true],?_⟩
     have:(bif Nat.beq j j then N fr1 H1 else qp4 B j fr1 H1):=h2
     rw [zv6,if_pos rfl] at this
     exact this
   · refine ⟨.exit j,fr1,H1,by rw [qf9,h1];simp only [if_neg hj],?_⟩
     have:(bif Nat.beq j i then N fr1 H1 else qp4 B j fr1 H1):=h2
     rw [zv6,if_neg hj] at this
     exact this
 | goto l=>exact ⟨.goto l,_,_,by rw [qf9,h1],h2⟩
 | ret=>exact ⟨.ret,_,_,by rw [qf9,h1],h2⟩
theorem j47 {ops:List IOper} (h:VO V ops { fr with al:=noAl } H N):WP V (.region ops) fr H N B R:=by
 obtain ⟨fr1,H1,h1,h2⟩:=h
 exact ⟨.nrm,_,_,by rw [w64,h1],h2⟩
theorem z00 {ops:List IOper} {l:List (Nat×WV)} {a:List (Nat×Option (Nat×Nat))} (h:VO V ops (FL l []) H N):WP V (.region ops) (FL l a) H N B R:=j47 h
theorem j13 {ops:List (Cls×IOper)} (h:VD V ops { fr with al:=noAl } H N):WP V (.regionD ops) fr H N B R:=by
 obtain ⟨fr1,H1,h1,h2⟩:=h
 exact ⟨.nrm,_,_,by rw [w03,h1],h2⟩
theorem z28 {ops:List (Cls×IOper)} {l:List (Nat×WV)} {a:List (Nat×Option (Nat×Nat))} (h:VD V ops (FL l []) H N):WP V (.regionD ops) (FL l a) H N B R:=j13 h
theorem wp_cond {x:Opd} {a b:ICode} {t:Bool} (hx:fr.rd x=.c (.bool t)) (h1:t=true→WP V a fr H N B R) (h2:t=false→WP V b fr H N B R):WP V (.cond x a b) fr H N B R:=by
 cases t with
 | true=>
   obtain ⟨s,fr1,H1,g1,g2⟩:=h1 rfl
   exact ⟨s,fr1,H1,by rw [wg8,hx];exact g1,g2⟩
 | false=>
   obtain ⟨s,fr1,H1,g1,g2⟩:=h2 rfl
   exact ⟨s,fr1,H1,by rw [wg8,hx];exact g1,g2⟩
theorem z35 {x:Opd} {a b:ICode} {t:Bool} (hx:fr.rd x=.c (.bool t)) (ht:t=true) (h1:WP V a fr H N B R):WP V (.cond x a b) fr H N B R:=wp_cond hx (fun _=>h1) (fun h=>by rw [ht] at h;cases h)
theorem z32 {x:Opd} {a b:ICode} {t:Bool} (hx:fr.rd x=.c (.bool t)) (ht:t=false) (h1:WP V b fr H N B R):WP V (.cond x a b) fr H N B R:=wp_cond hx (fun h=>by rw [ht] at h;cases h) (fun _=>h1)
theorem z03 (h:N fr H):VO V [] fr H N:=⟨_,_,rfl,h⟩
theorem z01 {o:IOp} {r:List IOper} (h:OpP V o dst fr H (fun fr' H'=>VO V r fr' H' N)):VO V (⟨dst,none,o⟩::r) fr H N:=by
 obtain ⟨fr1,H1,h1,fr2,H2,h2,h3⟩:=h
 refine ⟨fr2,H2,?_,h3⟩
 show (match wStp V (wv V) ⟨dst,none,o⟩ fr H with
  | some (fr',H')=>wOps V (wv V) r fr' H'
  | none=>none)=_
 have:wStp V (wv V) ⟨dst,none,o⟩ fr H=wOp V (wv V) o dst fr H:=rfl
 rw [this,h1]
 exact h2
theorem wv5 {o:IOp} {s:Nat} {w b:Bool} (hs:fr.env s=.c (.bool b)):wStp V (wv V) ⟨dst,some (s,w),o⟩ fr H=if b=w then wOp V (wv V) o dst fr H else some (fr.put dst .skipv,H):=by
 show (match fr.env s with
  | .c (.bool b)=>if b=w then wOp V (wv V) o dst fr H else some (fr.put dst .skipv,H)
  | .skipv=>some (fr.put dst .skipv,H)
  | _=>none)=_
 rw [hs]
theorem z48 {o:IOp} {r:List IOper} {s:Nat} {w b:Bool} (hs:fr.env s=.c (.bool b)) (hb:b=w) (h:OpP V o dst fr H (fun fr' H'=>VO V r fr' H' N)):VO V (⟨dst,some (s,w),o⟩::r) fr H N:=by
 obtain ⟨fr1,H1,h1,fr2,H2,h2,h3⟩:=h
 refine ⟨fr2,H2,?_,h3⟩
 show (match wStp V (wv V) ⟨dst,some (s,w),o⟩ fr H with
  | some (fr',H')=>wOps V (wv V) r fr' H'
  | none=>none)=_
 rw [wv5 hs,if_pos hb,h1]
 exact h2
theorem jr0 {o:IOp} {r:List IOper} {s:Nat} {w b:Bool} (hs:fr.env s=.c (.bool b)) (hb:b=!w) (hp:Put fr dst .skipv fr') (h:VO V r fr' H N):VO V (⟨dst,some (s,w),o⟩::r) fr H N:=by
 obtain ⟨fr2,H2,h2,h3⟩:=h
 refine ⟨fr2,H2,?_,h3⟩
 show (match wStp V (wv V) ⟨dst,some (s,w),o⟩ fr H with
  | some (fr',H')=>wOps V (wv V) r fr' H'
  | none=>none)=_
 rw [wv5 hs,if_neg (by intro e;subst e;cases b<;>cases hb),hp.eq]
 exact h2
theorem z44 {o:IOp} {r:List IOper} {s:Nat} {b:Bool} (hs:fr.env s=.c (.bool b)) (hb:b=false) (hp:Put fr dst .skipv fr') (h:VO V r fr' H N):VO V (⟨dst,some (s,true),o⟩::r) fr H N:=jr0 hs hb hp h
theorem z39 {o:IOp} {r:List IOper} {s:Nat} {b:Bool} (hs:fr.env s=.c (.bool b)) (hb:b=true) (hp:Put fr dst .skipv fr') (h:VO V r fr' H N):VO V (⟨dst,some (s,false),o⟩::r) fr H N:=jr0 hs hb hp h
theorem zb4 {o:IOp} {r:List IOper} {s:Nat} {w:Bool} (hs:fr.env s=.skipv) (hp:Put fr dst .skipv fr') (h:VO V r fr' H N):VO V (⟨dst,some (s,w),o⟩::r) fr H N:=by
 obtain ⟨fr2,H2,h2,h3⟩:=h
 refine ⟨fr2,H2,?_,h3⟩
 show (match (match fr.env s with
  | .c (.bool b)=>if b=w then wOp V (wv V) o dst fr H else some (fr.put dst .skipv,H)
  | .skipv=>some (fr.put dst .skipv,H)
  | _=>none) with
  | some (fr',H')=>wOps V (wv V) r fr' H'
  | none=>none)=_
 rw [hs,hp.eq]
 exact h2
theorem w01 {l:List (Nat×WV)} {s:Nat} {v:WV} (h:frl l s=v):frl l=frl ((s,v)::l):=by
 rw [← zn9]
 funext x
 show frl l x=if x=s then v else frl l x
 by_cases hx:x=s
 · subst hx;rw [if_pos rfl,h]
 · rw [if_neg hx]
theorem q62 {l:List (Nat×WV)} {a:List (Nat×Option (Nat×Nat))} {s:Nat} {v:WV} (h:(FL l a).env s=v):FL l a=FL ((s,v)::l) a:=by
 unfold FL
 rw [← w01 h]
theorem wa7 {l:List (Nat×WV)} {a:List (Nat×Option (Nat×Nat))} {o:IOp} {r:List IOper} {s:Nat} {w b:Bool} (hs:(FL l a).env s=.c (.bool b))
 (h1:b=true→VO V (⟨dst,some (s,w),o⟩::r) (FL ((s,.c (.bool true))::l) a) H N) (h2:b=false→VO V (⟨dst,some (s,w),o⟩::r) (FL ((s,.c (.bool false))::l) a) H N) :
 VO V (⟨dst,some (s,w),o⟩::r) (FL l a) H N:=by
 cases b with
 | true=>rw [q62 hs];exact h1 rfl
 | false=>rw [q62 hs];exact h2 rfl
theorem z13 {l:List (Nat×WV)} {a:List (Nat×Option (Nat×Nat))} {s:Nat} {t:Bool} {x y:ICode} {B:Hs} {R:RP} (hs:(FL l a).env s=.c (.bool t))
 (h1:Cnd t true (WP V x (FL ((s,.c (.bool true))::l) a) H N B R)) (h2:Cnd t false (WP V y (FL ((s,.c (.bool false))::l) a) H N B R)):WP V (.cond (.t s) x y) (FL l a) H N B R:=by
 have hr:(FL l a).rd (.t s)=.c (.bool t):=by simp only [WFr.rd,hs];rfl
 refine wp_cond hr (fun e=>?_) (fun e=>?_)
 · subst e;rw [q62 hs];exact h1.go rfl
 · subst e;rw [q62 hs];exact h2.go rfl
theorem z38 {l:List (Nat×WV)} {a:List (Nat×Option (Nat×Nat))} {o:IOp} {r:List IOper} {s:Nat} {w b:Bool} (hs:(FL l a).env s=.c (.bool b))
 (h1:Cnd b true (VO V (⟨dst,some (s,w),o⟩::r) (FL ((s,.c (.bool true))::l) a) H N)) (h2:Cnd b false (VO V (⟨dst,some (s,w),o⟩::r) (FL ((s,.c (.bool false))::l) a) H N)) :
 VO V (⟨dst,some (s,w),o⟩::r) (FL l a) H N:=wa7 hs h1.go h2.go
end
end Go.Proofs.Lz
