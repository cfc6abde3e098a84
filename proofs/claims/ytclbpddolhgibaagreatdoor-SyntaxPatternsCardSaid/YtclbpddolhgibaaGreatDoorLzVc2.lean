/- The calculus: operations on closed values, on slices of one's own, on local boxes; calls; results. -/
import Derived.Test.YtclbpddolhgibaaGreatDoorLzVc
set_option linter.unusedSimpArgs false
set_option linter.unusedVariables false
namespace Go.Proofs.Lz
section
variable {V:WEnv} {fr fr':WFr} {H H':q8} {N:C9} {B:Hs} {R:RP} {dst:Option Nat} {d:Nat}
def zu2 (K:Pl->Bool) (fz:Bool):List (Nat×WV)->List (Nat×WV)
 | []=>[]
 | (s,v)::r=>(s,hit K fz (Pl.sl s) v)::zu2 K fz r
def X5 (b:Nat):WV->Bool
 | .view p _ _ _ _ _=>!l4 b p
 | .eptr p _ _ _ _=>!l4 b p
 | _=>true
def V8 (b:Nat):WV->Bool
 | .agg cs=>cs.all (X5 b)
 | v=>X5 b v
def zL (b:Nat):WV->Bool
 | .tup vs=>vs.all (V8 b)
 | .lbox _ v=>V8 b v
 | v=>V8 b v
def clean (b:Nat):List (Nat×WV)->Bool
 | []=>true
 | (s,v)::r=>(Nat.beq s b||zL b v)&&clean b r
theorem slot_ne {b s i k:Nat} (h:s≠b):l4 b (.sl s i k)=false:=by simp [l4,h]
section
variable {K:Pl->Bool} {b:Nat} (hK:∀ p,K p=true->l4 b p=true)
theorem mV (hK:∀ p,K p=true->l4 b p=true) {s i k:Nat} (hs:s≠b) {v:WV} (h:X5 b v=true):w8 K false (.sl s i k) v=v:=by
 have key:∀ p,l4 b p=false->K p=false:=by
  intro p hp;cases hk:K p with
  | true=>rw [hK p hk] at hp;cases hp
  | false=>rfl
 cases v with
 | own bb e ek xs=>simp only [w8,key _ (slot_ne hs)];rfl
 | view p bb off e ek xs=>
   have:l4 b p=false:=by simpa [X5] using h
   simp only [w8,key p this];rfl
 | eptr p i off ek x=>
   have:l4 b p=false:=by simpa [X5] using h
   simp only [w8,key p this];rfl
 | _=>rfl
theorem zo6 (hK:∀ p,K p=true->l4 b p=true) {s i:Nat} (hs:s≠b):∀ (k:Nat) (cs:List WV),cs.all (X5 b)=true->C6 K false (Pl.sl s i) k cs=cs:=by
 intro k cs;induction cs generalizing k with
 | nil=>intro _;rfl
 | cons v r ih=>
   intro h;simp only [List.all_cons,Bool.and_eq_true] at h;simp only [C6,mV hK hs h.1,ih _ h.2]
theorem kZ (hK:∀ p,K p=true->l4 b p=true) {s i:Nat} (hs:s≠b) {v:WV} (h:V8 b v=true):u3 K false (Pl.sl s i) v=v:=by
 have h1:∀ w,V8 b w=X5 b w->u3 K false (Pl.sl s i) w=w8 K false (Pl.sl s i 0) w->V8 b w=true->u3 K false (Pl.sl s i) w=w:=fun w e1 e2 e3=>by rw [e2];exact mV hK hs (by rw [<-e1];exact e3)
 cases v<;>first | exact h1 _ rfl rfl h | (simp only [u3];rw [zo6 hK hs 0 _ h])
theorem z18 (hK:∀ p,K p=true->l4 b p=true) {s:Nat} (hs:s≠b):∀ (i:Nat) (vs:List WV),vs.all (V8 b)=true->B9 K false (Pl.sl s) i vs=vs:=by
 intro i vs;induction vs generalizing i with
 | nil=>intro _;rfl
 | cons v r ih=>
   intro h;simp only [List.all_cons,Bool.and_eq_true] at h;simp only [B9,kZ hK hs h.1,ih _ h.2]
theorem z67 (hK:∀ p,K p=true->l4 b p=true) {s:Nat} (hs:s≠b) {v:WV} (h:zL b v=true):hit K false (Pl.sl s) v=v:=by
 have h1:∀ w,zL b w=V8 b w->hit K false (Pl.sl s) w=u3 K false (Pl.sl s 0) w->zL b w=true->hit K false (Pl.sl s) w=w:=fun w e1 e2 e3=>by rw [e2];exact kZ hK hs (by rw [<-e1];exact e3)
 cases v<;>first | exact h1 _ rfl rfl h | (simp only [hit,z18 hK hs 0 _ h];done) | (simp only [hit];rw [kZ hK hs h])
theorem zb5 {s:Nat} (hs:s≠b):∀ {l:List (Nat×WV)},clean b l=true->zL b (frl l s)=true:=by
 intro l;induction l with
 | nil=>intro _;rfl
 | cons p r ih=>
   obtain ⟨t,v⟩:=p;intro h;simp only [clean,Bool.and_eq_true,Bool.or_eq_true] at h;show zL b (bif Nat.beq s t then v else frl r s)=true;rw [R9];by_cases hst:s=t
   . rw [if_pos hst];rcases h.1 with h1 | h1
     . exact absurd (hst.trans (Nat.eq_of_beq_eq_true h1)) hs
     . exact h1
   . rw [if_neg hst];exact ih h.2
theorem yV (hK:∀ p,K p=true->l4 b p=true) {l:List (Nat×WV)} {a:List (Nat×Option (Nat×Nat))} (h:clean b l=true) (v:WV):upd (u5 K false (FL l a)).env b v=frl ((b,v)::l):=by
 rw [<-qN];funext s;show (if s=b then v else hit K false (Pl.sl s) (frl l s))=if s=b then v else frl l s
 by_cases hs:s=b
 . rw [if_pos hs,if_pos hs]
 . rw [if_neg hs,if_neg hs,z67 hK hs (zb5 hs h)]
end
theorem z08 {d s:Nat} {v:WV} (h:x3 v=[]):jT d s v fr H=some (fr.put (some d) v,H):=by
 unfold jT;rw [h]
theorem zf9 {x:Opd} {v:WV} (hp:fr.place x=none) (hx:fr.rd x=v) (hv:okW v=true) (hs:x3 v=[]) (hq:Put fr dst v fr') (h:N fr' H):OpP V (.mv x) dst fr H N:=by
 refine ⟨fr',H,?_,h⟩;show j1 (.mv x) dst fr H=_;simp only [j1,hp,hx,if_pos hv];cases dst with
 | none=>simp only [hq.eq]
 | some d=>
   cases x with
   | k c=>simp only [hq.eq]
   | t s=>
     simp only;split
     . rw [z08 hs,hq.eq]
     . rw [hq.eq]
theorem y0 {x:Opd} {u:CV} (hp:fr.place x=none) (hx:fr.rd x=.c u) (hq:Put fr dst (.c u) fr') (h:N fr' H):OpP V (.mv x) dst fr H N:=zf9 hp hx rfl rfl hq h
theorem zH {op:UnOp} {x:Opd} {a v:CV} (hx:fr.rd x=.c a) (hv:unC op a=some v) (hq:Put fr dst (.c v) fr') (h:N fr' H):OpP V (.un op x) dst fr H N:=
 ⟨fr',H,by show j1 (.un op x) dst fr H=_;simp only [j1,hx,hv,Option.map,G4,hq.eq],h⟩
theorem u6 {op:BinOp} {x y:Opd} {a b v:CV} (hx:fr.rd x=.c a) (hy:fr.rd y=.c b) (hv:L2 op a b=some v) (hq:Put fr dst (.c v) fr') (h:N fr' H):OpP V (.bin op x y) dst fr H N:=
 ⟨fr',H,by show j1 (.bin op x y) dst fr H=_;simp only [j1,hx,hy,hv,Option.map,G4,hq.eq],h⟩
theorem wrap64 {x:Int} (h:-9223372036854775808<=x/\x<9223372036854775808):IntKind.i64.wrap x=x:=by
 simp [IntKind.wrap,IntKind.bits,IntKind.signed,IntKind.max,IntKind.min];omega
theorem W7 {x y:Opd} {a b:Int} (hx:fr.rd x=.c (.int .i64 a)) (hy:fr.rd y=.c (.int .i64 b)) (hb:-9223372036854775808<=a+b/\a+b<9223372036854775808) (hq:Put fr dst (.c (.int .i64 (a+b))) fr') (h:N fr' H):OpP V (.bin .add x y) dst fr H N:=
 u6 hx hy (by simp only [L2,if_true,wrap64 hb]) hq h
theorem tJ {neg:Bool} {x y:Opd} {a b:Bool} (hx:fr.rd x=.c (.bool a)) (hy:fr.rd y=.c (.bool b)) (hq:Put fr dst (.c (.bool (if neg then !(a==b) else a==b))) fr') (h:N fr' H):OpP V (.eqb neg x y) dst fr H N:=
 ⟨fr',H,by show j1 (.eqb neg x y) dst fr H=_;simp only [j1,hx,hy,hq.eq],h⟩
theorem q00 {c a b:Opd} {v:WV} (hc:fr.rd c=.c (.bool true)) (ha:fr.rd a=v) (hv:okW v=true) (hq:Put fr dst v fr') (h:N fr' H):OpP V (.pick c a b) dst fr H N:=
 ⟨fr',H,by show j1 (.pick c a b) dst fr H=_;simp only [j1,hc,if_true,ha,if_pos hv,hq.eq],h⟩
theorem zz2 {c a b:Opd} {v:WV} (hc:fr.rd c=.c (.bool false)) (ha:fr.rd b=v) (hv:okW v=true) (hq:Put fr dst v fr') (h:N fr' H):OpP V (.pick c a b) dst fr H N:=
 ⟨fr',H,by show j1 (.pick c a b) dst fr H=_;simp only [j1,hc,Bool.false_eq_true,if_false,ha,if_pos hv,hq.eq],h⟩
theorem Z3 {c a b:Opd} {v:CV} {t:Bool} (hc:fr.rd c=.c (.bool t)) (ht:t=true) (ha:fr.rd a=.c v) (hq:Put fr dst (.c v) fr') (h:N fr' H):OpP V (.pick c a b) dst fr H N:=q00 (ht▸hc) ha rfl hq h
theorem Y2 {c a b:Opd} {v:CV} {t:Bool} (hc:fr.rd c=.c (.bool t)) (ht:t=false) (ha:fr.rd b=.c v) (hq:Put fr dst (.c v) fr') (h:N fr' H):OpP V (.pick c a b) dst fr H N:=zz2 (ht▸hc) ha rfl hq h
theorem zs3 {m:Bool} {x y:Opd} {k k':IntKind} {a b:Int} (hx:fr.rd x=.c (.int k a)) (hy:fr.rd y=.c (.int k' b)) (hq:Put fr dst (.c (.int k (if m then max a b else min a b))) fr') (h:N fr' H):OpP V (.mx m x y) dst fr H N:=
 ⟨fr',H,by show j1 (.mx m x y) dst fr H=_;simp only [j1,hx,hy,hq.eq],h⟩
theorem bB {st:Bool} {x:Opd} {v:WV} {n:Nat} (hx:fr.rd x=v) (hn:uY st v=some n) (hq:Put fr dst (.c (.int .i64 n)) fr') (h:N fr' H):OpP V (.len st x) dst fr H N:=
 ⟨fr',H,by show j1 (.len st x) dst fr H=_;simp only [j1,hx,hn,hq.eq],h⟩
theorem cD {x:Opd} {s:List UInt8} (hx:fr.rd x=.c (.str s)) (hq:Put fr dst (.c (.int .i64 s.length)) fr') (h:N fr' H):OpP V (.len true x) dst fr H N:=bB hx rfl hq h
theorem M8 {α:Type} {x:Opd} {ek:Option Nat} {l:List α} {f:α->CV} (hx:fr.rd x=.c (.frz ek (l.map f))) (hq:Put fr dst (.c (.int .i64 l.length)) fr') (h:N fr' H):OpP V (.len false x) dst fr H N:=
 bB hx (by show some (l.map f).length=_;rw [List.length_map]) hq h
theorem U5 {x:Opd} {ek:Option Nat} {xs:List CV} (hx:fr.rd x=.c (.frz ek xs)) (hq:Put fr dst (.c (.int .i64 xs.length)) fr') (h:N fr' H):OpP V (.len false x) dst fr H N:=bB hx rfl hq h
theorem zi4 {x i:Opd} {ek:Option Nat} {xs:List CV} {k:IntKind} {n:Int} {m:Nat} {v:CV} (hx:fr.rd x=.c (.frz ek xs)) (hi:fr.rd i=.c (.int k n)) (hn:n=(m:Nat)) (hb:xs[m]?=some v) (hq:Put fr dst (.c (.fptr ek v 0)) fr') (h:N fr' H):OpP V (.ix ek x i) dst fr H N:=
 ⟨fr',H,by show j1 (.ix ek x i) dst fr H=_;subst hn;simp only [j1,hx,hi,qF,ixW,true_and,if_pos (Int.natCast_nonneg m),Int.toNat_natCast,hb,G4,hq.eq],h⟩
theorem P5 {α:Type} {x i:Opd} {ek:Option Nat} {l:List α} {f:α->CV} {k:IntKind} {n:Int} {m:Nat} {y:α} (hx:fr.rd x=.c (.frz ek (l.map f))) (hi:fr.rd i=.c (.int k n)) (hn:n=(m:Nat)) (hb:l[m]?=some y) (hq:Put fr dst (.c (.fptr ek (f y) 0)) fr') (h:N fr' H):OpP V (.ix ek x i) dst fr H N:=
 zi4 hx hi hn (by rw [List.getElem?_map,hb];rfl) hq h
theorem zo7 {ek ek':Option Nat} {a:Opd} {x v:CV} {off:Nat} (hp:fr.place a=none) (ha:fr.rd a=.c (.fptr ek' x off)) (hv:G2 ek' ek x off=some v) (hq:Put fr dst (.c v) fr') (h:N fr' H):OpP V (.load ek a) dst fr H N:=
 ⟨fr',H,by show j1 (.load ek a) dst fr H=_;simp only [j1,hp,ha,I9,hv,Option.map,G4,hq.eq],h⟩
theorem P2 {ek:Option Nat} {a:Opd} {x:CV} (hp:fr.place a=none) (ha:fr.rd a=.c (.fptr ek x 0)) (hq:Put fr dst (.c x) fr') (h:N fr' H):OpP V (.load ek a) dst fr H N:=
 zo7 hp ha (by simp only [G2,and_self,if_true]) hq h
theorem zt0 {ek ek':Option Nat} {a:Opd} {b off:Nat} {x v:WV} (hp:fr.place a=some (b,off)) (hb:fr.env b=.lbox ek' x) (hv:(if off=0/\ek'=ek then some (r7 (Pl.sl b 0) x) else K6 ek (r7 (Pl.sl b 0) x).flat off)=some v) (hq:Put fr dst v fr') (h:N fr' H):OpP V (.load ek a) dst fr H N:=
 ⟨fr',H,by show j1 (.load ek a) dst fr H=_;simp only [j1,hp,hb,hv,G4,hq.eq],h⟩
theorem t6 {ek ek':Option Nat} {a:Opd} {b off:Nat} {x:WV} {v:CV} (hp:fr.place a=some (b,off)) (hb:fr.env b=.lbox ek' x) (hv:(if off=0/\ek'=ek then some (r7 (Pl.sl b 0) x) else K6 ek (r7 (Pl.sl b 0) x).flat off)=some (.c v)) (hq:Put fr dst (.c v) fr') (h:N fr' H):OpP V (.load ek a) dst fr H N:=
 zt0 hp hb hv hq h
structure Lnk (fr:WFr) (dst:Option Nat) (b off:Nat) (fr':WFr):Prop where
 eq:fr.link dst b off=fr'
 ne:dst≠some b
theorem zg5 (n:Nat):Nat.beq n n=true:=by
 have:=R9 n n true false;rw [if_pos rfl] at this;cases h:Nat.beq n n with
 | true=>rfl
 | false=>rw [h] at this;cases this
theorem F5 {l:List (Nat×WV)} {a:List (Nat×Option (Nat×Nat))} {b off:Nat} (hd:Nat.beq d b=false):Lnk (FL l a) (some d) b off (FL ((d,.undef)::l) ((d,some (b,off))::a)):=
 ⟨by simp only [WFr.link,FL,qN,tQ],by intro e;injection e with e;subst e;rw [zg5 d] at hd;cases hd⟩
theorem G6 {n:Nat} {x:Opd} {b off:Nat} (hp:fr.place x=some (b,off)) (hl:Lnk fr dst b (off+n) fr') (h:N fr' H):OpP V (.faddr n x) dst fr H N:=
 ⟨fr',H,by show j1 (.faddr n x) dst fr H=_;simp only [j1,hp,Z9,if_neg hl.ne,hl.eq],h⟩
theorem zu0 {ek:Option Nat} {off:Nat} {x:Opd} {cs:List WV} {v:WV} (hx:xM (fr.rd x)=some cs) (hv:K6 ek cs off=some v) (hq:Put fr dst v fr') (h:N fr' H):OpP V (.fld ek off x) dst fr H N:=
 ⟨fr',H,by show j1 (.fld ek off x) dst fr H=_;simp only [j1,hx,hv,G4,hq.eq],h⟩
theorem dK {ek:Option Nat} {off:Nat} {x:Opd} {cs:List WV} {v:CV} (hx:xM (fr.rd x)=some cs) (hv:K6 ek cs off=some (.c v)) (hq:Put fr dst (.c v) fr') (h:N fr' H):OpP V (.fld ek off x) dst fr H N:=zu0 hx hv hq h
theorem jM {zero:List HV} {parts:List (Nat×Nat×Opd)} {cs:List WV} {u:CV} (hz:zero.all isC=true) (hf:T8 (zero.map N2) (parts.map fun p=>(p.1,p.2.1,fr.rd p.2.2))=some cs) (hm:M6 cs=.c u) (hq:Put fr dst (.c u) fr') (h:N fr' H):OpP V (.build zero parts) dst fr H N:=
 ⟨fr',H,by show j1 (.build zero parts) dst fr H=_;simp only [j1,if_pos hz,hf,hm,hq.eq],h⟩
theorem fX {zero:List HV} {parts:List (Nat×Nat×Opd)} {cs:List WV} {u:WV} (hz:zero.all isC=true) (hf:T8 (zero.map N2) (parts.map fun p=>(p.1,p.2.1,fr.rd p.2.2))=some cs) (hm:M6 cs=u) (hq:Put fr dst u fr') (h:N fr' H):OpP V (.build zero parts) dst fr H N:=
 ⟨fr',H,by show j1 (.build zero parts) dst fr H=_;simp only [j1,if_pos hz,hf,hm,hq.eq],h⟩
theorem vV {zero:List HV} {parts:List (Nat×Nat×Opd)} {cs us:List WV} (hz:zero.all isC=true) (hf:T8 (zero.map N2) (parts.map fun p=>(p.1,p.2.1,fr.rd p.2.2))=some cs) (hm:M6 cs=.agg us) (hq:Put fr dst (.agg us) fr') (h:N fr' H):OpP V (.build zero parts) dst fr H N:=fX hz hf hm hq h
theorem aT {e:Nat} {ek:Option Nat} {zero:List CV} {n:Nat} {parts:List (Nat×Opd)} {z:CV} {xs:List CV} (hz:s7 ek zero=some z) (hf:fits ek z=true) (hr:N8 ek (List.replicate n z) (parts.map fun p=>(p.1,fr.rd p.2))=some (xs,[])) (hq:Put fr dst (.c (.frz ek xs)) fr') (h:N fr' H):OpP V (.bsl true e ek zero n parts) dst fr H N:=
 ⟨fr',H,by show j1 (.bsl true e ek zero n parts) dst fr H=_;simp only [j1,hz,if_pos hf,hr,G9,if_true,hq.eq],h⟩
def inOrder:Nat->List (Nat×Opd)->Bool
 | _,[]=>true
 | k,p::r=>Nat.beq p.1 k&&inOrder (k+1) r
theorem oN {ek:Option Nat} {z:CV}:∀ (parts:List (Nat×Opd)) (pre vs:List CV),inOrder pre.length parts=true->o9 (parts.map fun p=>fr.rd p.2)=some vs->vs.all (fits ek)=true ->
 N8 ek (pre++List.replicate parts.length z) (parts.map fun p=>(p.1,fr.rd p.2))=some (pre++vs,[]):=by
 intro parts;induction parts with
 | nil=>
   intro pre vs _ hc _;simp only [List.map_nil,o9,Option.some.injEq] at hc;subst hc;simp [N8]
 | cons p r ih=>
   intro pre vs hi hc hf;simp only [inOrder,Bool.and_eq_true] at hi;have hp:p.1=pre.length:=Nat.eq_of_beq_eq_true hi.1;simp only [List.map_cons] at hc ⊢;generalize fr.rd p.2=w at hc ⊢;unfold o9 at hc;split at hc
   . rename_i e;cases e
   . rename_i v r' e;injection e with e1 e2;subst e1;subst e2;split at hc
     . rename_i l hl;injection hc with hc;subst hc;simp only [List.all_cons,Bool.and_eq_true] at hf;have hset:(pre++List.replicate (r.length+1) z).set pre.length v=(pre++[v])++List.replicate r.length z:=by
        rw [List.set_append_right _ _ (Nat.le_refl _),Nat.sub_self,List.replicate_succ,List.set_cons_zero];simp
       have:=ih (pre++[v]) l (by simpa using hi.2) hl hf.2;simp only [N8,zR,jF,List.length_cons,List.length_append,List.length_replicate,hp,show pre.length<pre.length+(r.length+1) by omega,hf.1,and_self,if_true,hset,this];simp
     . cases hc
   . cases hc
theorem xY {e:Nat} {ek:Option Nat} {zero:List CV} {n:Nat} {parts:List (Nat×Opd)} {z:CV} {xs:List CV} (hz:s7 ek zero=some z) (hf:fits ek z=true) (hn:Nat.beq parts.length n=true) (ho:inOrder 0 parts=true) (hr:o9 (parts.map fun p=>fr.rd p.2)=some xs) (ha:xs.all (fits ek)=true) (hq:Put fr dst (.c (.frz ek xs)) fr') (h:N fr' H):OpP V (.bsl true e ek zero n parts) dst fr H N:=by
 have hn:=Nat.eq_of_beq_eq_true hn;subst hn;exact aT hz hf (by simpa using oN (z:=z) parts [] xs ho hr ha) hq h
structure Boxed (fr:WFr) (d:Nat) (ek:Option Nat) (v:WV) (fr':WFr):Prop where
 eq:({ env:=upd (u5 (l4 d) false fr).env d (.lbox ek v),al:=unlink d fr.al }:WFr)=fr'
def V7 (d:Nat):List (Nat×Option (Nat×Nat))->List (Nat×Option (Nat×Nat))
 | []=>[]
 | (t,none)::r=>(t,none)::V7 d r
 | (t,some (b,off))::r=>(t,bif Nat.beq b d then none else some (b,off))::V7 d r
theorem zy5 (d:Nat):∀ (a:List (Nat×Option (Nat×Nat))) (t:Nat),lookA (V7 d a) t=match lookA a t with
 | some (b,off)=>if b=d then none else some (b,off)
 | none=>none:=by
 intro a;induction a with
 | nil=>intro t;rfl
 | cons p r ih=>
   intro t;obtain ⟨s,v⟩:=p;cases v with
   | none=>
     show (bif Nat.beq t s then none else lookA (V7 d r) t)=match (bif Nat.beq t s then none else lookA r t) with
      | some (b,off)=>if b=d then none else some (b,off)
      | none=>none
     cases Nat.beq t s with
     | true=>rfl
     | false=>exact ih t
   | some q=>
     obtain ⟨b,off⟩:=q;show (bif Nat.beq t s then (bif Nat.beq b d then none else some (b,off)) else lookA (V7 d r) t)=match (bif Nat.beq t s then some (b,off) else lookA r t) with
      | some (b,off)=>if b=d then none else some (b,off)
      | none=>none
     cases Nat.beq t s with
     | true=>show (bif Nat.beq b d then none else some (b,off))=if b=d then none else some (b,off);rw [R9]
     | false=>exact ih t
theorem B8 {l:List (Nat×WV)} {ek:Option Nat} {v:WV} (hc:clean d l=true):Boxed (FL l []) d ek v (FL ((d,.lbox ek v)::l) []):=⟨by
 have e:unlink d (FL l []).al=lookA []:=by funext t;show (if t=d then none else none)=none;split<;>rfl
 rw [yV (fun _ h=>h) hc,e];rfl⟩
theorem zw3 {l:List (Nat×WV)} {a:List (Nat×Option (Nat×Nat))} {ek:Option Nat} {v:WV} (hc:clean d l=true):Boxed (FL l a) d ek v (FL ((d,.lbox ek v)::l) ((d,none)::V7 d a)):=⟨by
 have e:unlink d (FL l a).al=lookA ((d,none)::V7 d a):=by
  funext t;show (if t=d then none else _)=(bif Nat.beq t d then none else lookA (V7 d a) t);rw [R9,zy5];rfl
 rw [yV (fun _ h=>h) hc,e];rfl⟩
theorem bJ {u:CV}:Lz.take (.c u) fr H=some (.c u,fr,H):=by
 simp [Lz.take,x3,c9,A8,G9,b9,j3,i7]
theorem G7 {ek:Option Nat} {x:Opd} {u:CV} (hx:fr.rd x=.c u) (hf:fitsW ek (.c u)=true) (hb:Boxed fr d ek (.c u) fr') (h:N fr' H):OpP V (.lbox ek x) (some d) fr H N:=
 ⟨fr',H,by show j1 (.lbox ek x) (some d) fr H=_;simp only [j1,hx,if_pos hf,bJ,hb.eq],h⟩
structure Stored (fr:WFr) (b off n:Nat) (v:WV) (fr':WFr):Prop where
 eq:({ env:=upd (u5 (zC b off n) false fr).env b v,al:=fr.al }:WFr)=fr'
structure Stored0 (fr:WFr) (b:Nat) (v:WV) (fr':WFr):Prop where
 eq:({ env:=upd (u5 (l4 b) false fr).env b v,al:=fr.al }:WFr)=fr'
theorem z57 {b off n:Nat} (p:Pl) (h:zC b off n p=true):l4 b p=true:=by
 cases p with
 | sl s i k=>simp only [zC,Bool.and_eq_true,decide_eq_true_eq] at h;simp [l4,h.1.1.1]
 | hp _ _=>cases h
 | tmp _ _=>cases h
theorem zc5 {l:List (Nat×WV)} {a:List (Nat×Option (Nat×Nat))} {b off n:Nat} {v:WV} (hc:clean b l=true):Stored (FL l a) b off n v (FL ((b,v)::l) a):=⟨by
 rw [yV z57 hc];rfl⟩
theorem I4 {l:List (Nat×WV)} {a:List (Nat×Option (Nat×Nat))} {b:Nat} {v:WV} (hc:clean b l=true):Stored0 (FL l a) b v (FL ((b,v)::l) a):=⟨by
 rw [yV (fun _ h=>h) hc];rfl⟩
theorem J2 {ek:Option Nat} {a x:Opd} {b:Nat} {u:CV} {x0:WV} (hp:fr.place a=some (b,0)) (hx:fr.rd x=.c u) (hf:fitsW ek (.c u)=true) (hb:fr.env b=.lbox ek x0) (hs:Stored0 fr b (.lbox ek (.c u)) fr') (h:N fr' H):OpP V (.store ek a x) dst fr H N:=
 ⟨fr',H,by show j1 (.store ek a x) dst fr H=_;simp only [j1,hp,hx,if_pos hf,bJ,hb,and_self,if_true,hs.eq],h⟩
theorem oH {ek ek':Option Nat} {a x:Opd} {b off:Nat} {u u':CV} {x0:WV} (hp:fr.place a=some (b,off)) (hx:fr.rd x=.c u) (hf:fitsW ek (.c u)=true) (hb:fr.env b=.lbox ek' x0) (hn:(decide (off=0)&&decide (ek'=ek))=false) (hl:(decide (off+(WV.c u).flat.length<=x0.flat.length)&&C4 x0&&!x0.flat.isEmpty)=true)
 (hu:xN ek' (N7 x0.flat off (WV.c u).flat)=some (.c u')) (hf':fitsW ek' (.c u')=true) (hs:Stored fr b off (WV.c u).flat.length (.lbox ek' (.c u')) fr') (h:N fr' H):OpP V (.store ek a x) dst fr H N:=
 ⟨fr',H,by
  simp only [Bool.and_eq_true,decide_eq_true_eq,Bool.not_eq_true'] at hl;have hn':¬ (off=0/\ek'=ek):=by
   rintro ⟨rfl,rfl⟩;simp at hn
  show j1 (.store ek a x) dst fr H=_;simp only [j1,hp,hx,if_pos hf,bJ,hb,if_neg hn',if_pos (show off+(WV.c u).flat.length<=x0.flat.length/\C4 x0=true/\x0.flat.isEmpty=false from ⟨hl.1.1,hl.1.2,hl.2⟩),hu,if_pos hf',hs.eq],h⟩
structure Rets (V:WEnv) (f:Nat) (asv:List WV) (r:WV):Prop where
 run:∃ r0 H',wv V f asv []=some (r0,H')/\shut r0=some r
theorem dD {f:Nat} {args asv:List WV} {r:WV} (hm:V.md f=.P) (ha:f4 H args=some asv) (hc:Rets V f asv r) (hi:(args.all I8||noRefW r)=true) (hq:Put fr dst r fr'):G5 V (wv V) f args dst fr H=some (fr',H):=by
 obtain ⟨r0,H1,h1,h2⟩:=hc;simp only [G5,hm,ha,h1,h2,if_pos hi,hq.eq]
theorem B6 {f:Nat} {args:List Opd} {asv:List WV} {r:WV} (hm:V.md f=.P) (ha:f4 H (args.map fr.rd)=some asv) (hc:Rets V f asv r) (hi:((args.map fr.rd).all I8||noRefW r)=true) (hq:Put fr dst r fr') (h:N fr' H):OpP V (.call f args) dst fr H N:=
 ⟨fr',H,by show G5 V (wv V) f (args.map fr.rd) dst fr H=_;exact dD hm ha hc hi hq,h⟩
theorem oO {f:Nat} {first cap:List CV} {x:Opd} {args:List Opd} {asv:List WV} {r:WV} (hx:fr.rd x=.c (.fn f first cap)) (hm:V.md f=.P) (ha:f4 H (first.map WV.c++args.map fr.rd++cap.map WV.c)=some asv) (hc:Rets V f asv r) (hi:((first.map WV.c++args.map fr.rd++cap.map WV.c).all I8||noRefW r)=true) (hq:Put fr dst r fr') (h:N fr' H):OpP V (.callv x args) dst fr H N:=
 ⟨fr',H,by
  show wOp V (wv V) (.callv x args) dst fr H=_;simp only [wOp,hx,Y3];exact dD hm ha hc hi hq,h⟩
theorem O0 (h:N fr H):VD V [] fr H N:=⟨_,_,rfl,h⟩
theorem M3 {o:IOp} {c:Cls} {r:List (Cls×IOper)} (h0:D9 fr dst=true) (h:OpD V c o dst fr H (fun fr' H'=>Dand (D9 fr' dst=true) (VD V r fr' H' N))):VD V ((c,⟨dst,none,o⟩)::r) fr H N:=by
 obtain ⟨fr1,H1,h1,h2,fr2,H2,h3,h4⟩:=h;refine ⟨fr2,H2,?_,h4⟩;show (match e9 V (wv V) c ⟨dst,none,o⟩ fr H with
  | some (fr',H')=>A3 V (wv V) r fr' H'
  | none=>none)=_
 have:E2 V (wv V) c ⟨dst,none,o⟩ fr H=wD V (wv V) c o dst fr H:=rfl;simp only [e9,if_pos h0,this,h1,if_pos (show c=.lb\/D9 fr1 dst=true from .inr h2)];exact h3
theorem rP {o:IOp} {c:Cls} {s:Nat} {w b:Bool} (hs:fr.env s=.c (.bool b)):E2 V (wv V) c ⟨dst,some (s,w),o⟩ fr H=if b=w then wD V (wv V) c o dst fr H else some (fr.put dst .skipv,H):=by
 show (match fr.env s with
  | .c (.bool b)=>if b=w then wD V (wv V) c o dst fr H else some (fr.put dst .skipv,H)
  | .skipv=>some (fr.put dst .skipv,H)
  | _=>none)=_
 rw [hs]
theorem mI {o:IOp} {c:Cls} {r:List (Cls×IOper)} {s:Nat} {w b:Bool} (hs:fr.env s=.c (.bool b)) (hb:b=w) (h0:D9 fr dst=true) (h:OpD V c o dst fr H (fun fr' H'=>Dand (D9 fr' dst=true) (VD V r fr' H' N))):VD V ((c,⟨dst,some (s,w),o⟩)::r) fr H N:=by
 obtain ⟨fr1,H1,h1,h2,fr2,H2,h3,h4⟩:=h;refine ⟨fr2,H2,?_,h4⟩;show (match e9 V (wv V) c ⟨dst,some (s,w),o⟩ fr H with
  | some (fr',H')=>A3 V (wv V) r fr' H'
  | none=>none)=_
 simp only [e9,if_pos h0,rP hs,if_pos hb,h1,if_pos (show c=.lb\/D9 fr1 dst=true from .inr h2)];exact h3
theorem eU {o:IOp} {c:Cls} {r:List (Cls×IOper)} {s:Nat} {w b:Bool} (hs:fr.env s=.c (.bool b)) (hb:b=!w) (h0:D9 fr dst=true) (hp:Put fr dst .skipv fr') (h1:D9 fr' dst=true) (h:VD V r fr' H N):VD V ((c,⟨dst,some (s,w),o⟩)::r) fr H N:=by
 obtain ⟨fr2,H2,h3,h4⟩:=h;refine ⟨fr2,H2,?_,h4⟩;show (match e9 V (wv V) c ⟨dst,some (s,w),o⟩ fr H with
  | some (fr',H')=>A3 V (wv V) r fr' H'
  | none=>none)=_
 have hb':¬ b=w:=by intro e;subst e;cases b<;>cases hb
 simp only [e9,if_pos h0,rP hs,if_neg hb',hp.eq,if_pos (show c=.lb\/D9 fr' dst=true from .inr h1)];exact h3
theorem ze0 {l:List (Nat×WV)} {a:List (Nat×Option (Nat×Nat))} {o:IOp} {c:Cls} {r:List (Cls×IOper)} {s:Nat} {w b:Bool} (hs:(FL l a).env s=.c (.bool b))
 (h1:b=true->VD V ((c,⟨dst,some (s,w),o⟩)::r) (FL ((s,.c (.bool true))::l) a) H N) (h2:b=false->VD V ((c,⟨dst,some (s,w),o⟩)::r) (FL ((s,.c (.bool false))::l) a) H N) :
 VD V ((c,⟨dst,some (s,w),o⟩)::r) (FL l a) H N:=by
 cases b with
 | true=>rw [zI hs];exact h1 rfl
 | false=>rw [zI hs];exact h2 rfl
theorem aG {o:IOp} {c:Cls} {r:List (Cls×IOper)} {s:Nat} {b:Bool} (hs:fr.env s=.c (.bool b)) (hb:b=false) (h0:D9 fr dst=true) (hp:Put fr dst .skipv fr') (h1:D9 fr' dst=true) (h:VD V r fr' H N):VD V ((c,⟨dst,some (s,true),o⟩)::r) fr H N:=eU hs hb h0 hp h1 h
theorem dX {l:List (Nat×WV)} {a:List (Nat×Option (Nat×Nat))} {o:IOp} {c:Cls} {r:List (Cls×IOper)} {s:Nat} {w b:Bool} (hs:(FL l a).env s=.c (.bool b))
 (h1:Cnd b true (VD V ((c,⟨dst,some (s,w),o⟩)::r) (FL ((s,.c (.bool true))::l) a) H N)) (h2:Cnd b false (VD V ((c,⟨dst,some (s,w),o⟩)::r) (FL ((s,.c (.bool false))::l) a) H N)) :
 VD V ((c,⟨dst,some (s,w),o⟩)::r) (FL l a) H N:=ze0 hs h1.go h2.go
theorem M1 {o:IOp} (hp:C2 o=true) (h:OpP V o dst fr H N):OpD V .pure o dst fr H N:=by
 obtain ⟨fr1,H1,h1,h2⟩:=h;refine ⟨fr1,H1,?_,h2⟩;cases o<;>first | (simp only [C2,Bool.false_eq_true] at hp;done) | (simp only [wD,hp,if_true];exact h1)
theorem zO {b:Nat} {ek:Option Nat} {a:Opd} (hp:(fr.place a).map (·.1)=some b) (h:OpP V (.load ek a) dst fr H N):OpD V (.rdb b) (.load ek a) dst fr H N:=by
 obtain ⟨fr1,H1,h1,h2⟩:=h;exact ⟨fr1,H1,by simp only [wD,hp,if_true];exact h1,h2⟩
theorem uI {b:Nat} {ek:Option Nat} {a x:Opd} (hp:(fr.place a).map (·.1)=some b) (h:OpP V (.store ek a x) none fr H N):OpD V (.wrb b) (.store ek a x) none fr H N:=by
 obtain ⟨fr1,H1,h1,h2⟩:=h;exact ⟨fr1,H1,by simp only [wD,hp,and_self,if_true];exact h1,h2⟩
theorem W5 {ek:Option Nat} {a:Opd} (hp:(fr.place a).isSome=false) (h:OpP V (.load ek a) dst fr H N):OpD V .rd (.load ek a) dst fr H N:=by
 obtain ⟨fr1,H1,h1,h2⟩:=h;exact ⟨fr1,H1,by simp only [wD,hp,Bool.false_eq_true,if_false];exact h1,h2⟩
theorem X0 {ek:Option Nat} {x i:Opd} (h:OpP V (.ix ek x i) dst fr H N):OpD V .rd (.ix ek x i) dst fr H N:=⟨h.run⟩
theorem f0 {f:Nat} {args:List Opd} {asv:List WV} {r:WV} (hm:V.md f=.P) (ha:f4 H (args.map fr.rd)=some asv) (hc:Rets V f asv r) (hi:(noRefW r||(args.map fr.rd).all I8)=true) (hq:Put fr dst r fr') (h:N fr' H):OpD V .rd (.call f args) dst fr H N:=
 ⟨fr',H,by
  obtain ⟨r0,H2,h1,h2⟩:=hc;have hi':noRefW r=true\/(args.map fr.rd).all I8=true:=by simpa using hi
  simp only [wD,hm,ha,h1,h2,if_pos hi',hq.eq],h⟩
theorem zi6 {ek:Option Nat} {x:Opd} (h:OpP V (.lbox ek x) dst fr H N):OpD V .lb (.lbox ek x) dst fr H N:=⟨h.run⟩
theorem fQ {o:IOp} {r:List (Cls×IOper)} (h0:D9 fr dst=true) (h:OpD V .lb o dst fr H (fun fr' H'=>VD V r fr' H' N)):VD V ((.lb,⟨dst,none,o⟩)::r) fr H N:=by
 obtain ⟨fr1,H1,h1,fr2,H2,h3,h4⟩:=h;refine ⟨fr2,H2,?_,h4⟩;show (match e9 V (wv V) .lb ⟨dst,none,o⟩ fr H with
  | some (fr',H')=>A3 V (wv V) r fr' H'
  | none=>none)=_
 have:E2 V (wv V) .lb ⟨dst,none,o⟩ fr H=wD V (wv V) .lb o dst fr H:=rfl;simp only [e9,if_pos h0,this,h1,true_or,if_true];exact h3
def KpL (D:List Nat) (fr:WFr):List Nat->List (Nat×WV)->Prop
 | [],[]=>True
 | s::ss,(t,v)::l=>s=t/\hit (zF D) false (Pl.sl s) (fr.env s)=v/\KpL D fr ss l
 | _,_=>False
theorem v6 {D:List Nat}:KpL D fr [] []:=trivial
theorem o6 {D:List Nat} {s:Nat} {ss:List Nat} {v:WV} {l:List (Nat×WV)} (hv:hit (zF D) false (Pl.sl s) (fr.env s)=v) (h:KpL D fr ss l):KpL D fr (s::ss) ((s,v)::l):=⟨rfl,hv,h⟩
theorem zj9 {D:List Nat}:∀ {ss:List Nat} {l:List (Nat×WV)},KpL D fr ss l->(ss.map fun s=>(s,hit (zF D) false (Pl.sl s) (fr.env s)))=l:=by
 intro ss;induction ss with
 | nil=>intro l h;cases l with
   | nil=>rfl
   | cons p l=>cases h
 | cons s ss ih=>intro l h;cases l with
   | nil=>cases h
   | cons p l=>
     obtain ⟨t,v⟩:=p;obtain ⟨rfl,rfl,h⟩:=h;simp only [List.map_cons,ih h]
theorem dO {D:List Nat} {l:List (Nat×WV)} (h:KpL D fr D l):o8 D fr=FL l []:=by
 unfold o8;rw [zj9 h,nD]
theorem m7 {L:List Nat} {K:List (Nat×WV)} (h:KpL L fr L K) (hN:N (FL K []) H):WP V (.keep L) fr H N B R:=⟨.nrm,FL K [],H,by show some (Ex.nrm,o8 L fr,H)=_;rw [dO h],hN⟩
theorem J1 {D ss:List Nat} {s:Nat} {u:CV} {l:List (Nat×WV)} (h:fr.env s=.c u) (hr:KpL D fr ss l):KpL D fr (s::ss) ((s,.c u)::l):=o6 (by rw [h];rfl) hr
theorem H6 {D ss:List Nat} {s:Nat} {ek:Option Nat} {u:CV} {l:List (Nat×WV)} (h:fr.env s=.lbox ek (.c u)) (hr:KpL D fr ss l):KpL D fr (s::ss) ((s,.lbox ek (.c u))::l):=o6 (by rw [h];rfl) hr
theorem K7 {σ:Type} {live:List Nat} {body:ICode} (K:σ->List (Nat×WV)) (P:σ->Prop) (μ:σ->Nat) (s0:σ) (h0:KpL live fr live (K s0)) (hP:P s0)
 (hb:∀ s,P s->WP V body (FL (K s) []) H (fun fr' H'=>∃ s',KpL live fr' live (K s')/\H'=H/\P s'/\μ s'<μ s) B R):WP V (.loop live body) fr H N B R:=by
 have key:∀ n s fr,μ s<n->KpL live fr live (K s)->P s->WP V (.loop live body) fr H N B R:=by
  intro n;induction n with
  | zero=>intro s fr h;omega
  | succ n ih=>
    intro s fr hn hk hp;obtain ⟨x,fr1,H1,g1,g2⟩:=hb s hp;have e:wC V (wv V) witW (.loop live body) fr H=match wC V (wv V) witW body (FL (K s) []) H with
     | some (.nrm,fr',H')=>wC V (wv V) witW (.loop live body) fr' H'
     | r=>r:=by
     rw [zk9,zf2,dO hk];rfl
    cases x with
    | nrm=>
      obtain ⟨s',k1,rfl,k2,k3⟩:=g2;obtain ⟨y,fr2,H2,m1,m2⟩:=ih s' fr1 (by omega) k1 k2;exact ⟨y,fr2,H2,by rw [e,g1];exact m1,m2⟩
    | exit i=>exact ⟨.exit i,fr1,H1,by rw [e,g1],g2⟩
    | goto i=>exact ⟨.goto i,fr1,H1,by rw [e,g1],g2⟩
    | ret=>exact ⟨.ret,fr1,H1,by rw [e,g1],g2⟩
 exact key (μ s0+1) s0 fr (by omega) h0 hP
inductive ShI (fr:WFr):IRes->CV->Prop
 | c {t:Nat} {u:CV} (h:fr.env t=.c u):ShI fr (.tmp t) u
 | own {t:Nat} {b:Bool} {e:Nat} {ek:Option Nat} {xs:List CV} (h:fr.env t=.own b e ek xs):ShI fr (.tmp t) (.frz ek xs)
 | nils {t:Nat} (h:fr.env t=.nils):ShI fr (.tmp t) (.frz none [])
 | cell {a:Nat} {ek:Option Nat} {u:CV} (h:fr.env a=.lbox ek (.c u)):ShI fr (.cell a ek) u
def IRes.at:IRes->Nat
 | .tmp t=>t
 | .cell a _=>a
inductive ShL (fr:WFr):List IRes->List CV->Prop
 | nil:ShL fr [] []
 | cons {r:IRes} {u:CV} {rs:List IRes} {us:List CV} (h:ShI fr r u) (hs:ShL fr rs us):ShL fr (r::rs) (u::us)
def eR:List CV->WV
 | [u]=>.c u
 | us=>.tup (us.map .c)
def fin (res:List IRes) (r:WV):C9:=fun fr H=>∃ vs r0 H',D5 fr H res=some vs/\Z5 0 vs H=some (r0,H')/\shut r0=some r
structure Lv (v:WV) (t:Nat) (u:CV):Prop where
 src:c9 v=[]\/c9 v=[.sl t 0 0]
 ok:o0 v=true
 sh:Q0 (E8 0 v)=some u
 nt:∀ vs,E8 0 v≠.tup vs
inductive LvL:List WV->List Nat->List CV->Prop
 | nil:LvL [] [] []
 | cons {v:WV} {t:Nat} {u:CV} {vs:List WV} {ts:List Nat} {us:List CV} (h:Lv v t u) (hs:LvL vs ts us):LvL (v::vs) (t::ts) (u::us)
theorem ze1 {r:IRes} {u:CV} (h:ShI fr r u):∃ v,D5 fr H [r]=some [v]/\Lv v r.at u:=by
 cases h with
 | c h=>exact ⟨_,rfl,by rw [h];exact ⟨.inl rfl,rfl,rfl,by intro vs h;cases h⟩⟩
 | own h=>exact ⟨_,rfl,by rw [h];exact ⟨.inr rfl,rfl,rfl,by intro vs h;cases h⟩⟩
 | nils h=>exact ⟨_,rfl,by rw [h];exact ⟨.inl rfl,rfl,rfl,by intro vs h;cases h⟩⟩
 | @cell a ek u h=>exact ⟨.c u,by simp only [D5,h,if_true];rfl,⟨.inl rfl,rfl,rfl,by intro vs h;cases h⟩⟩
theorem eW {r:IRes} {rs:List IRes} {v:WV} {vs:List WV} (h1:D5 fr H [r]=some [v]) (h2:D5 fr H rs=some vs):D5 fr H (r::rs)=some (v::vs):=by
 cases r with
 | tmp t=>
   simp only [D5] at h1 ⊢;rw [h2];injection h1 with h1;injection h1 with h1;rw [h1]
 | cell a ek=>
   simp only [D5] at h1 ⊢;rw [h2];split at h1
   . rename_i w l hw hl;injection hl with hl;subst hl;injection h1 with h1;injection h1 with h1 _;subst h1;rw [hw]
   . cases h1
theorem iP:∀ {rs:List IRes} {us:List CV},ShL fr rs us->∃ vs,D5 fr H rs=some vs/\LvL vs (rs.map IRes.at) us:=by
 intro rs us h;induction h with
 | nil=>exact ⟨[],rfl,.nil⟩
 | cons h _ ih=>
   obtain ⟨v,h1,h2⟩:=ze1 (H:=H) h;obtain ⟨vs,h3,h4⟩:=ih;exact ⟨v::vs,eW h1 h3,.cons h2 h4⟩
theorem zw5:∀ {vs:List WV} {ts:List Nat} {us:List CV},LvL vs ts us->ts.Nodup->(a7 vs).Nodup/\(∀ p∈a7 vs,∃ t∈ts,p=.sl t 0 0):=by
 intro vs ts us h;induction h with
 | nil=>intro _;exact ⟨List.nodup_nil,by intro p hp;cases hp⟩
 | @cons v t u vs ts us h _ ih=>
   intro hd;rw [List.nodup_cons] at hd;obtain ⟨a,b⟩:=ih hd.2;simp only [a7];rcases h.src with e | e
   . rw [e,List.nil_append];exact ⟨a,fun p hp=>by obtain ⟨t',h1,h2⟩:=b p hp;exact ⟨t',by simp [h1],h2⟩⟩
   . rw [e];refine ⟨?_,?_⟩
     . simp only [List.cons_append,List.nil_append,List.nodup_cons];refine ⟨?_,a⟩;intro hp;obtain ⟨t',h1,h2⟩:=b _ hp;injection h2 with h2 _ _;subst h2;exact hd.1 h1
     . intro p hp;simp only [List.cons_append,List.nil_append,List.mem_cons] at hp;rcases hp with rfl | hp
       . exact ⟨t,by simp,rfl⟩
       . obtain ⟨t',h1,h2⟩:=b p hp;exact ⟨t',by simp [h1],h2⟩
theorem zf0:∀ {vs:List WV} {ts:List Nat} {us:List CV},LvL vs ts us->vs.all o0=true/\U7 (vs.map (E8 0))=some (us.map .c):=by
 intro vs ts us h;induction h with
 | nil=>exact ⟨rfl,rfl⟩
 | cons h _ ih=>exact ⟨by simp only [List.all_cons,h.ok,ih.1,Bool.and_self],by simp only [List.map_cons,U7,h.sh,ih.2]⟩
theorem sS {res:List IRes} {us:List CV} (hd:(res.map IRes.at).Nodup) (h:ShL fr res us):fin res (eR us) fr H:=by
 obtain ⟨vs,h1,h2⟩:=iP (H:=H) h;obtain ⟨a,b⟩:=zw5 h2 hd;obtain ⟨c,e⟩:=zf0 h2;have f:(a7 vs).all (E9 0)=true:=by
  rw [List.all_eq_true];intro p hp;obtain ⟨t,_,rfl⟩:=b p hp;rfl
 have g:(a7 vs).filter (E9 0)=a7 vs:=by rw [List.filter_eq_self];exact List.all_eq_true.1 f
 refine ⟨vs,l9 (vs.map (E8 0)),d5 false (a7 vs) H,h1,?_,?_⟩
 . unfold Z5;rw [g,if_pos ⟨a,c,.inr f⟩]
 . generalize res.map IRes.at=tl at h2;cases h2 with
   | nil=>rfl
   | @cons v t u vs ts us hv1 hs=>
     cases hs with
     | nil=>
       show shut (E8 0 v)=some (.c u);have:=hv1.sh;have hn:=hv1.nt;generalize E8 0 v=w at this hn;cases w<;>first | exact absurd rfl (hn _) | simp only [shut,this]
     | cons h' hs'=>
       simp only [List.map_cons] at e ⊢;show shut (.tup _)=some (.tup _);simp only [shut,e];rfl
theorem za3 {t:Nat} {u u':CV} (h:ShI fr (.tmp t) u) (e:u=u'):fin [.tmp t] (.c u') fr H:=by
 subst e;exact sS (by simp) (.cons h .nil)
theorem o7 {t:Nat} {u u':CV} (h:fr.env t=.c u) (e:u=u'):fin [.tmp t] (.c u') fr H:=za3 (.c h) e
theorem U1 {a:Nat} {ek:Option Nat} {u u':CV} (h:fr.env a=.lbox ek (.c u)) (e:u=u'):fin [.cell a ek] (.c u') fr H:=by
 subst e;exact sS (by simp) (.cons (.cell h) .nil)
theorem E3 {f:Nat} {asv:List WV} {r:WV} {b:ICode} {rs:List IRes} (hg:V.fn f=some ⟨b,rs⟩) (h:WP V b (FL (D6 0 asv) []) [] (fin rs r) [] (fin rs r)) (ha:zG (V.ar f) asv.length (V.fn f)=V.fn f:=by exact rfl):Rets V f asv r:=by
 obtain ⟨s,fr1,H1,h1,h2⟩:=h;have key:(s=.nrm\/s=.ret)->fin rs r fr1 H1->Rets V f asv r:=by
  rintro hs ⟨vs,r0,H2,g1,g2,g3⟩;refine ⟨r0,H2,?_,g3⟩;rw [sV,wFn,WEnv.fnA,ha,hg];simp only [nD,h1];rcases hs with rfl | rfl<;>simp only [g1]<;>exact g2
 cases s with
 | nrm=>exact key (.inl rfl) h2
 | ret=>exact key (.inr rfl) h2
 | exit i=>exact absurd h2 (by simp [kG,qL])
 | goto i=>exact absurd h2 (by simp [kG])
end
end Go.Proofs.Lz
