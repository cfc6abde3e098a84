/- The calculus: operations on closed values, on slices of one's own, on local boxes; calls; results. -/
import Derived.Test.YtlimfobeoodkjaaGreatDoorLzVc
set_option linter.unusedSimpArgs false
set_option linter.unusedVariables false
namespace Go.Proofs.Lz
section
variable {V:WEnv} {fr fr':WFr} {H H':q8} {N:D2} {B:Hs} {R:RP} {dst:Option Nat} {d:Nat}
def z44 (K:Pl->Bool) (fz:Bool):List (Nat×WV)->List (Nat×WV)
 | []=>[]
 | (s,v)::r=>(s,hit K fz (Pl.sl s) v)::z44 K fz r
def Z6 (b:Nat):WV->Bool
 | .view p _ _ _ _ _=>!o7 b p
 | .eptr p _ _ _ _=>!o7 b p
 | _=>true
def U5 (b:Nat):WV->Bool
 | .agg cs=>cs.all (Z6 b)
 | v=>Z6 b v
def qZ (b:Nat):WV->Bool
 | .tup vs=>vs.all (U5 b)
 | .lbox _ v=>U5 b v
 | v=>U5 b v
def clean (b:Nat):List (Nat×WV)->Bool
 | []=>true
 | (s,v)::r=>(Nat.beq s b||qZ b v)&&clean b r
theorem slot_ne {b s i k:Nat} (h:s≠b):o7 b (.sl s i k)=false:=by simp [o7,h]
section
variable {K:Pl->Bool} {b:Nat} (hK:∀ p,K p=true->o7 b p=true)
theorem nS (hK:∀ p,K p=true->o7 b p=true) {s i k:Nat} (hs:s≠b) {v:WV} (h:Z6 b v=true):x8 K false (.sl s i k) v=v:=by
 have key:∀ p,o7 b p=false->K p=false:=by
  intro p hp;cases hk:K p with
  | true=>rw [hK p hk] at hp;cases hp
  | false=>rfl
 cases v with
 | own bb e ek xs=>simp only [x8,key _ (slot_ne hs)];rfl
 | view p bb off e ek xs=>
   have:o7 b p=false:=by simpa [Z6] using h
   simp only [x8,key p this];rfl
 | eptr p i off ek x=>
   have:o7 b p=false:=by simpa [Z6] using h
   simp only [x8,key p this];rfl
 | _=>rfl
theorem zs8 (hK:∀ p,K p=true->o7 b p=true) {s i:Nat} (hs:s≠b):∀ (k:Nat) (cs:List WV),cs.all (Z6 b)=true->C6 K false (Pl.sl s i) k cs=cs:=by
 intro k cs;induction cs generalizing k with
 | nil=>intro _;rfl
 | cons v r ih=>
   intro h;simp only [List.all_cons,Bool.and_eq_true] at h;simp only [C6,nS hK hs h.1,ih _ h.2]
theorem uL (hK:∀ p,K p=true->o7 b p=true) {s i:Nat} (hs:s≠b) {v:WV} (h:U5 b v=true):b6 K false (Pl.sl s i) v=v:=by
 have h1:∀ w,U5 b w=Z6 b w->b6 K false (Pl.sl s i) w=x8 K false (Pl.sl s i 0) w->U5 b w=true->b6 K false (Pl.sl s i) w=w:=fun w e1 e2 e3=>by rw [e2];exact nS hK hs (by rw [<-e1];exact e3)
 cases v<;>first | exact h1 _ rfl rfl h | (simp only [b6];rw [zs8 hK hs 0 _ h])
theorem zp9 (hK:∀ p,K p=true->o7 b p=true) {s:Nat} (hs:s≠b):∀ (i:Nat) (vs:List WV),vs.all (U5 b)=true->C3 K false (Pl.sl s) i vs=vs:=by
 intro i vs;induction vs generalizing i with
 | nil=>intro _;rfl
 | cons v r ih=>
   intro h;simp only [List.all_cons,Bool.and_eq_true] at h;simp only [C3,uL hK hs h.1,ih _ h.2]
theorem eF (hK:∀ p,K p=true->o7 b p=true) {s:Nat} (hs:s≠b) {v:WV} (h:qZ b v=true):hit K false (Pl.sl s) v=v:=by
 have h1:∀ w,qZ b w=U5 b w->hit K false (Pl.sl s) w=b6 K false (Pl.sl s 0) w->qZ b w=true->hit K false (Pl.sl s) w=w:=fun w e1 e2 e3=>by rw [e2];exact uL hK hs (by rw [<-e1];exact e3)
 cases v<;>first | exact h1 _ rfl rfl h | (simp only [hit,zp9 hK hs 0 _ h];done) | (simp only [hit];rw [uL hK hs h])
theorem z05 {s:Nat} (hs:s≠b):∀ {l:List (Nat×WV)},clean b l=true->qZ b (frl l s)=true:=by
 intro l;induction l with
 | nil=>intro _;rfl
 | cons p r ih=>
   obtain ⟨t,v⟩:=p;intro h;simp only [clean,Bool.and_eq_true,Bool.or_eq_true] at h;show qZ b (bif Nat.beq s t then v else frl r s)=true;rw [wN];by_cases hst:s=t
   . rw [if_pos hst];rcases h.1 with h1 | h1
     . exact absurd (hst.trans (Nat.eq_of_beq_eq_true h1)) hs
     . exact h1
   . rw [if_neg hst];exact ih h.2
theorem cX (hK:∀ p,K p=true->o7 b p=true) {l:List (Nat×WV)} {a:List (Nat×Option (Nat×Nat))} (h:clean b l=true) (v:WV):upd (b8 K false (FL l a)).env b v=frl ((b,v)::l):=by
 rw [<-yX];funext s;show (if s=b then v else hit K false (Pl.sl s) (frl l s))=if s=b then v else frl l s
 by_cases hs:s=b
 . rw [if_pos hs,if_pos hs]
 . rw [if_neg hs,if_neg hs,eF hK hs (z05 hs h)]
end
theorem zd8 {d s:Nat} {v:WV} (h:u4 v=[]):wE d s v fr H=some (fr.put (some d) v,H):=by
 unfold wE;rw [h]
theorem aD {x:Opd} {v:WV} (hp:fr.place x=none) (hx:fr.rd x=v) (hv:okW v=true) (hs:u4 v=[]) (hq:Put fr dst v fr') (h:N fr' H):OpP V (.mv x) dst fr H N:=by
 refine ⟨fr',H,?_,h⟩;show j4 (.mv x) dst fr H=_;simp only [j4,hp,hx,if_pos hv];cases dst with
 | none=>simp only [hq.eq]
 | some d=>
   cases x with
   | k c=>simp only [hq.eq]
   | t s=>
     simp only;split
     . rw [zd8 hs,hq.eq]
     . rw [hq.eq]
theorem x4 {x:Opd} {u:CV} (hp:fr.place x=none) (hx:fr.rd x=.c u) (hq:Put fr dst (.c u) fr') (h:N fr' H):OpP V (.mv x) dst fr H N:=aD hp hx rfl rfl hq h
theorem S0 {x:Opd} {vs:List WV} (hp:fr.place x=none) (hx:fr.rd x=.tup vs) (hs:A5 vs=[]) (hq:Put fr dst (.tup vs) fr') (h:N fr' H):OpP V (.mv x) dst fr H N:=aD hp hx rfl hs hq h
theorem G8 {op:UnOp} {x:Opd} {a v:CV} (hx:fr.rd x=.c a) (hv:unC op a=some v) (hq:Put fr dst (.c v) fr') (h:N fr' H):OpP V (.un op x) dst fr H N:=
 ⟨fr',H,by show j4 (.un op x) dst fr H=_;simp only [j4,hx,hv,Option.map,J4,hq.eq],h⟩
theorem u3 {op:BinOp} {x y:Opd} {a b v:CV} (hx:fr.rd x=.c a) (hy:fr.rd y=.c b) (hv:K5 op a b=some v) (hq:Put fr dst (.c v) fr') (h:N fr' H):OpP V (.bin op x y) dst fr H N:=
 ⟨fr',H,by show j4 (.bin op x y) dst fr H=_;simp only [j4,hx,hy,hv,Option.map,J4,hq.eq],h⟩
theorem wrap64 {x:Int} (h:-9223372036854775808<=x/\x<9223372036854775808):IntKind.i64.wrap x=x:=by
 simp [IntKind.wrap,IntKind.bits,IntKind.signed,IntKind.max,IntKind.min];omega
theorem zD {x y:Opd} {a b:Int} (hx:fr.rd x=.c (.int .i64 a)) (hy:fr.rd y=.c (.int .i64 b)) (hb:-9223372036854775808<=a+b/\a+b<9223372036854775808) (hq:Put fr dst (.c (.int .i64 (a+b))) fr') (h:N fr' H):OpP V (.bin .add x y) dst fr H N:=
 u3 hx hy (by simp only [K5,if_true,wrap64 hb]) hq h
theorem lG {x y:Opd} {a b:List UInt8} (hx:fr.rd x=.c (.str a)) (hy:fr.rd y=.c (.str b)) (hb:a.length+b.length<=9223372036854775807) (hq:Put fr dst (.c (.str (a++b))) fr') (h:N fr' H):OpP V (.bin .add x y) dst fr H N:=
 u3 hx hy (by simp only [K5,if_pos hb]) hq h
theorem fN {neg:Bool} {x y:Opd} {a b:Bool} (hx:fr.rd x=.c (.bool a)) (hy:fr.rd y=.c (.bool b)) (hq:Put fr dst (.c (.bool (if neg then !(a==b) else a==b))) fr') (h:N fr' H):OpP V (.eqb neg x y) dst fr H N:=
 ⟨fr',H,by show j4 (.eqb neg x y) dst fr H=_;simp only [j4,hx,hy,hq.eq],h⟩
theorem za6 {c a b:Opd} {v:WV} (hc:fr.rd c=.c (.bool true)) (ha:fr.rd a=v) (hv:okW v=true) (hq:Put fr dst v fr') (h:N fr' H):OpP V (.pick c a b) dst fr H N:=
 ⟨fr',H,by show j4 (.pick c a b) dst fr H=_;simp only [j4,hc,if_true,ha,if_pos hv,hq.eq],h⟩
theorem z87 {c a b:Opd} {v:WV} (hc:fr.rd c=.c (.bool false)) (ha:fr.rd b=v) (hv:okW v=true) (hq:Put fr dst v fr') (h:N fr' H):OpP V (.pick c a b) dst fr H N:=
 ⟨fr',H,by show j4 (.pick c a b) dst fr H=_;simp only [j4,hc,Bool.false_eq_true,if_false,ha,if_pos hv,hq.eq],h⟩
theorem s9 {c a b:Opd} {v:CV} {t:Bool} (hc:fr.rd c=.c (.bool t)) (ht:t=true) (ha:fr.rd a=.c v) (hq:Put fr dst (.c v) fr') (h:N fr' H):OpP V (.pick c a b) dst fr H N:=za6 (ht▸hc) ha rfl hq h
theorem l4 {c a b:Opd} {v:CV} {t:Bool} (hc:fr.rd c=.c (.bool t)) (ht:t=false) (ha:fr.rd b=.c v) (hq:Put fr dst (.c v) fr') (h:N fr' H):OpP V (.pick c a b) dst fr H N:=z87 (ht▸hc) ha rfl hq h
theorem z15 {st:Bool} {x:Opd} {v:WV} {n:Nat} (hx:fr.rd x=v) (hn:pI st v=some n) (hq:Put fr dst (.c (.int .i64 n)) fr') (h:N fr' H):OpP V (.len st x) dst fr H N:=
 ⟨fr',H,by show j4 (.len st x) dst fr H=_;simp only [j4,hx,hn,hq.eq],h⟩
theorem B5 {x:Opd} {s:List UInt8} (hx:fr.rd x=.c (.str s)) (hq:Put fr dst (.c (.int .i64 s.length)) fr') (h:N fr' H):OpP V (.len true x) dst fr H N:=z15 hx rfl hq h
theorem L1 {x i:Opd} {s:List UInt8} {k:IntKind} {n:Int} {m:Nat} {b:UInt8} (hx:fr.rd x=.c (.str s)) (hi:fr.rd i=.c (.int k n)) (hn:n=(m:Nat)) (hb:s[m]?=some b) (hq:Put fr dst (.c (.int .u8 b.toNat)) fr') (h:N fr' H):OpP V (.six x i) dst fr H N:=
 ⟨fr',H,by show j4 (.six x i) dst fr H=_;subst hn;simp only [j4,hx,hi,U4,if_pos (Int.natCast_nonneg m),Int.toNat_natCast,hb,hq.eq],h⟩
structure Lnk (fr:WFr) (dst:Option Nat) (b off:Nat) (fr':WFr):Prop where
 eq:fr.link dst b off=fr'
 ne:dst≠some b
theorem sD {zero:List HV} {parts:List (Nat×Nat×Opd)} {cs:List WV} {u:CV} (hz:zero.all isC=true) (hf:qS (zero.map Q7) (parts.map fun p=>(p.1,p.2.1,fr.rd p.2.2))=some cs) (hm:O7 cs=.c u) (hq:Put fr dst (.c u) fr') (h:N fr' H):OpP V (.build zero parts) dst fr H N:=
 ⟨fr',H,by show j4 (.build zero parts) dst fr H=_;simp only [j4,if_pos hz,hf,hm,hq.eq],h⟩
def inOrder:Nat->List (Nat×Opd)->Bool
 | _,[]=>true
 | k,p::r=>Nat.beq p.1 k&&inOrder (k+1) r
theorem mE {x:Opd} {lo hi:Option Opd} {s:List UInt8} {l h:Option Int} (hl:Q9 fr lo=some l) (hh:Q9 fr hi=some h) (hx:fr.rd x=.c (.str s)) (h0:0<=l.getD 0/\l.getD 0<=h.getD s.length/\h.getD s.length<=s.length)
 (hq:Put fr dst (.c (.str ((s.drop (l.getD 0).toNat).take ((h.getD s.length).toNat - (l.getD 0).toNat)))) fr') (hN:N fr' H):OpP V (.slc true none x lo hi) dst fr H N:=
 ⟨fr',H,by show j4 (.slc true none x lo hi) dst fr H=_;simp only [j4,hl,hh,hx,W4,true_and,if_pos h0,J4,hq.eq],hN⟩
theorem oJ {x lo:Opd} {s:List UInt8} {k:IntKind} {n:Int} {m:Nat} (hx:fr.rd x=.c (.str s)) (hl:fr.rd lo=.c (.int k n)) (hn:n=(m:Nat)) (hm:m<=s.length) (hq:Put fr dst (.c (.str (s.drop m))) fr') (hN:N fr' H):OpP V (.slc true none x (some lo) none) dst fr H N:=by
 subst hn;refine mE (l:=some (m:Int)) (h:=none) (by simp only [Q9,hl,U4]) rfl hx (by simp only [Option.getD];omega) ?_ hN;have:(s.drop m).take (s.length - m)=s.drop m:=by rw [List.take_of_length_le];simp
 simpa [this] using hq
theorem zw5 {x lo:Opd} {s:List UInt8} {k:IntKind} {m:Nat} (hx:fr.rd x=.c (.str s)) (hl:fr.rd lo=.c (.int k ((m:Int)+1))) (hm:m+1<=s.length) (hq:Put fr dst (.c (.str (s.drop (m+1)))) fr') (hN:N fr' H):OpP V (.slc true none x (some lo) none) dst fr H N:=
 oJ (m:=m+1) hx hl (by simp) hm hq hN
theorem oU {x hi:Opd} {s:List UInt8} {k:IntKind} {n:Int} {m:Nat} (hx:fr.rd x=.c (.str s)) (hl:fr.rd hi=.c (.int k n)) (hn:n=(m:Nat)) (hm:m<=s.length) (hq:Put fr dst (.c (.str (s.take m))) fr') (hN:N fr' H):OpP V (.slc true none x none (some hi)) dst fr H N:=by
 subst hn;refine mE (l:=none) (h:=some (m:Int)) rfl (by simp only [Q9,hl,U4]) hx (by simp only [Option.getD];omega) ?_ hN;simpa using hq
structure Boxed (fr:WFr) (d:Nat) (ek:Option Nat) (v:WV) (fr':WFr):Prop where
 eq:({ env:=upd (b8 (o7 d) false fr).env d (.lbox ek v),al:=unlink d fr.al }:WFr)=fr'
def bU (d:Nat):List (Nat×Option (Nat×Nat))->List (Nat×Option (Nat×Nat))
 | []=>[]
 | (t,none)::r=>(t,none)::bU d r
 | (t,some (b,off))::r=>(t,bif Nat.beq b d then none else some (b,off))::bU d r
theorem jA {l:List (Nat×WV)} {ek:Option Nat} {v:WV} (hc:clean d l=true):Boxed (FL l []) d ek v (FL ((d,.lbox ek v)::l) []):=⟨by
 have e:unlink d (FL l []).al=lookA []:=by funext t;show (if t=d then none else none)=none;split<;>rfl
 rw [cX (fun _ h=>h) hc,e];rfl⟩
theorem uI {u:CV}:Lz.take (.c u) fr H=some (.c u,fr,H):=by
 simp [Lz.take,u4,l6,A7,K1,s4,j6,B6]
theorem qA {ek:Option Nat} {x:Opd} {u:CV} (hx:fr.rd x=.c u) (hf:fitsW ek (.c u)=true) (hb:Boxed fr d ek (.c u) fr') (h:N fr' H):OpP V (.lbox ek x) (some d) fr H N:=
 ⟨fr',H,by show j4 (.lbox ek x) (some d) fr H=_;simp only [j4,hx,if_pos hf,uI,hb.eq],h⟩
structure Stored (fr:WFr) (b off n:Nat) (v:WV) (fr':WFr):Prop where
 eq:({ env:=upd (b8 (jF b off n) false fr).env b v,al:=fr.al }:WFr)=fr'
structure Stored0 (fr:WFr) (b:Nat) (v:WV) (fr':WFr):Prop where
 eq:({ env:=upd (b8 (o7 b) false fr).env b v,al:=fr.al }:WFr)=fr'
theorem zL {l:List (Nat×WV)} {a:List (Nat×Option (Nat×Nat))} {b:Nat} {v:WV} (hc:clean b l=true):Stored0 (FL l a) b v (FL ((b,v)::l) a):=⟨by
 rw [cX (fun _ h=>h) hc];rfl⟩
theorem zU {ek:Option Nat} {a x:Opd} {b:Nat} {u:CV} {x0:WV} (hp:fr.place a=some (b,0)) (hx:fr.rd x=.c u) (hf:fitsW ek (.c u)=true) (hb:fr.env b=.lbox ek x0) (hs:Stored0 fr b (.lbox ek (.c u)) fr') (h:N fr' H):OpP V (.store ek a x) dst fr H N:=
 ⟨fr',H,by show j4 (.store ek a x) dst fr H=_;simp only [j4,hp,hx,if_pos hf,uI,hb,and_self,if_true,hs.eq],h⟩
theorem S5 {s i:Nat} {vs:List WV} {u:CV} (hs:fr.env s=.tup vs) (hv:vs[i]?=some (.c u)) (hq:Put fr dst (.c u) fr') (h:N fr' H):OpP V (.ext (.t s) i) dst fr H N:=
 ⟨fr',H,by show j4 (.ext (.t s) i) dst fr H=_;simp only [j4,hs,hv,i7,A0,uI,hq.eq],h⟩
structure Rets (V:WEnv) (f:Nat) (asv:List WV) (r:WV):Prop where
 run:∃ r0 H',wv V f asv []=some (r0,H')/\shut r0=some r
theorem q09 {f:Nat} {args asv:List WV} {r:WV} (hm:V.md f=.P) (ha:i8 H args=some asv) (hc:Rets V f asv r) (hi:(args.all L0||noRefW r)=true) (hq:Put fr dst r fr'):F5 V (wv V) f args dst fr H=some (fr',H):=by
 obtain ⟨r0,H1,h1,h2⟩:=hc;simp only [F5,hm,ha,h1,h2,if_pos hi,hq.eq]
theorem w8 {f:Nat} {args:List Opd} {asv:List WV} {r:WV} (hm:V.md f=.P) (ha:i8 H (args.map fr.rd)=some asv) (hc:Rets V f asv r) (hi:((args.map fr.rd).all L0||noRefW r)=true) (hq:Put fr dst r fr') (h:N fr' H):OpP V (.call f args) dst fr H N:=
 ⟨fr',H,by show F5 V (wv V) f (args.map fr.rd) dst fr H=_;exact q09 hm ha hc hi hq,h⟩
theorem oZ (h:N fr H):VD V [] fr H N:=⟨_,_,rfl,h⟩
theorem zm2 {o:IOp} {c:Cls} {r:List (Cls×IOper)} (h0:S9 fr dst=true) (h:OpD V c o dst fr H (fun fr' H'=>Dand (S9 fr' dst=true) (VD V r fr' H' N))):VD V ((c,⟨dst,none,o⟩)::r) fr H N:=by
 obtain ⟨fr1,H1,h1,h2,fr2,H2,h3,h4⟩:=h;refine ⟨fr2,H2,?_,h4⟩;show (match H4 V (wv V) c ⟨dst,none,o⟩ fr H with
  | some (fr',H')=>D8 V (wv V) r fr' H'
  | none=>none)=_
 have:G3 V (wv V) c ⟨dst,none,o⟩ fr H=wD V (wv V) c o dst fr H:=rfl;simp only [H4,if_pos h0,this,h1,if_pos (show c=.lb\/S9 fr1 dst=true from .inr h2)];exact h3
theorem z80 {o:IOp} (hp:C9 o=true) (h:OpP V o dst fr H N):OpD V .pure o dst fr H N:=by
 obtain ⟨fr1,H1,h1,h2⟩:=h;refine ⟨fr1,H1,?_,h2⟩;cases o<;>first | (simp only [C9,Bool.false_eq_true] at hp;done) | (simp only [wD,hp,if_true];exact h1)
theorem z22 {st:Bool} {ek:Option Nat} {x:Opd} {lo hi:Option Opd} (h:OpP V (.slc st ek x lo hi) dst fr H N):OpD V .rd (.slc st ek x lo hi) dst fr H N:=⟨h.run⟩
theorem zv6 {f:Nat} {args:List Opd} {asv:List WV} {r:WV} (hm:V.md f=.P) (ha:i8 H (args.map fr.rd)=some asv) (hc:Rets V f asv r) (hi:(noRefW r||(args.map fr.rd).all L0)=true) (hq:Put fr dst r fr') (h:N fr' H):OpD V .rd (.call f args) dst fr H N:=
 ⟨fr',H,by
  obtain ⟨r0,H2,h1,h2⟩:=hc;have hi':noRefW r=true\/(args.map fr.rd).all L0=true:=by simpa using hi
  simp only [wD,hm,ha,h1,h2,if_pos hi',hq.eq],h⟩
def KpL (D:List Nat) (fr:WFr):List Nat->List (Nat×WV)->Prop
 | [],[]=>True
 | s::ss,(t,v)::l=>s=t/\hit (qW D) false (Pl.sl s) (fr.env s)=v/\KpL D fr ss l
 | _,_=>False
theorem y6 {D:List Nat}:KpL D fr [] []:=trivial
theorem I5 {D:List Nat} {s:Nat} {ss:List Nat} {v:WV} {l:List (Nat×WV)} (hv:hit (qW D) false (Pl.sl s) (fr.env s)=v) (h:KpL D fr ss l):KpL D fr (s::ss) ((s,v)::l):=⟨rfl,hv,h⟩
theorem eQ {D:List Nat}:∀ {ss:List Nat} {l:List (Nat×WV)},KpL D fr ss l->(ss.map fun s=>(s,hit (qW D) false (Pl.sl s) (fr.env s)))=l:=by
 intro ss;induction ss with
 | nil=>intro l h;cases l with
   | nil=>rfl
   | cons p l=>cases h
 | cons s ss ih=>intro l h;cases l with
   | nil=>cases h
   | cons p l=>
     obtain ⟨t,v⟩:=p;obtain ⟨rfl,rfl,h⟩:=h;simp only [List.map_cons,ih h]
theorem kT {D:List Nat} {l:List (Nat×WV)} (h:KpL D fr D l):f7 D fr=FL l []:=by
 unfold f7;rw [eQ h,rA]
theorem b9 {L:List Nat} {K:List (Nat×WV)} (h:KpL L fr L K) (hN:N (FL K []) H):WP V (.keep L) fr H N B R:=⟨.nrm,FL K [],H,by show some (Ex.nrm,f7 L fr,H)=_;rw [kT h],hN⟩
theorem s6 {D ss:List Nat} {s:Nat} {u:CV} {l:List (Nat×WV)} (h:fr.env s=.c u) (hr:KpL D fr ss l):KpL D fr (s::ss) ((s,.c u)::l):=I5 (by rw [h];rfl) hr
theorem tO {D ss:List Nat} {s:Nat} {ek:Option Nat} {u:CV} {l:List (Nat×WV)} (h:fr.env s=.lbox ek (.c u)) (hr:KpL D fr ss l):KpL D fr (s::ss) ((s,.lbox ek (.c u))::l):=I5 (by rw [h];rfl) hr
theorem zJ {σ:Type} {live:List Nat} {body:ICode} (K:σ->List (Nat×WV)) (P:σ->Prop) (μ:σ->Nat) (s0:σ) (h0:KpL live fr live (K s0)) (hP:P s0)
 (hb:∀ s,P s->WP V body (FL (K s) []) H (fun fr' H'=>∃ s',KpL live fr' live (K s')/\H'=H/\P s'/\μ s'<μ s) B R):WP V (.loop live body) fr H N B R:=by
 have key:∀ n s fr,μ s<n->KpL live fr live (K s)->P s->WP V (.loop live body) fr H N B R:=by
  intro n;induction n with
  | zero=>intro s fr h;omega
  | succ n ih=>
    intro s fr hn hk hp;obtain ⟨x,fr1,H1,g1,g2⟩:=hb s hp;have e:wC V (wv V) witW (.loop live body) fr H=match wC V (wv V) witW body (FL (K s) []) H with
     | some (.nrm,fr',H')=>wC V (wv V) witW (.loop live body) fr' H'
     | r=>r:=by
     rw [zx5,dE,kT hk];rfl
    cases x with
    | nrm=>
      obtain ⟨s',k1,rfl,k2,k3⟩:=g2;obtain ⟨y,fr2,H2,m1,m2⟩:=ih s' fr1 (by omega) k1 k2;exact ⟨y,fr2,H2,by rw [e,g1];exact m1,m2⟩
    | exit i=>exact ⟨.exit i,fr1,H1,by rw [e,g1],g2⟩
    | goto i=>exact ⟨.goto i,fr1,H1,by rw [e,g1],g2⟩
    | ret=>exact ⟨.ret,fr1,H1,by rw [e,g1],g2⟩
 exact key (μ s0+1) s0 fr (by omega) h0 hP
inductive ShI (fr:WFr):IRes->CV->Prop
 | c {t:Nat} {u:CV} (h:fr.env t=.c u):ShI fr (.tmp t) u
 | own {t:Nat} {b:Bool} {e:Nat} {ek:Option Nat} {xs:List CV} (h:fr.env t=.own b e ek xs):ShI fr (.tmp t) (.frz ek xs)
 | nils {t:Nat} (h:fr.env t=.nils):ShI fr (.tmp t) (.frz none [])
 | cell {a:Nat} {ek:Option Nat} {u:CV} (h:fr.env a=.lbox ek (.c u)):ShI fr (.cell a ek) u
def IRes.at:IRes->Nat
 | .tmp t=>t
 | .cell a _=>a
inductive ShL (fr:WFr):List IRes->List CV->Prop
 | nil:ShL fr [] []
 | cons {r:IRes} {u:CV} {rs:List IRes} {us:List CV} (h:ShI fr r u) (hs:ShL fr rs us):ShL fr (r::rs) (u::us)
def z03:List CV->WV
 | [u]=>.c u
 | us=>.tup (us.map .c)
def fin (res:List IRes) (r:WV):D2:=fun fr H=>∃ vs r0 H',D6 fr H res=some vs/\X8 0 vs H=some (r0,H')/\shut r0=some r
structure Lv (v:WV) (t:Nat) (u:CV):Prop where
 src:l6 v=[]\/l6 v=[.sl t 0 0]
 ok:A3 v=true
 sh:O3 (F8 0 v)=some u
 nt:∀ vs,F8 0 v≠.tup vs
inductive LvL:List WV->List Nat->List CV->Prop
 | nil:LvL [] [] []
 | cons {v:WV} {t:Nat} {u:CV} {vs:List WV} {ts:List Nat} {us:List CV} (h:Lv v t u) (hs:LvL vs ts us):LvL (v::vs) (t::ts) (u::us)
theorem z71 {r:IRes} {u:CV} (h:ShI fr r u):∃ v,D6 fr H [r]=some [v]/\Lv v r.at u:=by
 cases h with
 | c h=>exact ⟨_,rfl,by rw [h];exact ⟨.inl rfl,rfl,rfl,by intro vs h;cases h⟩⟩
 | own h=>exact ⟨_,rfl,by rw [h];exact ⟨.inr rfl,rfl,rfl,by intro vs h;cases h⟩⟩
 | nils h=>exact ⟨_,rfl,by rw [h];exact ⟨.inl rfl,rfl,rfl,by intro vs h;cases h⟩⟩
 | @cell a ek u h=>exact ⟨.c u,by simp only [D6,h,if_true];rfl,⟨.inl rfl,rfl,rfl,by intro vs h;cases h⟩⟩
theorem zr3 {r:IRes} {rs:List IRes} {v:WV} {vs:List WV} (h1:D6 fr H [r]=some [v]) (h2:D6 fr H rs=some vs):D6 fr H (r::rs)=some (v::vs):=by
 cases r with
 | tmp t=>
   simp only [D6] at h1 ⊢;rw [h2];injection h1 with h1;injection h1 with h1;rw [h1]
 | cell a ek=>
   simp only [D6] at h1 ⊢;rw [h2];split at h1
   . rename_i w l hw hl;injection hl with hl;subst hl;injection h1 with h1;injection h1 with h1 _;subst h1;rw [hw]
   . cases h1
theorem z09:∀ {rs:List IRes} {us:List CV},ShL fr rs us->∃ vs,D6 fr H rs=some vs/\LvL vs (rs.map IRes.at) us:=by
 intro rs us h;induction h with
 | nil=>exact ⟨[],rfl,.nil⟩
 | cons h _ ih=>
   obtain ⟨v,h1,h2⟩:=z71 (H:=H) h;obtain ⟨vs,h3,h4⟩:=ih;exact ⟨v::vs,zr3 h1 h3,.cons h2 h4⟩
theorem q01:∀ {vs:List WV} {ts:List Nat} {us:List CV},LvL vs ts us->ts.Nodup->(f9 vs).Nodup/\(∀ p∈f9 vs,∃ t∈ts,p=.sl t 0 0):=by
 intro vs ts us h;induction h with
 | nil=>intro _;exact ⟨List.nodup_nil,by intro p hp;cases hp⟩
 | @cons v t u vs ts us h _ ih=>
   intro hd;rw [List.nodup_cons] at hd;obtain ⟨a,b⟩:=ih hd.2;simp only [f9];rcases h.src with e | e
   . rw [e,List.nil_append];exact ⟨a,fun p hp=>by obtain ⟨t',h1,h2⟩:=b p hp;exact ⟨t',by simp [h1],h2⟩⟩
   . rw [e];refine ⟨?_,?_⟩
     . simp only [List.cons_append,List.nil_append,List.nodup_cons];refine ⟨?_,a⟩;intro hp;obtain ⟨t',h1,h2⟩:=b _ hp;injection h2 with h2 _ _;subst h2;exact hd.1 h1
     . intro p hp;simp only [List.cons_append,List.nil_append,List.mem_cons] at hp;rcases hp with rfl | hp
       . exact ⟨t,by simp,rfl⟩
       . obtain ⟨t',h1,h2⟩:=b p hp;exact ⟨t',by simp [h1],h2⟩
theorem zh8:∀ {vs:List WV} {ts:List Nat} {us:List CV},LvL vs ts us->vs.all A3=true/\O8 (vs.map (F8 0))=some (us.map .c):=by
 intro vs ts us h;induction h with
 | nil=>exact ⟨rfl,rfl⟩
 | cons h _ ih=>exact ⟨by simp only [List.all_cons,h.ok,ih.1,Bool.and_self],by simp only [List.map_cons,O8,h.sh,ih.2]⟩
theorem pL {res:List IRes} {us:List CV} (hd:(res.map IRes.at).Nodup) (h:ShL fr res us):fin res (z03 us) fr H:=by
 obtain ⟨vs,h1,h2⟩:=z09 (H:=H) h;obtain ⟨a,b⟩:=q01 h2 hd;obtain ⟨c,e⟩:=zh8 h2;have f:(f9 vs).all (F7 0)=true:=by
  rw [List.all_eq_true];intro p hp;obtain ⟨t,_,rfl⟩:=b p hp;rfl
 have g:(f9 vs).filter (F7 0)=f9 vs:=by rw [List.filter_eq_self];exact List.all_eq_true.1 f
 refine ⟨vs,f4 (vs.map (F8 0)),c6 false (f9 vs) H,h1,?_,?_⟩
 . unfold X8;rw [g,if_pos ⟨a,c,.inr f⟩]
 . generalize res.map IRes.at=tl at h2;cases h2 with
   | nil=>rfl
   | @cons v t u vs ts us hv1 hs=>
     cases hs with
     | nil=>
       show shut (F8 0 v)=some (.c u);have:=hv1.sh;have hn:=hv1.nt;generalize F8 0 v=w at this hn;cases w<;>first | exact absurd rfl (hn _) | simp only [shut,this]
     | cons h' hs'=>
       simp only [List.map_cons] at e ⊢;show shut (.tup _)=some (.tup _);simp only [shut,e];rfl
theorem zr6 {t:Nat} {u u':CV} (h:ShI fr (.tmp t) u) (e:u=u'):fin [.tmp t] (.c u') fr H:=by
 subst e;exact pL (by simp) (.cons h .nil)
theorem y8 {t:Nat} {u u':CV} (h:fr.env t=.c u) (e:u=u'):fin [.tmp t] (.c u') fr H:=zr6 (.c h) e
theorem d4 {f:Nat} {asv:List WV} {r:WV} {b:ICode} {rs:List IRes} (hg:V.fn f=some ⟨b,rs⟩) (h:WP V b (FL (D9 0 asv) []) [] (fin rs r) [] (fin rs r)) (ha:Z2 (V.ar f) asv.length (V.fn f)=V.fn f:=by exact rfl):Rets V f asv r:=by
 obtain ⟨s,fr1,H1,h1,h2⟩:=h;have key:(s=.nrm\/s=.ret)->fin rs r fr1 H1->Rets V f asv r:=by
  rintro hs ⟨vs,r0,H2,g1,g2,g3⟩;refine ⟨r0,H2,?_,g3⟩;rw [uS,wFn,WEnv.fnA,ha,hg];simp only [rA,h1];rcases hs with rfl | rfl<;>simp only [g1]<;>exact g2
 cases s with
 | nrm=>exact key (.inl rfl) h2
 | ret=>exact key (.inr rfl) h2
 | exit i=>exact absurd h2 (by simp [vK,zR])
 | goto i=>exact absurd h2 (by simp [vK])
end
end Go.Proofs.Lz
