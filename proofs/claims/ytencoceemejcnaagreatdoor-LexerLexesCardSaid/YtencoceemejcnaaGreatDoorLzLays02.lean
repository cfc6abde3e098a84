/- The library functions that the chapter reaches, laid at this program: each body is compared by the kernel. -/
import Derived.Test.YtencoceemejcnaaGreatDoorLzVc2
import Derived.Shelf.Small.Strs
import Derived.Shelf.Strconv.AtoiAll
import Derived.Shelf.Strconv.Itoa3
import Derived.Shelf.Strings.Builder1
import Derived.Shelf.Strings.LastIndex
import Derived.Shelf.Strings.Prefix
import Derived.Shelf.Strings.Repeat
import Derived.Shelf.Strings.Shaped
import Derived.Shelf.Strings.Trim
import Derived.Test.YtencoceemejcnaaGreatDoorProg
set_option linter.unusedSimpArgs false
set_option linter.unusedVariables false
namespace Go.Proofs.Lz
section
variable {V:WEnv} {fr fr':WFr} {H H':q9} {N:f4} {B:Hs} {R:RP} {dst:Option Nat} {d:Nat}
def vH:WV->Bool
 | .view p _ _ _ _ _=>!H4 p
 | .eptr p _ _ _ _=>!H4 p
 | _=>true
def wJ:WV->Bool
 | .agg cs=>cs.all vH
 | v=>vH v
def cC:WV->Bool
 | .tup vs=>vs.all wJ
 | .lbox _ v=>wJ v
 | v=>wJ v
def bF:List (Nat×WV)->Bool
 | []=>true
 | (_,v)::r=>cC v&&bF r
theorem zg7 {s i k:Nat} {v:WV} (h:vH v=true):l8 H4 false (.sl s i k) v=v:=by
 cases v with
 | own bb e ek xs=>rfl
 | view p bb off e ek xs=>
   have:H4 p=false:=by simpa [vH] using h
   simp only [l8,this];rfl
 | eptr p i off ek x=>
   have:H4 p=false:=by simpa [vH] using h
   simp only [l8,this];rfl
 | _=>rfl
theorem qd7 {s i:Nat}:∀ (k:Nat) (cs:List WV),cs.all vH=true->K1 H4 false (Pl.sl s i) k cs=cs:=by
 intro k cs;induction cs generalizing k with
 | nil=>intro _;rfl
 | cons v r ih=>
   intro h;simp only [List.all_cons,Bool.and_eq_true] at h;simp only [K1,zg7 h.1,ih _ h.2]
theorem cR {s i:Nat} {v:WV} (h:wJ v=true):A8 H4 false (Pl.sl s i) v=v:=by
 have h1:∀ w,wJ w=vH w->A8 H4 false (Pl.sl s i) w=l8 H4 false (Pl.sl s i 0) w->wJ w=true->A8 H4 false (Pl.sl s i) w=w:=fun w e1 e2 e3=>by rw [e2];exact zg7 (by rw [<-e1];exact e3)
 cases v<;>first | exact h1 _ rfl rfl h | (simp only [A8];rw [qd7 0 _ h])
theorem qs0 {s:Nat}:∀ (i:Nat) (vs:List WV),vs.all wJ=true->K6 H4 false (Pl.sl s) i vs=vs:=by
 intro i vs;induction vs generalizing i with
 | nil=>intro _;rfl
 | cons v r ih=>
   intro h;simp only [List.all_cons,Bool.and_eq_true] at h;simp only [K6,cR h.1,ih _ h.2]
theorem j08 {s:Nat} {v:WV} (h:cC v=true):hit H4 false (Pl.sl s) v=v:=by
 have h1:∀ w,cC w=wJ w->hit H4 false (Pl.sl s) w=A8 H4 false (Pl.sl s 0) w->cC w=true->hit H4 false (Pl.sl s) w=w:=fun w e1 e2 e3=>by rw [e2];exact cR (by rw [<-e1];exact e3)
 cases v<;>first | exact h1 _ rfl rfl h | (simp only [hit,qs0 0 _ h];done) | (simp only [hit];rw [cR h])
theorem q79:∀ {l:List (Nat×WV)},bF l=true->X8 H4 false l=l:=by
 intro l;induction l with
 | nil=>intro _;rfl
 | cons p r ih=>
   obtain ⟨t,v⟩:=p;intro h;simp only [bF,Bool.and_eq_true] at h;simp only [X8,j08 h.1,ih h.2]
theorem vM {ek k:Option Nat} {a:Opd} {id off:Nat} {cs:List WV} {v:WV} (hp:fr.place a=none) (ha:fr.rd a=.ptr id off) (hH:H[id]?=some (.var k cs)) (hv:X6 ek (qN (Pl.hp id) 0 cs) off=some v) (hq:Put fr dst v fr') (h:N fr' H):OpP V (.load ek a) dst fr H N:=
 ⟨fr',H,by show y8 (.load ek a) dst fr H=_;simp only [y8,hp,ha,Q8,hH,hv,M5,hq.eq],h⟩
theorem t8 {ek k:Option Nat} {a:Opd} {id off:Nat} {cs:List WV} {v:CV} (hp:fr.place a=none) (ha:fr.rd a=.ptr id off) (hH:H[id]?=some (.var k cs)) (hv:X6 ek (qN (Pl.hp id) 0 cs) off=some (.c v)) (hq:Put fr dst (.c v) fr') (h:N fr' H):OpP V (.load ek a) dst fr H N:=vM hp ha hH hv hq h
theorem qr6 (u:CV):(WV.c u).flat.any D3=false:=by
 cases u<;>simp [WV.flat,D3]
theorem Q6 {ek k:Option Nat} {a x:Opd} {id off:Nat} {cs cs':List WV} {u:CV} (hp:fr.place a=none) (ha:fr.rd a=.ptr id off) (hx:fr.rd x=.c u) (hf:fitsW ek (.c u)=true) (hH:H[id]?=some (.var k cs)) (hb:(decide (off+(WV.c u).flat.length<=cs.length))=true) (hc:R2 cs off (WV.c u).flat=cs')
 (h:∀ H',H'[id]?=some (.var k cs')->(∀ (i:Nat) (o:WO),i≠id->H[i]?=some o->H'[i]?=some o)->N fr H'):OpP V (.store ek a x) none fr H N:=by
 refine ⟨fr,H.set id (.var k cs'),?_,h _ (q76 hH _) (fun i o hi ho=>by rw [List.getElem?_set_ne (Ne.symm hi)];exact ho)⟩;show y8 (.store ek a x) none fr H=_;simp only [y8,hp,ha,hx,vX,if_pos hf,uL,hH,if_pos (of_decide_eq_true hb),qr6,Bool.false_eq_true,if_false,hc]
theorem vE {ek:Option Nat} {x:Opd} {u:CV} (hx:fr.rd x=.c u) (hf:fitsW (ekB ek) (.c u)=true) (hq:Put fr dst (.ptr H.length 0) fr') (h:N fr' (H++[.var ek (WV.c u).flat])):OpP V (.hbox ek x) dst fr H N:=
 ⟨fr',_,by show y8 (.hbox ek x) dst fr H=_;simp only [y8,hx,if_pos hf,uL,hq.eq],h⟩
theorem qf9 {ek:Option Nat} {x:Opd} {v:WV} (hx:fr.rd x=v) (hf:fitsW (ekB ek) v=true) (hs:B6 v=[]) (ho:E5 v=v) (hq:Put fr dst (.ptr H.length 0) fr') (h:N fr' (H++[.var ek v.flat])):OpP V (.hbox ek x) dst fr H N:=
 ⟨fr',_,by
  have ht:Lz.take v fr H=some (v,fr,H):=by unfold Lz.take;rw [hs];simp only [List.nodup_nil,if_true,O9,ho]
  show y8 (.hbox ek x) dst fr H=_;simp only [y8,hx,if_pos hf,ht,hq.eq],h⟩
theorem qw9 {x i:Opd} {ek:Option Nat} {pl:Pl} {b:Bool} {off e:Nat} {xs:List CV} {k:IntKind} {n:Int} {m:Nat} {v:CV} (hx:fr.rd x=.view pl b off e ek xs) (hi:fr.rd i=.c (.int k n)) (hn:n=(m:Nat)) (hb:xs[m]?=some v) (hq:Put fr dst (.eptr pl (off+m) 0 ek v) fr') (h:N fr' H):OpP V (.ix ek x i) dst fr H N:=
 ⟨fr',H,by show y8 (.ix ek x i) dst fr H=_;subst hn;simp only [y8,hx,hi,Y4,ixW,true_and,if_pos (Int.natCast_nonneg m),Int.toNat_natCast,hb,M5,hq.eq],h⟩
theorem zg8 {α:Type} {x i:Opd} {ek:Option Nat} {pl:Pl} {b:Bool} {off e:Nat} {l:List α} {f:α->CV} {k:IntKind} {n:Int} {m:Nat} {y:α} (hx:fr.rd x=.view pl b off e ek (l.map f)) (hi:fr.rd i=.c (.int k n)) (hn:n=(m:Nat)) (hb:l[m]?=some y) (hq:Put fr dst (.eptr pl (off+m) 0 ek (f y)) fr') (h:N fr' H):OpP V (.ix ek x i) dst fr H N:=
 qw9 hx hi hn (by rw [List.getElem?_map,hb];rfl) hq h
theorem zm7 {ek ek':Option Nat} {a:Opd} {pl:Pl} {i off:Nat} {x v:CV} (hp:fr.place a=none) (ha:fr.rd a=.eptr pl i off ek' x) (hv:P4 ek' ek x off=some v) (hq:Put fr dst (.c v) fr') (h:N fr' H):OpP V (.load ek a) dst fr H N:=
 ⟨fr',H,by show y8 (.load ek a) dst fr H=_;simp only [y8,hp,ha,Q8,hv,Option.map,M5,hq.eq],h⟩
theorem Z3 {α:Type} {x:Opd} {p:Pl} {b:Bool} {off e:Nat} {ek:Option Nat} {l:List α} {f:α->CV} (hx:fr.rd x=.view p b off e ek (l.map f)) (hq:Put fr dst (.c (.int .i64 l.length)) fr') (h:N fr' H):OpP V (.len false x) dst fr H N:=
 uC hx (by show some (l.map f).length=_;rw [List.length_map]) hq h
theorem j80 {ek:Option Nat} {x:Opd} {us:List WV} (hx:fr.rd x=.agg us) (hf:fitsW (ekB ek) (.agg us)=true) (hs:S7 us=[]) (ho:us.map K3=us) (hq:Put fr dst (.ptr H.length 0) fr') (h:N fr' (H++[.var ek us])):OpP V (.hbox ek x) dst fr H N:=
 qf9 hx hf hs (by show WV.agg (us.map K3)=_;rw [ho]) hq h
structure Shr (V:WEnv) (f:Nat) (asv:List WV) (H:q9) (r:WV) (Q:q9->Prop):Prop where
 run:∃ H',wv V f asv H=some (r,H')/\Q H'
theorem q46:∀ (i:Nat) (vs:List WV),N2 [] i vs=[]:=by
 intro i vs;induction vs generalizing i with
 | nil=>rfl
 | cons v r ih=>simp only [N2,List.contains_nil,Bool.false_eq_true,if_false,ih,List.append_nil]
theorem b7 {l:List (Nat×WV)} {a:List (Nat×Option (Nat×Nat))} {f:Nat} {args:List Opd} {r:WV} {Q:q9->Prop} (hm:V.md f=.S) (ht:V.tk f=[]) (hn:bF l=true) (ho:(args.map (FL l a).rd).all okA=true)
 (hc:Shr V f (W8 [] 0 (args.map (FL l a).rd)) H r Q) (hq:Put (FL l a) dst r fr') (h:∀ H',Q H'->N fr' H'):OpP V (.call f args) dst (FL l a) H N:=by
 obtain ⟨H2,h1,h2⟩:=hc;refine ⟨fr',H2,?_,h H2 h2⟩;show O1 V (wv V) f (args.map (FL l a).rd) dst (FL l a) H=_;simp only [O1,hm,ht,q46,ho,List.nodup_nil,List.all_nil,and_self,if_true,O9,h1,tH,q79 hn,hq.eq]
theorem z54 {a b:Nat} {ek':Option Nat} {u w:CV} (hd:a≠b) (h1:ShI fr (.tmp a) w) (h2:fr.env b=.lbox ek' (.c u)):fin [.tmp a,.cell b ek'] (.tup [.c w,.c u]) fr H:=
 kA (us:=[w,u]) (by simp [IRes.at,hd]) (.cons h1 (.cons (.cell h2) .nil))
theorem shut_bool {r0:WV} {b:Bool} (h:shut r0=some (.c (.bool b))):r0=.c (.bool b):=by
 cases r0 with
 | c v=>simpa [shut,zN,shut1,J2] using h
 | agg cs=>simp only [shut,zN] at h;cases hl:uM cs<;>rw [hl] at h<;>simp at h
 | tup vs=>simp only [shut] at h;cases hl:qP vs<;>rw [hl] at h<;>simp at h
 | _=>simp [shut,zN,shut1,J2] at h
theorem qo3 {f:Nat} {asv:List WV} {b:Bool} (h:Rets V f asv (.c (.bool b))):∃ H',wv V f asv []=some (.c (.bool b),H'):=by
 obtain ⟨r0,H,h1,h2⟩:=h;exact ⟨H,by rw [h1,shut_bool h2]⟩
def wX (n:Nat) (res:List IRes) (r:WV) (Q:q9->Prop):f4:=fun fr H=>∃ vs r0 H',J4 fr H res=some vs/\qL n vs H=some (r0,H')/\r0=r/\Q H'
theorem qp3 {n:Nat} {Q:q9->Prop} (h:Q H):wX n [] (.tup []) Q fr H:=⟨[],.tup [],H,rfl,rfl,rfl,h⟩
theorem L9 {n t:Nat} {u u':CV} {Q:q9->Prop} (ht:fr.env t=.c u) (hu:u=u') (h:Q H):wX n [.tmp t] (.c u') Q fr H:=by
 subst hu;refine ⟨[.c u],.c u,H,?_,?_,rfl,h⟩
 . simp only [J4,ht];rfl
 . rfl
theorem V7 {f:Nat} {asv:List WV} {r:WV} {Q:q9->Prop} {b:ICode} {rs:List IRes} (hg:V.fn f=some ⟨b,rs⟩) (h:WP V b (FL (O2 0 asv) []) H (wX H.length rs r Q) [] (wX H.length rs r Q)) (ha:Z2 (V.ar f) asv.length (V.fn f)=V.fn f:=by exact rfl):Shr V f asv H r Q:=by
 obtain ⟨s,fr1,H1,h1,h2⟩:=h;have key:(s=.nrm\/s=.ret)->wX H.length rs r Q fr1 H1->Shr V f asv H r Q:=by
  rintro hs ⟨vs,r0,H2,g1,g2,rfl,g3⟩;refine ⟨H2,?_,g3⟩;rw [bB,wFn,WEnv.fnA,ha,hg];simp only [tZ,h1];rcases hs with rfl | rfl<;>simp only [g1]<;>exact g2
 cases s with
 | nrm=>exact key (.inl rfl) h2
 | ret=>exact key (.inr rfl) h2
 | exit i=>exact absurd h2 (by simp [yI,jC])
 | goto i=>exact absurd h2 (by simp [yI])
theorem dV {l:Nat} (h:R.go l fr H):WP V (.goto l) fr H N B R:=⟨.goto l,fr,H,rfl,h⟩
theorem lZ {l:Nat} (h:N fr H):WP V (.label l) fr H N B R:=⟨.nrm,fr,H,rfl,h⟩
theorem sO {σ:Type} {l:Nat} {live:List Nat} {body rest:ICode} (K:σ->List (Nat×WV)) (P:σ->q9->Prop) (μ:σ->Nat)
 (hbody:WP V body fr H N B ⟨R.ret,fun l' fr' H'=>l'=l/\∃ s,KpL live fr' live (K s)/\P s H'⟩)
 (hb:∀ s H,P s H->WP V rest (FL (K s) []) H N B ⟨R.ret,fun l' fr' H'=>l'=l/\∃ s',KpL live fr' live (K s')/\P s' H'/\μ s'<μ s⟩):WP V (.scope l live body rest) fr H N B R:=by
 have turn:∀ n s fr H,μ s<n->KpL live fr live (K s)->P s H->∃ x fr' H',wR l (witW (fun fr H=>Q0 l (wC V (wv V) witW rest (J8 live fr) H)) fr H)=some (x,fr',H')/\yI N B R x fr' H':=by
  intro n;induction n with
  | zero=>intro s fr H h;omega
  | succ n ih=>
    intro s fr H hn hk hp;obtain ⟨x,fr1,H1,g1,g2⟩:=hb s H hp;rw [cD,pW hk,g1];cases x with
    | nrm=>exact ⟨.nrm,fr1,H1,by simp only [Q0,wR,if_true],g2⟩
    | ret=>exact ⟨.ret,fr1,H1,rfl,g2⟩
    | exit i=>exact ⟨.exit i,fr1,H1,rfl,g2⟩
    | goto l'=>
      obtain ⟨rfl,s',k1,k2,k3⟩:=g2;simp only [Q0,if_true];exact ih s' fr1 H1 (by omega) k1 k2
 obtain ⟨x,fr1,H1,g1,g2⟩:=hbody;have e:wC V (wv V) witW (.scope l live body rest) fr H=match wC V (wv V) witW body fr H with
  | some (.goto l',fr',H')=>if l'=l then wR l (witW (fun fr H=>Q0 l (wC V (wv V) witW rest (J8 live fr) H)) fr' H') else none
  | r=>r:=rfl
 cases x with
 | nrm=>exact ⟨.nrm,fr1,H1,by rw [e,g1],g2⟩
 | ret=>exact ⟨.ret,fr1,H1,by rw [e,g1],g2⟩
 | exit i=>exact ⟨.exit i,fr1,H1,by rw [e,g1],g2⟩
 | goto l'=>
   obtain ⟨rfl,s,k1,k2⟩:=g2;obtain ⟨y,fr2,H2,m1,m2⟩:=turn (μ s+1) s fr1 H1 (by omega) k1 k2;exact ⟨y,fr2,H2,by rw [e,g1];simp only [if_true];exact m1,m2⟩
theorem pJ {f:Nat} {xs:List CV} {u:CV} {g:List CV->Option (List CV)} (hf:V.fn f=none) (he:V.ext f=some g) (hg:g xs=some [u]):Rets V f (xs.map .c) (.c u):=by
 have hfn:V.fnA f (xs.map WV.c).length=none:=by
  simp only [WEnv.fnA,hf,Z2];split
  . rfl
  . split<;>rfl
 have hcl:∀ l:List CV,J5 (l.map WV.c)=some l:=by
  intro l;induction l with
  | nil=>rfl
  | cons x l ih=>simp only [List.map_cons,J5,ih]
 refine ⟨.c u,[],?_,rfl⟩;rw [bB,wFn,hfn];simp only [uY,he,hcl,hg];rfl
theorem dT {f:Nat} {xs us:List CV} {g:List CV->Option (List CV)} (hf:V.fn f=none) (he:V.ext f=some g) (hg:g xs=some us) (hn:us.length≠1):Rets V f (xs.map .c) (.tup (us.map .c)):=by
 have hfn:V.fnA f (xs.map WV.c).length=none:=by
  simp only [WEnv.fnA,hf,Z2];split
  . rfl
  . split<;>rfl
 have hcl:∀ l:List CV,J5 (l.map WV.c)=some l:=by
  intro l;induction l with
  | nil=>rfl
  | cons x l ih=>simp only [List.map_cons,J5,ih]
 have ht:∀ l:List CV,qP (l.map WV.c)=some (l.map WV.c):=by
  intro l;induction l with
  | nil=>rfl
  | cons x l ih=>simp only [List.map_cons,qP,shut1,zN,J2,ih]
 have e:I8 (us.map WV.c)=.tup (us.map .c):=by
  match us,hn with
  | [],_=>rfl
  | [a],hn=>exact absurd rfl hn
  | a::b::l,_=>rfl
 refine ⟨.tup (us.map .c),[],?_,?_⟩
 . rw [bB,wFn,hfn];simp only [uY,he,hcl,hg,e]
 . simp only [shut,ht,Option.map_some]
theorem kE {σ:Type} {live:List Nat} {body:ICode} (K:σ->List (Nat×WV)) (P:σ->q9->Prop) (μ:σ->Nat) (s0:σ) (h0:KpL live fr live (K s0)) (hP:P s0 H)
 (hb:∀ s H,P s H->WP V body (FL (K s) []) H (fun fr' H'=>∃ s',KpL live fr' live (K s')/\P s' H'/\μ s'<μ s) B R):WP V (.loop live body) fr H N B R:=by
 have key:∀ n s fr H,μ s<n->KpL live fr live (K s)->P s H->WP V (.loop live body) fr H N B R:=by
  intro n;induction n with
  | zero=>intro s fr H h;omega
  | succ n ih=>
    intro s fr H hn hk hp;obtain ⟨x,fr1,H1,g1,g2⟩:=hb s H hp;have e:wC V (wv V) witW (.loop live body) fr H=match wC V (wv V) witW body (FL (K s) []) H with
     | some (.nrm,fr',H')=>wC V (wv V) witW (.loop live body) fr' H'
     | r=>r:=by
     rw [zd5,cD,pW hk];rfl
    cases x with
    | nrm=>
      obtain ⟨s',k1,k2,k3⟩:=g2;obtain ⟨y,fr2,H2,m1,m2⟩:=ih s' fr1 H1 (by omega) k1 k2;exact ⟨y,fr2,H2,by rw [e,g1];exact m1,m2⟩
    | exit i=>exact ⟨.exit i,fr1,H1,by rw [e,g1],g2⟩
    | goto i=>exact ⟨.goto i,fr1,H1,by rw [e,g1],g2⟩
    | ret=>exact ⟨.ret,fr1,H1,by rw [e,g1],g2⟩
 exact key (μ s0+1) s0 fr H (by omega) h0 hP
end
section
variable {fr:WFr} {H:q9}
theorem V1 {r1 r2:IRes} {u v:CV} {r:WV} (h1:ShI fr r1 u) (h2:ShI fr r2 v) (hd:([r1,r2].map IRes.at).Nodup) (e:r=.tup [.c u,.c v]):fin [r1,r2] r fr H:=by
 subst e;exact kA hd (.cons h1 (.cons h2 .nil))
theorem jJ {r1 r2 r3:IRes} {u v w:CV} {r:WV} (h1:ShI fr r1 u) (h2:ShI fr r2 v) (h3:ShI fr r3 w) (hd:([r1,r2,r3].map IRes.at).Nodup) (e:r=.tup [.c u,.c v,.c w]):fin [r1,r2,r3] r fr H:=by
 subst e;exact kA hd (.cons h1 (.cons h2 (.cons h3 .nil)))
end
end Go.Proofs.Lz
namespace Go.Proofs
open Go.Shelf Tryz
def Tryz.rLays_n240:Go.Shelf.Ren:=⟨fun | 240=>78 | 276=>100 | n=>n,fun | 70=>61 | 72=>63 | 164=>99 | 37=>31 | n=>n,fun | n=>n⟩
theorem Tryz.lLays_n240:Lays.n240 Tryz.prog Tryz.rLays_n240:={
 mixed:=by kernel_rfl
 f240:=func78.trans (congrArg some (by kernel_rfl))
 f276:=func100.trans (congrArg some (by kernel_rfl))
 t0:=underlying0
 a0:=isAgg0
 z0:=sizeOf0
 v0:=zeroValue0
 t4:=underlying4
 a4:=isAgg4
 z4:=sizeOf4
 v4:=zeroValue4
 t9:=underlying9
 a9:=isAgg9
 z9:=sizeOf9
 v9:=zeroValue9
 t20:=underlying20
 a20:=isAgg20
 z20:=sizeOf20
 v20:=zeroValue20
 t70:=underlying61
 a70:=isAgg61
 z70:=sizeOf61
 v70:=zeroValue61
 t72:=underlying63
 a72:=isAgg63
 z72:=sizeOf63
 v72:=zeroValue63
 t164:=underlying99
 a164:=isAgg99
 z164:=sizeOf99
 v164:=zeroValue99 }
def Tryz.rLays_n169:Go.Shelf.Ren:=⟨fun | 169=>46 | n=>n,fun | 70=>61 | 9=>9 | 0=>0 | 72=>63 | 37=>31 | 127=>90 | 3=>3 | 5=>5 | n=>n,fun | n=>n⟩
theorem Tryz.lLays_n169:Lays.n169 Tryz.prog Tryz.rLays_n169:={
 mixed:=by kernel_rfl
 f169:=func46.trans (congrArg some (by kernel_rfl))
 t0:=underlying0
 a0:=isAgg0
 z0:=sizeOf0
 v0:=zeroValue0
 t3:=underlying3
 a3:=isAgg3
 z3:=sizeOf3
 v3:=zeroValue3
 t9:=underlying9
 a9:=isAgg9
 z9:=sizeOf9
 v9:=zeroValue9
 t37:=underlying31
 a37:=isAgg31
 z37:=sizeOf31
 v37:=zeroValue31
 t70:=underlying61
 a70:=isAgg61
 z70:=sizeOf61
 v70:=zeroValue61
 t72:=underlying63
 a72:=isAgg63
 z72:=sizeOf63
 v72:=zeroValue63
 t127:=underlying90
 a127:=isAgg90
 z127:=sizeOf90
 v127:=zeroValue90 }
def Tryz.rLays_n99:Go.Shelf.Ren:=⟨fun | 99=>54 | 206=>85 | n=>n,fun | 9=>9 | 4=>4 | 3=>3 | n=>n,fun | n=>n⟩
theorem Tryz.lLays_n99:Lays.n99 Tryz.prog Tryz.rLays_n99:={
 mixed:=by kernel_rfl
 f99:=func54.trans (congrArg some (by kernel_rfl))
 f206:=func85.trans (congrArg some (by kernel_rfl))
 t3:=underlying3
 a3:=isAgg3
 z3:=sizeOf3
 v3:=zeroValue3
 t4:=underlying4
 a4:=isAgg4
 z4:=sizeOf4
 v4:=zeroValue4
 t9:=underlying9
 a9:=isAgg9
 z9:=sizeOf9
 v9:=zeroValue9 }
def Tryz.rLays_n160:Go.Shelf.Ren:=⟨fun | 160=>84 | 232=>108 | 231=>107 | 227=>109 | 234=>111 | 233=>110 | 236=>113 | 235=>112 | 228=>132 | 271=>135 | 151=>134 | 197=>133 | 120=>154 | 152=>153 | 260=>152 | 137=>35 | 119=>169 | 224=>141 | 225=>140 | 217=>61 | 266=>93 | n=>n,fun | 9=>9 | 4=>4 | 3=>3 | 5=>5 | 117=>110 | 116=>109 | 0=>0 | 124=>113 | 21=>21 | 105=>118 | 46=>87 | 119=>143 | 139=>146 | 138=>145 | n=>n,fun | 3=>2 | 4=>3 | n=>n⟩
theorem Tryz.lLays_n160:Lays.n160 Tryz.prog Tryz.rLays_n160:={
 mixed:=by kernel_rfl
 f119:=func169.trans (congrArg some (by kernel_rfl))
 f120:=func154.trans (congrArg some (by kernel_rfl))
 f137:=func35.trans (congrArg some (by kernel_rfl))
 f151:=func134.trans (congrArg some (by kernel_rfl))
 f152:=func153.trans (congrArg some (by kernel_rfl))
 f160:=func84.trans (congrArg some (by kernel_rfl))
 f197:=func133.trans (congrArg some (by kernel_rfl))
 f217:=func61.trans (congrArg some (by kernel_rfl))
 f224:=func141.trans (congrArg some (by kernel_rfl))
 f225:=func140.trans (congrArg some (by kernel_rfl))
 f227:=func109.trans (congrArg some (by kernel_rfl))
 f228:=func132.trans (congrArg some (by kernel_rfl))
 f231:=func107.trans (congrArg some (by kernel_rfl))
 f232:=func108.trans (congrArg some (by kernel_rfl))
 f233:=func110.trans (congrArg some (by kernel_rfl))
 f234:=func111.trans (congrArg some (by kernel_rfl))
 f235:=func112.trans (congrArg some (by kernel_rfl))
 f236:=func113.trans (congrArg some (by kernel_rfl))
 f260:=func152.trans (congrArg some (by kernel_rfl))
 f266:=func93.trans (congrArg some (by kernel_rfl))
 f271:=func135.trans (congrArg some (by kernel_rfl))
 t0:=underlying0
 a0:=isAgg0
 z0:=sizeOf0
 v0:=zeroValue0
 t3:=underlying3
 a3:=isAgg3
 z3:=sizeOf3
 v3:=zeroValue3
 t4:=underlying4
 a4:=isAgg4
 z4:=sizeOf4
 v4:=zeroValue4
 t5:=underlying5
 a5:=isAgg5
 z5:=sizeOf5
 v5:=zeroValue5
 t9:=underlying9
 a9:=isAgg9
 z9:=sizeOf9
 v9:=zeroValue9
 t21:=underlying21
 a21:=isAgg21
 z21:=sizeOf21
 v21:=zeroValue21
 t46:=underlying87
 a46:=isAgg87
 z46:=sizeOf87
 v46:=zeroValue87
 t105:=underlying118
 a105:=isAgg118
 z105:=sizeOf118
 v105:=zeroValue118
 t116:=underlying109
 a116:=isAgg109
 z116:=sizeOf109
 t117:=underlying110
 a117:=isAgg110
 z117:=sizeOf110
 v117:=zeroValue110
 t119:=underlying143
 a119:=isAgg143
 z119:=sizeOf143
 t124:=underlying113
 a124:=isAgg113
 z124:=sizeOf113
 v124:=zeroValue113
 t138:=underlying145
 a138:=isAgg145
 z138:=sizeOf145
 v138:=zeroValue145
 t139:=underlying146
 a139:=isAgg146
 z139:=sizeOf146
 v139:=zeroValue146
 g3:=by kernel_rfl
 g4:=by kernel_rfl }
def Tryz.rLays_n105:Go.Shelf.Ren:=⟨fun | 105=>43 | 212=>79 | 99=>54 | 165=>80 | 166=>42 | 170=>45 | 169=>46 | 263=>101 | 264=>102 | 206=>85 | 240=>78 | 241=>103 | 276=>100 | 277=>123 | n=>n,fun | 9=>9 | 3=>3 | 4=>4 | 20=>20 | 0=>0 | 46=>87 | 109=>88 | 5=>5 | 72=>63 | 76=>67 | 51=>101 | 146=>102 | 53=>104 | 148=>105 | 70=>61 | 37=>31 | 75=>65 | 127=>90 | 164=>99 | 80=>72 | n=>n,fun | n=>n⟩
theorem Tryz.lLays_n105:Lays.n105 Tryz.prog Tryz.rLays_n105:={
 mixed:=by kernel_rfl
 f99:=func54.trans (congrArg some (by kernel_rfl))
 f105:=func43.trans (congrArg some (by kernel_rfl))
 f165:=func80.trans (congrArg some (by kernel_rfl))
 f166:=func42.trans (congrArg some (by kernel_rfl))
 f169:=func46.trans (congrArg some (by kernel_rfl))
 f170:=func45.trans (congrArg some (by kernel_rfl))
 f206:=func85.trans (congrArg some (by kernel_rfl))
 f212:=func79.trans (congrArg some (by kernel_rfl))
 f240:=func78.trans (congrArg some (by kernel_rfl))
 f241:=func103.trans (congrArg some (by kernel_rfl))
 f263:=func101.trans (congrArg some (by kernel_rfl))
 f264:=func102.trans (congrArg some (by kernel_rfl))
 f276:=func100.trans (congrArg some (by kernel_rfl))
 f277:=func123.trans (congrArg some (by kernel_rfl))
 t0:=underlying0
 a0:=isAgg0
 z0:=sizeOf0
 v0:=zeroValue0
 t3:=underlying3
 a3:=isAgg3
 z3:=sizeOf3
 v3:=zeroValue3
 t4:=underlying4
 a4:=isAgg4
 z4:=sizeOf4
 v4:=zeroValue4
 t5:=underlying5
 a5:=isAgg5
 z5:=sizeOf5
 v5:=zeroValue5
 t9:=underlying9
 a9:=isAgg9
 z9:=sizeOf9
 v9:=zeroValue9
 t20:=underlying20
 a20:=isAgg20
 z20:=sizeOf20
 v20:=zeroValue20
 t37:=underlying31
 a37:=isAgg31
 z37:=sizeOf31
 v37:=zeroValue31
 t46:=underlying87
 a46:=isAgg87
 z46:=sizeOf87
 v46:=zeroValue87
 t51:=underlying101
 a51:=isAgg101
 z51:=sizeOf101
 v51:=zeroValue101
 t53:=underlying104
 a53:=isAgg104
 z53:=sizeOf104
 v53:=zeroValue104
 t70:=underlying61
 a70:=isAgg61
 z70:=sizeOf61
 v70:=zeroValue61
 t72:=underlying63
 a72:=isAgg63
 z72:=sizeOf63
 v72:=zeroValue63
 t75:=underlying65
 a75:=isAgg65
 z75:=sizeOf65
 v75:=zeroValue65
 t76:=underlying67
 a76:=isAgg67
 z76:=sizeOf67
 v76:=zeroValue67
 t109:=underlying88
 a109:=isAgg88
 z109:=sizeOf88
 v109:=zeroValue88
 t127:=underlying90
 a127:=isAgg90
 z127:=sizeOf90
 v127:=zeroValue90
 t146:=underlying102
 a146:=isAgg102
 z146:=sizeOf102
 v146:=zeroValue102
 t148:=underlying105
 a148:=isAgg105
 z148:=sizeOf105
 v148:=zeroValue105
 t164:=underlying99
 a164:=isAgg99
 z164:=sizeOf99
 v164:=zeroValue99 }
def Tryz.rLays_n149:Go.Shelf.Ren:=⟨fun | 149=>117 | 222=>136 | n=>n,fun | 9=>9 | 5=>5 | 3=>3 | 4=>4 | n=>n,fun | n=>n⟩
theorem Tryz.lLays_n149:Lays.n149 Tryz.prog Tryz.rLays_n149:={
 mixed:=by kernel_rfl
 f149:=func117.trans (congrArg some (by kernel_rfl))
 f222:=func136.trans (congrArg some (by kernel_rfl))
 t3:=underlying3
 a3:=isAgg3
 z3:=sizeOf3
 v3:=zeroValue3
 t4:=underlying4
 a4:=isAgg4
 z4:=sizeOf4
 v4:=zeroValue4
 t5:=underlying5
 a5:=isAgg5
 z5:=sizeOf5
 v5:=zeroValue5
 t9:=underlying9
 a9:=isAgg9
 z9:=sizeOf9
 v9:=zeroValue9 }
def Tryz.rLays_n137:Go.Shelf.Ren:=⟨fun | 137=>35 | 217=>61 | 266=>93 | n=>n,fun | 9=>9 | 5=>5 | 3=>3 | n=>n,fun | n=>n⟩
theorem Tryz.lLays_n137:Lays.n137 Tryz.prog Tryz.rLays_n137:={
 mixed:=by kernel_rfl
 f137:=func35.trans (congrArg some (by kernel_rfl))
 f217:=func61.trans (congrArg some (by kernel_rfl))
 f266:=func93.trans (congrArg some (by kernel_rfl))
 t3:=underlying3
 a3:=isAgg3
 z3:=sizeOf3
 v3:=zeroValue3
 t5:=underlying5
 a5:=isAgg5
 z5:=sizeOf5
 v5:=zeroValue5
 t9:=underlying9
 a9:=isAgg9
 z9:=sizeOf9
 v9:=zeroValue9 }
def Tryz.rLaysC_n172:Go.Shelf.Ren:=⟨fun | 172=>118 | 244=>137 | 245=>138 | 247=>155 | 279=>156 | 280=>157 | 281=>158 | 282=>159 | 287=>170 | 316=>171 | 171=>81 | 205=>172 | 321=>177 | 322=>178 | 243=>104 | 246=>124 | 283=>143 | 284=>144 | 285=>145 | 286=>146 | 129=>164 | 317=>163 | 318=>165 | 319=>166 | 320=>167 | 337=>175 | 338=>176 | n=>n,fun | 9=>9 | 3=>3 | 75=>65 | 76=>67 | 4=>4 | 5=>5 | 167=>131 | 37=>31 | 0=>0 | 85=>132 | 2=>2 | 168=>134 | 53=>104 | 175=>148 | 46=>87 | 210=>151 | 127=>90 | 145=>158 | 143=>156 | 21=>21 | 171=>123 | 173=>126 | 212=>139 | 51=>101 | 20=>20 | 213=>140 | 232=>159 | 233=>160 | 80=>72 | n=>n,fun | 15=>4 | 16=>5 | 17=>1 | 18=>6 | 19=>7 | n=>n⟩
theorem Tryz.lLaysC_n172:LaysC.n172 Tryz.prog Tryz.rLaysC_n172:={
 mixed:=by kernel_rfl
 f129:=func164.trans (congrArg some (by kernel_rfl))
 f171:=func81.trans (congrArg some (by kernel_rfl))
 f172:=func118.trans (congrArg some (by kernel_rfl))
 f205:=func172.trans (congrArg some (by kernel_rfl))
 f243:=func104.trans (congrArg some (by kernel_rfl))
 f244:=func137.trans (congrArg some (by kernel_rfl))
 f245:=func138.trans (congrArg some (by kernel_rfl))
 f246:=func124.trans (congrArg some (by kernel_rfl))
 f247:=func155.trans (congrArg some (by kernel_rfl))
 f279:=func156.trans (congrArg some (by kernel_rfl))
 f280:=func157.trans (congrArg some (by kernel_rfl))
 f281:=func158.trans (congrArg some (by kernel_rfl))
 f282:=func159.trans (congrArg some (by kernel_rfl))
 f283:=func143.trans (congrArg some (by kernel_rfl))
 f284:=func144.trans (congrArg some (by kernel_rfl))
 f285:=func145.trans (congrArg some (by kernel_rfl))
 f286:=func146.trans (congrArg some (by kernel_rfl))
 f287:=func170.trans (congrArg some (by kernel_rfl))
 f316:=func171.trans (congrArg some (by kernel_rfl))
 f317:=func163.trans (congrArg some (by kernel_rfl))
 f318:=func165.trans (congrArg some (by kernel_rfl))
 f319:=func166.trans (congrArg some (by kernel_rfl))
 f320:=func167.trans (congrArg some (by kernel_rfl))
 f321:=func177.trans (congrArg some (by kernel_rfl))
 f322:=func178.trans (congrArg some (by kernel_rfl))
 f337:=func175.trans (congrArg some (by kernel_rfl))
 f338:=func176.trans (congrArg some (by kernel_rfl))
 t0:=underlying0
 a0:=isAgg0
 z0:=sizeOf0
 v0:=zeroValue0
 t2:=underlying2
 a2:=isAgg2
 z2:=sizeOf2
 v2:=zeroValue2
 t3:=underlying3
 a3:=isAgg3
 z3:=sizeOf3
 v3:=zeroValue3
 t4:=underlying4
 a4:=isAgg4
 z4:=sizeOf4
 v4:=zeroValue4
 t5:=underlying5
 a5:=isAgg5
 z5:=sizeOf5
 v5:=zeroValue5
 t9:=underlying9
 a9:=isAgg9
 z9:=sizeOf9
 v9:=zeroValue9
 t20:=underlying20
 a20:=isAgg20
 z20:=sizeOf20
 v20:=zeroValue20
 t21:=underlying21
 a21:=isAgg21
 z21:=sizeOf21
 v21:=zeroValue21
 t37:=underlying31
 a37:=isAgg31
 z37:=sizeOf31
 v37:=zeroValue31
 t46:=underlying87
 a46:=isAgg87
 z46:=sizeOf87
 v46:=zeroValue87
 t51:=underlying101
 a51:=isAgg101
 z51:=sizeOf101
 v51:=zeroValue101
 t53:=underlying104
 a53:=isAgg104
 z53:=sizeOf104
 v53:=zeroValue104
 t75:=underlying65
 a75:=isAgg65
 z75:=sizeOf65
 v75:=zeroValue65
 t76:=underlying67
 a76:=isAgg67
 z76:=sizeOf67
 v76:=zeroValue67
 t85:=underlying132
 a85:=isAgg132
 z85:=sizeOf132
 v85:=zeroValue132
 t127:=underlying90
 a127:=isAgg90
 z127:=sizeOf90
 v127:=zeroValue90
 t143:=underlying156
 a143:=isAgg156
 z143:=sizeOf156
 v143:=zeroValue156
 t145:=underlying158
 a145:=isAgg158
 z145:=sizeOf158
 v145:=zeroValue158
 t167:=underlying131
 a167:=isAgg131
 z167:=sizeOf131
 v167:=zeroValue131
 t168:=underlying134
 a168:=isAgg134
 z168:=sizeOf134
 v168:=zeroValue134
 t171:=underlying123
 a171:=isAgg123
 z171:=sizeOf123
 v171:=zeroValue123
 t173:=underlying126
 a173:=isAgg126
 z173:=sizeOf126
 v173:=zeroValue126
 t175:=underlying148
 a175:=isAgg148
 z175:=sizeOf148
 v175:=zeroValue148
 t210:=underlying151
 a210:=isAgg151
 z210:=sizeOf151
 v210:=zeroValue151
 t212:=underlying139
 a212:=isAgg139
 z212:=sizeOf139
 v212:=zeroValue139
 t213:=underlying140
 a213:=isAgg140
 z213:=sizeOf140
 t232:=underlying159
 a232:=isAgg159
 z232:=sizeOf159
 v232:=zeroValue159
 t233:=underlying160
 a233:=isAgg160
 z233:=sizeOf160
 v233:=zeroValue160
 g15:=by kernel_rfl
 g16:=by kernel_rfl
 g17:=by kernel_rfl
 g18:=by kernel_rfl
 g19:=by kernel_rfl
 t80:=underlying72
 a80:=isAgg72
 z80:=sizeOf72
 v80:=zeroValue72
 i0:=by kernel_rfl
 i2:=by kernel_rfl
 i3:=by kernel_rfl
 i4:=by kernel_rfl
 i5:=by kernel_rfl
 i9:=by kernel_rfl
 i20:=by kernel_rfl
 i21:=by kernel_rfl
 i37:=by kernel_rfl
 i46:=by kernel_rfl
 i51:=by kernel_rfl
 i53:=by kernel_rfl
 i75:=by kernel_rfl
 i76:=by kernel_rfl
 i80:=by kernel_rfl
 i85:=by kernel_rfl
 i127:=by kernel_rfl
 i143:=by kernel_rfl
 i145:=by kernel_rfl
 i167:=by kernel_rfl
 i168:=by kernel_rfl
 i171:=by kernel_rfl
 i173:=by kernel_rfl
 i175:=by kernel_rfl
 i210:=by kernel_rfl
 i212:=by kernel_rfl
 i232:=by kernel_rfl
 i233:=by kernel_rfl
 m15:=by kernel_rfl
 m16:=by kernel_rfl
 m17:=by kernel_rfl
 m18:=by kernel_rfl
 m19:=by kernel_rfl
 c0:=by kernel_rfl
 c2:=by kernel_rfl
 c3:=by kernel_rfl
 c4:=by kernel_rfl
 c5:=by kernel_rfl
 c9:=by kernel_rfl
 c20:=by kernel_rfl
 c21:=by kernel_rfl
 c37:=by kernel_rfl
 c46:=by kernel_rfl
 c51:=by kernel_rfl
 c53:=by kernel_rfl
 c75:=by kernel_rfl
 c76:=by kernel_rfl
 c80:=by kernel_rfl
 c85:=by kernel_rfl
 c127:=by kernel_rfl
 c143:=by kernel_rfl
 c145:=by kernel_rfl
 c167:=by kernel_rfl
 c168:=by kernel_rfl
 c171:=by kernel_rfl
 c173:=by kernel_rfl
 c175:=by kernel_rfl
 c210:=by kernel_rfl
 c212:=by kernel_rfl
 c213:=by kernel_rfl
 c232:=by kernel_rfl
 c233:=by kernel_rfl }
def Tryz.rLaysM_n171:Go.Shelf.Ren:=⟨fun | 171=>81 | 243=>104 | 246=>124 | 283=>143 | 284=>144 | 285=>145 | 286=>146 | 129=>164 | 317=>163 | 318=>165 | 319=>166 | 320=>167 | 337=>175 | 338=>176 | n=>n,fun | 3=>3 | 9=>9 | 2=>2 | 4=>4 | 171=>123 | 0=>0 | 53=>104 | 37=>31 | 5=>5 | 173=>126 | 212=>139 | 51=>101 | 20=>20 | 213=>140 | 46=>87 | 232=>159 | 233=>160 | n=>n,fun | 17=>1 | 18=>6 | 19=>7 | n=>n⟩
theorem Tryz.lLaysM_n171:LaysM.n171 Tryz.prog Tryz.rLaysM_n171:={
 mixed:=by kernel_rfl
 f129:=func164.trans (congrArg some (by kernel_rfl))
 f171:=func81.trans (congrArg some (by kernel_rfl))
 f243:=func104.trans (congrArg some (by kernel_rfl))
 f246:=func124.trans (congrArg some (by kernel_rfl))
 f283:=func143.trans (congrArg some (by kernel_rfl))
 f284:=func144.trans (congrArg some (by kernel_rfl))
 f285:=func145.trans (congrArg some (by kernel_rfl))
 f286:=func146.trans (congrArg some (by kernel_rfl))
 f317:=func163.trans (congrArg some (by kernel_rfl))
 f318:=func165.trans (congrArg some (by kernel_rfl))
 f319:=func166.trans (congrArg some (by kernel_rfl))
 f320:=func167.trans (congrArg some (by kernel_rfl))
 f337:=func175.trans (congrArg some (by kernel_rfl))
 f338:=func176.trans (congrArg some (by kernel_rfl))
 t0:=underlying0
 a0:=isAgg0
 z0:=sizeOf0
 v0:=zeroValue0
 t2:=underlying2
 a2:=isAgg2
 z2:=sizeOf2
 v2:=zeroValue2
 t3:=underlying3
 a3:=isAgg3
 z3:=sizeOf3
 v3:=zeroValue3
 t4:=underlying4
 a4:=isAgg4
 z4:=sizeOf4
 v4:=zeroValue4
 t5:=underlying5
 a5:=isAgg5
 z5:=sizeOf5
 v5:=zeroValue5
 t9:=underlying9
 a9:=isAgg9
 z9:=sizeOf9
 v9:=zeroValue9
 t20:=underlying20
 a20:=isAgg20
 z20:=sizeOf20
 v20:=zeroValue20
 t37:=underlying31
 a37:=isAgg31
 z37:=sizeOf31
 v37:=zeroValue31
 t46:=underlying87
 a46:=isAgg87
 z46:=sizeOf87
 v46:=zeroValue87
 t51:=underlying101
 a51:=isAgg101
 z51:=sizeOf101
 v51:=zeroValue101
 t53:=underlying104
 a53:=isAgg104
 z53:=sizeOf104
 v53:=zeroValue104
 t171:=underlying123
 a171:=isAgg123
 z171:=sizeOf123
 v171:=zeroValue123
 t173:=underlying126
 a173:=isAgg126
 z173:=sizeOf126
 v173:=zeroValue126
 t212:=underlying139
 a212:=isAgg139
 z212:=sizeOf139
 v212:=zeroValue139
 t213:=underlying140
 a213:=isAgg140
 z213:=sizeOf140
 t232:=underlying159
 a232:=isAgg159
 z232:=sizeOf159
 v232:=zeroValue159
 t233:=underlying160
 a233:=isAgg160
 z233:=sizeOf160
 v233:=zeroValue160
 g17:=by kernel_rfl
 g18:=by kernel_rfl
 g19:=by kernel_rfl
 i0:=by kernel_rfl
 i2:=by kernel_rfl
 i3:=by kernel_rfl
 i4:=by kernel_rfl
 i5:=by kernel_rfl
 i9:=by kernel_rfl
 i20:=by kernel_rfl
 i37:=by kernel_rfl
 i46:=by kernel_rfl
 i51:=by kernel_rfl
 i53:=by kernel_rfl
 i171:=by kernel_rfl
 i173:=by kernel_rfl
 i212:=by kernel_rfl
 i232:=by kernel_rfl
 i233:=by kernel_rfl
 m17:=by kernel_rfl
 m18:=by kernel_rfl
 m19:=by kernel_rfl }
def Tryz.rLaysM_n144:Go.Shelf.Ren:=⟨fun | 144=>77 | 143=>99 | 219=>122 | 217=>61 | 225=>140 | 224=>141 | 267=>142 | 266=>93 | 314=>162 | n=>n,fun | 9=>9 | 4=>4 | 3=>3 | 5=>5 | 46=>87 | 146=>102 | 51=>101 | n=>n,fun | 1=>0 | n=>n⟩
theorem Tryz.lLaysM_n144:LaysM.n144 Tryz.prog Tryz.rLaysM_n144:={
 mixed:=by kernel_rfl
 f143:=func99.trans (congrArg some (by kernel_rfl))
 f144:=func77.trans (congrArg some (by kernel_rfl))
 f217:=func61.trans (congrArg some (by kernel_rfl))
 f219:=func122.trans (congrArg some (by kernel_rfl))
 f224:=func141.trans (congrArg some (by kernel_rfl))
 f225:=func140.trans (congrArg some (by kernel_rfl))
 f266:=func93.trans (congrArg some (by kernel_rfl))
 f267:=func142.trans (congrArg some (by kernel_rfl))
 f314:=func162.trans (congrArg some (by kernel_rfl))
 t3:=underlying3
 a3:=isAgg3
 z3:=sizeOf3
 v3:=zeroValue3
 t4:=underlying4
 a4:=isAgg4
 z4:=sizeOf4
 v4:=zeroValue4
 t5:=underlying5
 a5:=isAgg5
 z5:=sizeOf5
 v5:=zeroValue5
 t9:=underlying9
 a9:=isAgg9
 z9:=sizeOf9
 v9:=zeroValue9
 t46:=underlying87
 a46:=isAgg87
 z46:=sizeOf87
 v46:=zeroValue87
 t51:=underlying101
 a51:=isAgg101
 z51:=sizeOf101
 v51:=zeroValue101
 t146:=underlying102
 a146:=isAgg102
 z146:=sizeOf102
 v146:=zeroValue102
 g1:=by kernel_rfl
 i3:=by kernel_rfl
 i4:=by kernel_rfl
 i5:=by kernel_rfl
 i9:=by kernel_rfl
 i46:=by kernel_rfl
 i51:=by kernel_rfl
 i146:=by kernel_rfl
 m1:=by kernel_rfl
 s1_3:=fun w h=>Go.Proofs.cell_of_shapedOpen_int (zero:=#[.int .i64 0]) (t:=3) h (of_decide_eq_true (by kernel_rfl)) (by kernel_rfl) rfl (by kernel_rfl) (by kernel_rfl) Tryz.underlying3 }
def Tryz.rLaysM_n145:Go.Shelf.Ren:=⟨fun | 145=>173 | 220=>179 | 219=>122 | 217=>61 | 225=>140 | 224=>141 | 267=>142 | 266=>93 | 314=>162 | n=>n,fun | 9=>9 | 4=>4 | 59=>128 | 3=>3 | 5=>5 | 46=>87 | 146=>102 | 51=>101 | n=>n,fun | 1=>0 | n=>n⟩
theorem Tryz.lLaysM_n145:LaysM.n145 Tryz.prog Tryz.rLaysM_n145:={
 mixed:=by kernel_rfl
 f145:=func173.trans (congrArg some (by kernel_rfl))
 f217:=func61.trans (congrArg some (by kernel_rfl))
 f219:=func122.trans (congrArg some (by kernel_rfl))
 f220:=func179.trans (congrArg some (by kernel_rfl))
 f224:=func141.trans (congrArg some (by kernel_rfl))
 f225:=func140.trans (congrArg some (by kernel_rfl))
 f266:=func93.trans (congrArg some (by kernel_rfl))
 f267:=func142.trans (congrArg some (by kernel_rfl))
 f314:=func162.trans (congrArg some (by kernel_rfl))
 t3:=underlying3
 a3:=isAgg3
 z3:=sizeOf3
 v3:=zeroValue3
 t4:=underlying4
 a4:=isAgg4
 z4:=sizeOf4
 v4:=zeroValue4
 t5:=underlying5
 a5:=isAgg5
 z5:=sizeOf5
 v5:=zeroValue5
 t9:=underlying9
 a9:=isAgg9
 z9:=sizeOf9
 v9:=zeroValue9
 t46:=underlying87
 a46:=isAgg87
 z46:=sizeOf87
 v46:=zeroValue87
 t51:=underlying101
 a51:=isAgg101
 z51:=sizeOf101
 v51:=zeroValue101
 t59:=underlying128
 a59:=isAgg128
 z59:=sizeOf128
 v59:=zeroValue128
 t146:=underlying102
 a146:=isAgg102
 z146:=sizeOf102
 v146:=zeroValue102
 g1:=by kernel_rfl
 i3:=by kernel_rfl
 i4:=by kernel_rfl
 i5:=by kernel_rfl
 i9:=by kernel_rfl
 i46:=by kernel_rfl
 i51:=by kernel_rfl
 i59:=by kernel_rfl
 i146:=by kernel_rfl
 m1:=by kernel_rfl
 s1_3:=fun w h=>Go.Proofs.cell_of_shapedOpen_int (zero:=#[.int .i64 0]) (t:=3) h (of_decide_eq_true (by kernel_rfl)) (by kernel_rfl) rfl (by kernel_rfl) (by kernel_rfl) Tryz.underlying3 }
end Go.Proofs
