/- The library functions that the chapter reaches, laid at this program: each body is compared by the kernel. -/
import Derived.Test.YtencoceemejcnaaGreatDoorLzVc2
import Derived.Shelf.Small.Strs
import Derived.Shelf.Strconv.AtoiAll
import Derived.Shelf.Strconv.Itoa3
import Derived.Shelf.Strings.Builder1
import Derived.Shelf.Strings.LastIndex
import Derived.Shelf.Strings.Prefix
import Derived.Shelf.Strings.Repeat
import Derived.Shelf.Strings.Shaped
import Derived.Shelf.Strings.Trim
import Derived.Test.YtencoceemejcnaaGreatDoorProg
set_option linter.unusedSimpArgs false
set_option linter.unusedVariables false
namespace Go.Proofs.Lz
section
variable {V:WEnv} {fr fr':WFr} {H H':z18} {N:Post} {B:Hs} {R:RP} {dst:Option Nat} {d:Nat}
def j90:WV→Bool
 | .view p _ _ _ _ _=>!isHp p
 | .eptr p _ _ _ _=>!isHp p
 | _=>true
def qu5:WV→Bool
 | .agg cs=>cs.all j90
 | v=>j90 v
def w94:WV→Bool
 | .tup vs=>vs.all qu5
 | .lbox _ v=>qu5 v
 | v=>qu5 v
def qp3:List (Nat×WV)→Bool
 | []=>true
 | (_,v)::r=>w94 v&&qp3 r
theorem jo3 {s i k:Nat} {v:WV} (h:j90 v=true):hit1 isHp false (.sl s i k) v=v:=by
 cases v with
 | own bb e ek xs=>rfl
 | view p bb off e ek xs=>
   have:isHp p=false:=by simpa [j90] using h
   simp only [hit1,this];rfl
 | eptr p i off ek x=>
   have:isHp p=false:=by simpa [j90] using h
   simp only [hit1,this];rfl
 | _=>rfl
theorem ws9 {s i:Nat}:∀ (k:Nat) (cs:List WV),cs.all j90=true→hitL isHp false (Pl.sl s i) k cs=cs:=by
 intro k cs
 induction cs generalizing k with
 | nil=>intro _;rfl
 | cons v r ih=>
   intro h
   simp only [List.all_cons,Bool.and_eq_true] at h
   simp only [hitL,jo3 h.1,ih _ h.2]
theorem j82 {s i:Nat} {v:WV} (h:qu5 v=true):hitC isHp false (Pl.sl s i) v=v:=by
 have h1:∀ w,qu5 w=j90 w→hitC isHp false (Pl.sl s i) w=hit1 isHp false (Pl.sl s i 0) w→qu5 w=true→hitC isHp false (Pl.sl s i) w=w:=fun w e1 e2 e3=>by rw [e2];exact jo3 (by rw [← e1];exact e3)
 cases v<;>first | exact h1 _ rfl rfl h | (simp only [hitC];rw [ws9 0 _ h])
theorem wo3 {s:Nat}:∀ (i:Nat) (vs:List WV),vs.all qu5=true→hitT isHp false (Pl.sl s) i vs=vs:=by
 intro i vs
 induction vs generalizing i with
 | nil=>intro _;rfl
 | cons v r ih=>
   intro h
   simp only [List.all_cons,Bool.and_eq_true] at h
   simp only [hitT,j82 h.1,ih _ h.2]
theorem v08 {s:Nat} {v:WV} (h:w94 v=true):hit isHp false (Pl.sl s) v=v:=by
 have h1:∀ w,w94 w=qu5 w→hit isHp false (Pl.sl s) w=hitC isHp false (Pl.sl s 0) w→w94 w=true→hit isHp false (Pl.sl s) w=w:=fun w e1 e2 e3=>by rw [e2];exact j82 (by rw [← e1];exact e3)
 cases v<;>first | exact h1 _ rfl rfl h | (simp only [hit,wo3 0 _ h];done) | (simp only [hit];rw [j82 h])
theorem wp4:∀ {l:List (Nat×WV)},qp3 l=true→hitM isHp false l=l:=by
 intro l
 induction l with
 | nil=>intro _;rfl
 | cons p r ih=>
   obtain ⟨t,v⟩:=p
   intro h
   simp only [qp3,Bool.and_eq_true] at h
   simp only [hitM,v08 h.1,ih h.2]
theorem z86 {ek k:Option Nat} {a:Opd} {id off:Nat} {cs:List WV} {v:WV} (hp:fr.place a=none) (ha:fr.rd a=.ptr id off) (hH:H[id]?=some (.var k cs)) (hv:q81 ek (qj6 (Pl.hp id) 0 cs) off=some v) (hq:Put fr dst v fr') (h:N fr' H):OpP V (.load ek a) dst fr H N:=
 ⟨fr',H,by show wOp0 (.load ek a) dst fr H=_;simp only [wOp0,hp,ha,q02,hH,hv,wput,hq.eq],h⟩
theorem z22 {ek k:Option Nat} {a:Opd} {id off:Nat} {cs:List WV} {v:CV} (hp:fr.place a=none) (ha:fr.rd a=.ptr id off) (hH:H[id]?=some (.var k cs)) (hv:q81 ek (qj6 (Pl.hp id) 0 cs) off=some (.c v)) (hq:Put fr dst (.c v) fr') (h:N fr' H):OpP V (.load ek a) dst fr H N:=z86 hp ha hH hv hq h
theorem j38 (u:CV):(WV.c u).flat.any z88=false:=by
 cases u<;>simp [WV.flat,z88]
theorem za7 {ek k:Option Nat} {a x:Opd} {id off:Nat} {cs cs':List WV} {u:CV} (hp:fr.place a=none) (ha:fr.rd a=.ptr id off) (hx:fr.rd x=.c u) (hf:fitsW ek (.c u)=true) (hH:H[id]?=some (.var k cs)) (hb:(decide (off+(WV.c u).flat.length≤cs.length))=true) (hc:za0 cs off (WV.c u).flat=cs')
 (h:∀ H',H'[id]?=some (.var k cs')→(∀ (i:Nat) (o:WO),i≠id→H[i]?=some o→H'[i]?=some o)→N fr H'):OpP V (.store ek a x) none fr H N:=by
 refine ⟨fr,H.set id (.var k cs'),?_,h _ (qc8 hH _) (fun i o hi ho=>by rw [List.getElem?_set_ne (Ne.symm hi)];exact ho)⟩
 show wOp0 (.store ek a x) none fr H=_
 simp only [wOp0,hp,ha,hx,q06,if_pos hf,qk7,hH,if_pos (of_decide_eq_true hb),j38,Bool.false_eq_true,if_false,hc]
theorem jn2 {ek:Option Nat} {x:Opd} {u:CV} (hx:fr.rd x=.c u) (hf:fitsW (ekB ek) (.c u)=true) (hq:Put fr dst (.ptr H.length 0) fr') (h:N fr' (H++[.var ek (WV.c u).flat])):OpP V (.hbox ek x) dst fr H N:=
 ⟨fr',_,by show wOp0 (.hbox ek x) dst fr H=_;simp only [wOp0,hx,if_pos hf,qk7,hq.eq],h⟩
theorem w34 {ek:Option Nat} {x:Opd} {v:WV} (hx:fr.rd x=v) (hf:fitsW (ekB ek) v=true) (hs:srcs v=[]) (ho:zg7 v=v) (hq:Put fr dst (.ptr H.length 0) fr') (h:N fr' (H++[.var ek v.flat])):OpP V (.hbox ek x) dst fr H N:=
 ⟨fr',_,by
  have ht:Lz.take v fr H=some (v,fr,H):=by unfold Lz.take;rw [hs];simp only [List.nodup_nil,if_true,zh3,ho]
  show wOp0 (.hbox ek x) dst fr H=_;simp only [wOp0,hx,if_pos hf,ht,hq.eq],h⟩
theorem jm5 {x i:Opd} {ek:Option Nat} {pl:Pl} {b:Bool} {off e:Nat} {xs:List CV} {k:IntKind} {n:Int} {m:Nat} {v:CV} (hx:fr.rd x=.view pl b off e ek xs) (hi:fr.rd i=.c (.int k n)) (hn:n=(m:Nat)) (hb:xs[m]?=some v) (hq:Put fr dst (.eptr pl (off+m) 0 ek v) fr') (h:N fr' H):OpP V (.ix ek x i) dst fr H N:=
 ⟨fr',H,by show wOp0 (.ix ek x i) dst fr H=_;subst hn;simp only [wOp0,hx,hi,wint,ixW,true_and,if_pos (Int.natCast_nonneg m),Int.toNat_natCast,hb,wput,hq.eq],h⟩
theorem qc6 {α:Type} {x i:Opd} {ek:Option Nat} {pl:Pl} {b:Bool} {off e:Nat} {l:List α} {f:α→CV} {k:IntKind} {n:Int} {m:Nat} {y:α} (hx:fr.rd x=.view pl b off e ek (l.map f)) (hi:fr.rd i=.c (.int k n)) (hn:n=(m:Nat)) (hb:l[m]?=some y) (hq:Put fr dst (.eptr pl (off+m) 0 ek (f y)) fr') (h:N fr' H):OpP V (.ix ek x i) dst fr H N:=
 jm5 hx hi hn (by rw [List.getElem?_map,hb];rfl) hq h
theorem q99 {ek ek':Option Nat} {a:Opd} {pl:Pl} {i off:Nat} {x v:CV} (hp:fr.place a=none) (ha:fr.rd a=.eptr pl i off ek' x) (hv:zv2 ek' ek x off=some v) (hq:Put fr dst (.c v) fr') (h:N fr' H):OpP V (.load ek a) dst fr H N:=
 ⟨fr',H,by show wOp0 (.load ek a) dst fr H=_;simp only [wOp0,hp,ha,q02,hv,Option.map,wput,hq.eq],h⟩
theorem zd4 {α:Type} {x:Opd} {p:Pl} {b:Bool} {off e:Nat} {ek:Option Nat} {l:List α} {f:α→CV} (hx:fr.rd x=.view p b off e ek (l.map f)) (hq:Put fr dst (.c (.int .i64 l.length)) fr') (h:N fr' H):OpP V (.len false x) dst fr H N:=
 qm7 hx (by show some (l.map f).length=_;rw [List.length_map]) hq h
theorem j08 {l:List (Nat×WV)} {al:List (Nat×Option (Nat×Nat))} {e:Nat} {ek kk:Option Nat} {bytes id k:Nat} {s x:Opd} {xs new:List CV} {cs:List WV} {b':Bool} {e':Nat} {ek':Option Nat} {ys:List CV}
 (hs:(FL l al).rd s=.view (.hp id k) true 0 e ek xs) (hx:zs3 ek ((FL l al).rd x)=some new) (hb:(xs.length+new.length) * bytes≤140737488355328∧xs.length+new.length≤140737488355328) (hH:H[id]?=some (.var kk cs)) (hk:cs[k]?=some (.own b' e' ek' ys))
 (hq:Put (FL (hitM (inK [.hp id k]) false l) al) dst (.own true e ek (xs++new)) fr') (h:∀ H',H'[id]?=some (.var kk (cs.set k .gone))→(∀ (i:Nat) (o:WO),i≠id→H[i]?=some o→H'[i]?=some o)→N fr' H'):OpP V (.app e ek bytes s x) dst (FL l al) H N:=by
 refine ⟨fr',H.set id (.var kk (cs.set k .gone)),?_,h _ (qc8 hH _) (fun i o hi ho=>by rw [List.getElem?_set_ne (Ne.symm hi)];exact ho)⟩
 have hh:zh3 [.hp id k] false (FL l al) H=(FL (hitM (inK [.hp id k]) false l) al,H.set id (.var kk (cs.set k .gone))):=by
  show (hitF (inK [.hp id k]) false (FL l al),hitH false [.hp id k] H)=_
  rw [q22]
  simp only [hitH,hH,hk,hit1,if_true,Bool.false_eq_true,if_false]
 show appW e ek bytes ((FL l al).rd s) ((FL l al).rd x) dst (FL l al) H=_
 simp only [appW,hx,hs,true_and,lim,if_pos hb,hh,hq.eq]
theorem zp4 {l:List (Nat×WV)} {al:List (Nat×Option (Nat×Nat))} {k:Option Nat} {a x:Opd} {id off t:Nat} {cs:List WV} {b:Bool} {o e:Nat} {ek:Option Nat} {xs:List CV} (hp:(FL l al).place a=none) (ha:(FL l al).rd a=.ptr id off) (hx:(FL l al).rd x=.view (.sl t 0 0) b o e ek xs) (hH:H[id]?=some (.var k cs)) (hb:(decide (off+1≤cs.length))=true)
 (h:∀ H',H'[id]?=some (.var k (cs.set off (.own b e ek xs)))→(∀ (i:Nat) (o:WO),i≠id→H[i]?=some o→H'[i]?=some o)→N (FL (hitM (inHp id off 1) false (hitM (inK [.sl t 0 0]) false l)) al) H'):OpP V (.store none a x) none (FL l al) H N:=by
 have hb:=of_decide_eq_true hb
 refine ⟨_,H.set id (.var k (cs.set off (.own b e ek xs))),?_,h _ (qc8 hH _) (fun i o hi ho=>by rw [List.getElem?_set_ne (Ne.symm hi)];exact ho)⟩
 have hs:za0 cs off [.own b e ek xs]=cs.set off (.own b e ek xs):=by
  unfold za0
  rw [List.set_eq_take_append_cons_drop,if_pos (by omega)]
  simp
 have hn:([Pl.sl t 0 0]:List Pl).Nodup:=by simp
 show wOp0 (.store none a x) none (FL l al) H=_
 simp only [wOp0,hp,ha,hx,q06,fitsW,cellW,if_true,Lz.take,srcs,srcC,src1,if_pos hn,q26,zg7,z62,ze2,hH,WV.flat,List.length_cons,List.length_nil,Nat.zero_add,if_pos hb,List.any_cons,z88,List.any_nil,Bool.or_false,hs,q22]
theorem qs1 {ek:Option Nat} {x:Opd} {us:List WV} (hx:fr.rd x=.agg us) (hf:fitsW (ekB ek) (.agg us)=true) (hs:srcL us=[]) (ho:us.map ze2=us) (hq:Put fr dst (.ptr H.length 0) fr') (h:N fr' (H++[.var ek us])):OpP V (.hbox ek x) dst fr H N:=
 w34 hx hf hs (by show WV.agg (us.map ze2)=_;rw [ho]) hq h
structure Shr (V:WEnv) (f:Nat) (asv:List WV) (H:z18) (r:WV) (Q:z18→Prop):Prop where
 run:∃ H',wv V f asv H=some (r,H')∧Q H'
theorem jm1:∀ (i:Nat) (vs:List WV),zi1 [] i vs=[]:=by
 intro i vs
 induction vs generalizing i with
 | nil=>rfl
 | cons v r ih=>simp only [zi1,List.contains_nil,Bool.false_eq_true,if_false,ih,List.append_nil]
theorem z27 {l:List (Nat×WV)} {a:List (Nat×Option (Nat×Nat))} {f:Nat} {args:List Opd} {r:WV} {Q:z18→Prop} (hm:V.md f=.S) (ht:V.tk f=[]) (hn:qp3 l=true) (ho:(args.map (FL l a).rd).all okA=true)
 (hc:Shr V f (q30 [] 0 (args.map (FL l a).rd)) H r Q) (hq:Put (FL l a) dst r fr') (h:∀ H',Q H'→N fr' H'):OpP V (.call f args) dst (FL l a) H N:=by
 obtain ⟨H2,h1,h2⟩:=hc
 refine ⟨fr',H2,?_,h H2 h2⟩
 show zd1 V (wv V) f (args.map (FL l a).rd) dst (FL l a) H=_
 simp only [zd1,hm,ht,jm1,ho,List.nodup_nil,List.all_nil,and_self,if_true,zh3,h1,q22,wp4 hn,hq.eq]
theorem fin2 {a b:Nat} {ek':Option Nat} {u w:CV} (hd:a≠b) (h1:ShI fr (.tmp a) w) (h2:fr.env b=.lbox ek' (.c u)):fin [.tmp a,.cell b ek'] (.tup [.c w,.c u]) fr H:=
 qh8 (us:=[w,u]) (by simp [IRes.at,hd]) (.cons h1 (.cons (.cell h2) .nil))
theorem shut_bool {r0:WV} {b:Bool} (h:shut r0=some (.c (.bool b))):r0=.c (.bool b):=by
 cases r0 with
 | c v=>simpa [shut,qe7,shut1,zg4] using h
 | agg cs=>simp only [shut,qe7] at h;cases hl:jj0 cs<;>rw [hl] at h<;>simp at h
 | tup vs=>simp only [shut] at h;cases hl:qj8 vs<;>rw [hl] at h<;>simp at h
 | _=>simp [shut,qe7,shut1,zg4] at h
theorem jy8 {f:Nat} {asv:List WV} {b:Bool} (h:Rets V f asv (.c (.bool b))):∃ H',wv V f asv []=some (.c (.bool b),H'):=by
 obtain ⟨r0,H,h1,h2⟩:=h
 exact ⟨H,by rw [h1,shut_bool h2]⟩
def finS (n:Nat) (res:List IRes) (r:WV) (Q:z18→Prop):Post:=fun fr H=>∃ vs r0 H',zf7 fr H res=some vs∧zq2 n vs H=some (r0,H')∧r0=r∧Q H'
theorem wk9 {n:Nat} {Q:z18→Prop} (h:Q H):finS n [] (.tup []) Q fr H:=⟨[],.tup [],H,rfl,rfl,rfl,h⟩
theorem zk4 {n t:Nat} {u u':CV} {Q:z18→Prop} (ht:fr.env t=.c u) (hu:u=u') (h:Q H):finS n [.tmp t] (.c u') Q fr H:=by
 subst hu
 refine ⟨[.c u],.c u,H,?_,?_,rfl,h⟩
 · simp only [zf7,ht];rfl
 · rfl
theorem zh9 {f:Nat} {asv:List WV} {r:WV} {Q:z18→Prop} {b:ICode} {rs:List IRes} (hg:V.fn f=some ⟨b,rs⟩) (h:WP V b (FL (zk5 0 asv) []) H (finS H.length rs r Q) [] (finS H.length rs r Q)) (ha:arFn (V.ar f) asv.length (V.fn f)=V.fn f:=by exact rfl):Shr V f asv H r Q:=by
 obtain ⟨s,fr1,H1,h1,h2⟩:=h
 have key:(s=.nrm∨s=.ret)→finS H.length rs r Q fr1 H1→Shr V f asv H r Q:=by
  rintro hs ⟨vs,r0,H2,g1,g2,rfl,g3⟩
  refine ⟨H2,?_,g3⟩
  rw [wd7,wFn,WEnv.fnA,ha,hg]
  simp only [qs3,h1]
  rcases hs with rfl | rfl<;>simp only [g1]<;>exact g2
 cases s with
 | nrm=>exact key (.inl rfl) h2
 | ret=>exact key (.inr rfl) h2
 | exit i=>exact absurd h2 (by simp [outK,qp4])
 | goto i=>exact absurd h2 (by simp [outK])
theorem q32 {l:Nat} (h:R.go l fr H):WP V (.goto l) fr H N B R:=⟨.goto l,fr,H,rfl,h⟩
theorem q56 {l:Nat} (h:N fr H):WP V (.label l) fr H N B R:=⟨.nrm,fr,H,rfl,h⟩
theorem q57 {σ:Type} {l:Nat} {live:List Nat} {body rest:ICode} (K:σ→List (Nat×WV)) (P:σ→z18→Prop) (μ:σ→Nat)
 (hbody:WP V body fr H N B ⟨R.ret,fun l' fr' H'=>l'=l∧∃ s,KpL live fr' live (K s)∧P s H'⟩)
 (hb:∀ s H,P s H→WP V rest (FL (K s) []) H N B ⟨R.ret,fun l' fr' H'=>l'=l∧∃ s',KpL live fr' live (K s')∧P s' H'∧μ s'<μ s⟩):WP V (.scope l live body rest) fr H N B R:=by
 have turn:∀ n s fr H,μ s<n→KpL live fr live (K s)→P s H→∃ x fr' H',zx1 l (witW (fun fr H=>zf9 l (wC V (wv V) witW rest (zo4 live fr) H)) fr H)=some (x,fr',H')∧outK N B R x fr' H':=by
  intro n
  induction n with
  | zero=>intro s fr H h;omega
  | succ n ih=>
    intro s fr H hn hk hp
    obtain ⟨x,fr1,H1,g1,g2⟩:=hb s H hp
    rw [j60,qq9 hk,g1]
    cases x with
    | nrm=>exact ⟨.nrm,fr1,H1,by simp only [zf9,zx1,if_true],g2⟩
    | ret=>exact ⟨.ret,fr1,H1,rfl,g2⟩
    | exit i=>exact ⟨.exit i,fr1,H1,rfl,g2⟩
    | goto l'=>
      obtain ⟨rfl,s',k1,k2,k3⟩:=g2
      simp only [zf9,if_true]
      exact ih s' fr1 H1 (by omega) k1 k2
 obtain ⟨x,fr1,H1,g1,g2⟩:=hbody
 have e:wC V (wv V) witW (.scope l live body rest) fr H=match wC V (wv V) witW body fr H with
  | some (.goto l',fr',H')=>if l'=l then zx1 l (witW (fun fr H=>zf9 l (wC V (wv V) witW rest (zo4 live fr) H)) fr' H') else none
  | r=>r:=rfl
 cases x with
 | nrm=>exact ⟨.nrm,fr1,H1,by rw [e,g1],g2⟩
 | ret=>exact ⟨.ret,fr1,H1,by rw [e,g1],g2⟩
 | exit i=>exact ⟨.exit i,fr1,H1,by rw [e,g1],g2⟩
 | goto l'=>
   obtain ⟨rfl,s,k1,k2⟩:=g2
   obtain ⟨y,fr2,H2,m1,m2⟩:=turn (μ s+1) s fr1 H1 (by omega) k1 k2
   exact ⟨y,fr2,H2,by rw [e,g1];simp only [if_true];exact m1,m2⟩
theorem zo0 {f:Nat} {xs:List CV} {u:CV} {g:List CV→Option (List CV)} (hf:V.fn f=none) (he:V.ext f=some g) (hg:g xs=some [u]):Rets V f (xs.map .c) (.c u):=by
 have hfn:V.fnA f (xs.map WV.c).length=none:=by
  simp only [WEnv.fnA,hf,arFn]
  split
  · rfl
  · split<;>rfl
 have hcl:∀ l:List CV,z87 (l.map WV.c)=some l:=by
  intro l
  induction l with
  | nil=>rfl
  | cons x l ih=>simp only [List.map_cons,z87,ih]
 refine ⟨.c u,[],?_,rfl⟩
 rw [wd7,wFn,hfn]
 simp only [wExt,he,hcl,hg]
 rfl
theorem q48 {f:Nat} {xs us:List CV} {g:List CV→Option (List CV)} (hf:V.fn f=none) (he:V.ext f=some g) (hg:g xs=some us) (hn:us.length≠1):Rets V f (xs.map .c) (.tup (us.map .c)):=by
 have hfn:V.fnA f (xs.map WV.c).length=none:=by
  simp only [WEnv.fnA,hf,arFn]
  split
  · rfl
  · split<;>rfl
 have hcl:∀ l:List CV,z87 (l.map WV.c)=some l:=by
  intro l
  induction l with
  | nil=>rfl
  | cons x l ih=>simp only [List.map_cons,z87,ih]
 have ht:∀ l:List CV,qj8 (l.map WV.c)=some (l.map WV.c):=by
  intro l
  induction l with
  | nil=>rfl
  | cons x l ih=>simp only [List.map_cons,qj8,shut1,qe7,zg4,ih]
 have e:ze8 (us.map WV.c)=.tup (us.map .c):=by
  match us,hn with
  | [],_=>rfl
  | [a],hn=>exact absurd rfl hn
  | a::b::l,_=>rfl
 refine ⟨.tup (us.map .c),[],?_,?_⟩
 · rw [wd7,wFn,hfn]
   simp only [wExt,he,hcl,hg,e]
 · simp only [shut,ht,Option.map_some]
theorem zk9 {σ:Type} {live:List Nat} {body:ICode} (K:σ→List (Nat×WV)) (P:σ→z18→Prop) (μ:σ→Nat) (s0:σ) (h0:KpL live fr live (K s0)) (hP:P s0 H)
 (hb:∀ s H,P s H→WP V body (FL (K s) []) H (fun fr' H'=>∃ s',KpL live fr' live (K s')∧P s' H'∧μ s'<μ s) B R):WP V (.loop live body) fr H N B R:=by
 have key:∀ n s fr H,μ s<n→KpL live fr live (K s)→P s H→WP V (.loop live body) fr H N B R:=by
  intro n
  induction n with
  | zero=>intro s fr H h;omega
  | succ n ih=>
    intro s fr H hn hk hp
    obtain ⟨x,fr1,H1,g1,g2⟩:=hb s H hp
    have e:wC V (wv V) witW (.loop live body) fr H=match wC V (wv V) witW body (FL (K s) []) H with
     | some (.nrm,fr',H')=>wC V (wv V) witW (.loop live body) fr' H'
     | r=>r:=by
     rw [wh4,j60,qq9 hk]
     rfl
    cases x with
    | nrm=>
      obtain ⟨s',k1,k2,k3⟩:=g2
      obtain ⟨y,fr2,H2,m1,m2⟩:=ih s' fr1 H1 (by omega) k1 k2
      exact ⟨y,fr2,H2,by rw [e,g1];exact m1,m2⟩
    | exit i=>exact ⟨.exit i,fr1,H1,by rw [e,g1],g2⟩
    | goto i=>exact ⟨.goto i,fr1,H1,by rw [e,g1],g2⟩
    | ret=>exact ⟨.ret,fr1,H1,by rw [e,g1],g2⟩
 exact key (μ s0+1) s0 fr H (by omega) h0 hP
end
section
variable {fr:WFr} {H:z18}
theorem qj3 {r1 r2:IRes} {u v:CV} {r:WV} (h1:ShI fr r1 u) (h2:ShI fr r2 v) (hd:([r1,r2].map IRes.at).Nodup) (e:r=.tup [.c u,.c v]):fin [r1,r2] r fr H:=by
 subst e
 exact qh8 hd (.cons h1 (.cons h2 .nil))
theorem jv5 {r1 r2 r3:IRes} {u v w:CV} {r:WV} (h1:ShI fr r1 u) (h2:ShI fr r2 v) (h3:ShI fr r3 w) (hd:([r1,r2,r3].map IRes.at).Nodup) (e:r=.tup [.c u,.c v,.c w]):fin [r1,r2,r3] r fr H:=by
 subst e
 exact qh8 hd (.cons h1 (.cons h2 (.cons h3 .nil)))
end
end Go.Proofs.Lz
namespace Go.Proofs
open Go.Shelf
def Tryz.rLays_n240:Go.Shelf.Ren:=⟨fun | 240=>78 | 276=>100 | n=>n,fun | 70=>61 | 72=>63 | 164=>99 | 37=>31 | n=>n,fun | n=>n⟩
theorem Tryz.lLays_n240:Lays.n240 Tryz.prog Tryz.rLays_n240:={
 mixed:=by kernel_rfl
 f240:=Tryz.func78.trans (congrArg some (by kernel_rfl))
 f276:=Tryz.func100.trans (congrArg some (by kernel_rfl))
 t0:=Tryz.underlying0
 a0:=Tryz.isAgg0
 z0:=Tryz.sizeOf0
 v0:=Tryz.zeroValue0
 t4:=Tryz.underlying4
 a4:=Tryz.isAgg4
 z4:=Tryz.sizeOf4
 v4:=Tryz.zeroValue4
 t9:=Tryz.underlying9
 a9:=Tryz.isAgg9
 z9:=Tryz.sizeOf9
 v9:=Tryz.zeroValue9
 t20:=Tryz.underlying20
 a20:=Tryz.isAgg20
 z20:=Tryz.sizeOf20
 v20:=Tryz.zeroValue20
 t70:=Tryz.underlying61
 a70:=Tryz.isAgg61
 z70:=Tryz.sizeOf61
 v70:=Tryz.zeroValue61
 t72:=Tryz.underlying63
 a72:=Tryz.isAgg63
 z72:=Tryz.sizeOf63
 v72:=Tryz.zeroValue63
 t164:=Tryz.underlying99
 a164:=Tryz.isAgg99
 z164:=Tryz.sizeOf99
 v164:=Tryz.zeroValue99 }
def Tryz.rLays_n169:Go.Shelf.Ren:=⟨fun | 169=>46 | n=>n,fun | 70=>61 | 9=>9 | 0=>0 | 72=>63 | 37=>31 | 127=>90 | 3=>3 | 5=>5 | n=>n,fun | n=>n⟩
theorem Tryz.lLays_n169:Lays.n169 Tryz.prog Tryz.rLays_n169:={
 mixed:=by kernel_rfl
 f169:=Tryz.func46.trans (congrArg some (by kernel_rfl))
 t0:=Tryz.underlying0
 a0:=Tryz.isAgg0
 z0:=Tryz.sizeOf0
 v0:=Tryz.zeroValue0
 t3:=Tryz.underlying3
 a3:=Tryz.isAgg3
 z3:=Tryz.sizeOf3
 v3:=Tryz.zeroValue3
 t9:=Tryz.underlying9
 a9:=Tryz.isAgg9
 z9:=Tryz.sizeOf9
 v9:=Tryz.zeroValue9
 t37:=Tryz.underlying31
 a37:=Tryz.isAgg31
 z37:=Tryz.sizeOf31
 v37:=Tryz.zeroValue31
 t70:=Tryz.underlying61
 a70:=Tryz.isAgg61
 z70:=Tryz.sizeOf61
 v70:=Tryz.zeroValue61
 t72:=Tryz.underlying63
 a72:=Tryz.isAgg63
 z72:=Tryz.sizeOf63
 v72:=Tryz.zeroValue63
 t127:=Tryz.underlying90
 a127:=Tryz.isAgg90
 z127:=Tryz.sizeOf90
 v127:=Tryz.zeroValue90 }
def Tryz.rLays_n99:Go.Shelf.Ren:=⟨fun | 99=>54 | 206=>85 | n=>n,fun | 9=>9 | 4=>4 | 3=>3 | n=>n,fun | n=>n⟩
theorem Tryz.lLays_n99:Lays.n99 Tryz.prog Tryz.rLays_n99:={
 mixed:=by kernel_rfl
 f99:=Tryz.func54.trans (congrArg some (by kernel_rfl))
 f206:=Tryz.func85.trans (congrArg some (by kernel_rfl))
 t3:=Tryz.underlying3
 a3:=Tryz.isAgg3
 z3:=Tryz.sizeOf3
 v3:=Tryz.zeroValue3
 t4:=Tryz.underlying4
 a4:=Tryz.isAgg4
 z4:=Tryz.sizeOf4
 v4:=Tryz.zeroValue4
 t9:=Tryz.underlying9
 a9:=Tryz.isAgg9
 z9:=Tryz.sizeOf9
 v9:=Tryz.zeroValue9 }
def Tryz.rLays_n160:Go.Shelf.Ren:=⟨fun | 160=>84 | 232=>108 | 231=>107 | 227=>109 | 234=>111 | 233=>110 | 236=>113 | 235=>112 | 228=>132 | 271=>135 | 151=>134 | 197=>133 | 120=>154 | 152=>153 | 260=>152 | 137=>35 | 119=>169 | 224=>141 | 225=>140 | 217=>61 | 266=>93 | n=>n,fun | 9=>9 | 4=>4 | 3=>3 | 5=>5 | 117=>110 | 116=>109 | 0=>0 | 124=>113 | 21=>21 | 105=>118 | 46=>87 | 119=>143 | 139=>146 | 138=>145 | n=>n,fun | 3=>2 | 4=>3 | n=>n⟩
theorem Tryz.lLays_n160:Lays.n160 Tryz.prog Tryz.rLays_n160:={
 mixed:=by kernel_rfl
 f119:=Tryz.func169.trans (congrArg some (by kernel_rfl))
 f120:=Tryz.func154.trans (congrArg some (by kernel_rfl))
 f137:=Tryz.func35.trans (congrArg some (by kernel_rfl))
 f151:=Tryz.func134.trans (congrArg some (by kernel_rfl))
 f152:=Tryz.func153.trans (congrArg some (by kernel_rfl))
 f160:=Tryz.func84.trans (congrArg some (by kernel_rfl))
 f197:=Tryz.func133.trans (congrArg some (by kernel_rfl))
 f217:=Tryz.func61.trans (congrArg some (by kernel_rfl))
 f224:=Tryz.func141.trans (congrArg some (by kernel_rfl))
 f225:=Tryz.func140.trans (congrArg some (by kernel_rfl))
 f227:=Tryz.func109.trans (congrArg some (by kernel_rfl))
 f228:=Tryz.func132.trans (congrArg some (by kernel_rfl))
 f231:=Tryz.func107.trans (congrArg some (by kernel_rfl))
 f232:=Tryz.func108.trans (congrArg some (by kernel_rfl))
 f233:=Tryz.func110.trans (congrArg some (by kernel_rfl))
 f234:=Tryz.func111.trans (congrArg some (by kernel_rfl))
 f235:=Tryz.func112.trans (congrArg some (by kernel_rfl))
 f236:=Tryz.func113.trans (congrArg some (by kernel_rfl))
 f260:=Tryz.func152.trans (congrArg some (by kernel_rfl))
 f266:=Tryz.func93.trans (congrArg some (by kernel_rfl))
 f271:=Tryz.func135.trans (congrArg some (by kernel_rfl))
 t0:=Tryz.underlying0
 a0:=Tryz.isAgg0
 z0:=Tryz.sizeOf0
 v0:=Tryz.zeroValue0
 t3:=Tryz.underlying3
 a3:=Tryz.isAgg3
 z3:=Tryz.sizeOf3
 v3:=Tryz.zeroValue3
 t4:=Tryz.underlying4
 a4:=Tryz.isAgg4
 z4:=Tryz.sizeOf4
 v4:=Tryz.zeroValue4
 t5:=Tryz.underlying5
 a5:=Tryz.isAgg5
 z5:=Tryz.sizeOf5
 v5:=Tryz.zeroValue5
 t9:=Tryz.underlying9
 a9:=Tryz.isAgg9
 z9:=Tryz.sizeOf9
 v9:=Tryz.zeroValue9
 t21:=Tryz.underlying21
 a21:=Tryz.isAgg21
 z21:=Tryz.sizeOf21
 v21:=Tryz.zeroValue21
 t46:=Tryz.underlying87
 a46:=Tryz.isAgg87
 z46:=Tryz.sizeOf87
 v46:=Tryz.zeroValue87
 t105:=Tryz.underlying118
 a105:=Tryz.isAgg118
 z105:=Tryz.sizeOf118
 v105:=Tryz.zeroValue118
 t116:=Tryz.underlying109
 a116:=Tryz.isAgg109
 z116:=Tryz.sizeOf109
 t117:=Tryz.underlying110
 a117:=Tryz.isAgg110
 z117:=Tryz.sizeOf110
 v117:=Tryz.zeroValue110
 t119:=Tryz.underlying143
 a119:=Tryz.isAgg143
 z119:=Tryz.sizeOf143
 t124:=Tryz.underlying113
 a124:=Tryz.isAgg113
 z124:=Tryz.sizeOf113
 v124:=Tryz.zeroValue113
 t138:=Tryz.underlying145
 a138:=Tryz.isAgg145
 z138:=Tryz.sizeOf145
 v138:=Tryz.zeroValue145
 t139:=Tryz.underlying146
 a139:=Tryz.isAgg146
 z139:=Tryz.sizeOf146
 v139:=Tryz.zeroValue146
 g3:=by kernel_rfl
 g4:=by kernel_rfl }
def Tryz.rLays_n105:Go.Shelf.Ren:=⟨fun | 105=>43 | 212=>79 | 99=>54 | 165=>80 | 166=>42 | 170=>45 | 169=>46 | 263=>101 | 264=>102 | 206=>85 | 240=>78 | 241=>103 | 276=>100 | 277=>123 | n=>n,fun | 9=>9 | 3=>3 | 4=>4 | 20=>20 | 0=>0 | 46=>87 | 109=>88 | 5=>5 | 72=>63 | 76=>67 | 51=>101 | 146=>102 | 53=>104 | 148=>105 | 70=>61 | 37=>31 | 75=>65 | 127=>90 | 164=>99 | 80=>72 | n=>n,fun | n=>n⟩
theorem Tryz.lLays_n105:Lays.n105 Tryz.prog Tryz.rLays_n105:={
 mixed:=by kernel_rfl
 f99:=Tryz.func54.trans (congrArg some (by kernel_rfl))
 f105:=Tryz.func43.trans (congrArg some (by kernel_rfl))
 f165:=Tryz.func80.trans (congrArg some (by kernel_rfl))
 f166:=Tryz.func42.trans (congrArg some (by kernel_rfl))
 f169:=Tryz.func46.trans (congrArg some (by kernel_rfl))
 f170:=Tryz.func45.trans (congrArg some (by kernel_rfl))
 f206:=Tryz.func85.trans (congrArg some (by kernel_rfl))
 f212:=Tryz.func79.trans (congrArg some (by kernel_rfl))
 f240:=Tryz.func78.trans (congrArg some (by kernel_rfl))
 f241:=Tryz.func103.trans (congrArg some (by kernel_rfl))
 f263:=Tryz.func101.trans (congrArg some (by kernel_rfl))
 f264:=Tryz.func102.trans (congrArg some (by kernel_rfl))
 f276:=Tryz.func100.trans (congrArg some (by kernel_rfl))
 f277:=Tryz.func123.trans (congrArg some (by kernel_rfl))
 t0:=Tryz.underlying0
 a0:=Tryz.isAgg0
 z0:=Tryz.sizeOf0
 v0:=Tryz.zeroValue0
 t3:=Tryz.underlying3
 a3:=Tryz.isAgg3
 z3:=Tryz.sizeOf3
 v3:=Tryz.zeroValue3
 t4:=Tryz.underlying4
 a4:=Tryz.isAgg4
 z4:=Tryz.sizeOf4
 v4:=Tryz.zeroValue4
 t5:=Tryz.underlying5
 a5:=Tryz.isAgg5
 z5:=Tryz.sizeOf5
 v5:=Tryz.zeroValue5
 t9:=Tryz.underlying9
 a9:=Tryz.isAgg9
 z9:=Tryz.sizeOf9
 v9:=Tryz.zeroValue9
 t20:=Tryz.underlying20
 a20:=Tryz.isAgg20
 z20:=Tryz.sizeOf20
 v20:=Tryz.zeroValue20
 t37:=Tryz.underlying31
 a37:=Tryz.isAgg31
 z37:=Tryz.sizeOf31
 v37:=Tryz.zeroValue31
 t46:=Tryz.underlying87
 a46:=Tryz.isAgg87
 z46:=Tryz.sizeOf87
 v46:=Tryz.zeroValue87
 t51:=Tryz.underlying101
 a51:=Tryz.isAgg101
 z51:=Tryz.sizeOf101
 v51:=Tryz.zeroValue101
 t53:=Tryz.underlying104
 a53:=Tryz.isAgg104
 z53:=Tryz.sizeOf104
 v53:=Tryz.zeroValue104
 t70:=Tryz.underlying61
 a70:=Tryz.isAgg61
 z70:=Tryz.sizeOf61
 v70:=Tryz.zeroValue61
 t72:=Tryz.underlying63
 a72:=Tryz.isAgg63
 z72:=Tryz.sizeOf63
 v72:=Tryz.zeroValue63
 t75:=Tryz.underlying65
 a75:=Tryz.isAgg65
 z75:=Tryz.sizeOf65
 v75:=Tryz.zeroValue65
 t76:=Tryz.underlying67
 a76:=Tryz.isAgg67
 z76:=Tryz.sizeOf67
 v76:=Tryz.zeroValue67
 t109:=Tryz.underlying88
 a109:=Tryz.isAgg88
 z109:=Tryz.sizeOf88
 v109:=Tryz.zeroValue88
 t127:=Tryz.underlying90
 a127:=Tryz.isAgg90
 z127:=Tryz.sizeOf90
 v127:=Tryz.zeroValue90
 t146:=Tryz.underlying102
 a146:=Tryz.isAgg102
 z146:=Tryz.sizeOf102
 v146:=Tryz.zeroValue102
 t148:=Tryz.underlying105
 a148:=Tryz.isAgg105
 z148:=Tryz.sizeOf105
 v148:=Tryz.zeroValue105
 t164:=Tryz.underlying99
 a164:=Tryz.isAgg99
 z164:=Tryz.sizeOf99
 v164:=Tryz.zeroValue99 }
def Tryz.rLays_n149:Go.Shelf.Ren:=⟨fun | 149=>117 | 222=>136 | n=>n,fun | 9=>9 | 5=>5 | 3=>3 | 4=>4 | n=>n,fun | n=>n⟩
theorem Tryz.lLays_n149:Lays.n149 Tryz.prog Tryz.rLays_n149:={
 mixed:=by kernel_rfl
 f149:=Tryz.func117.trans (congrArg some (by kernel_rfl))
 f222:=Tryz.func136.trans (congrArg some (by kernel_rfl))
 t3:=Tryz.underlying3
 a3:=Tryz.isAgg3
 z3:=Tryz.sizeOf3
 v3:=Tryz.zeroValue3
 t4:=Tryz.underlying4
 a4:=Tryz.isAgg4
 z4:=Tryz.sizeOf4
 v4:=Tryz.zeroValue4
 t5:=Tryz.underlying5
 a5:=Tryz.isAgg5
 z5:=Tryz.sizeOf5
 v5:=Tryz.zeroValue5
 t9:=Tryz.underlying9
 a9:=Tryz.isAgg9
 z9:=Tryz.sizeOf9
 v9:=Tryz.zeroValue9 }
def Tryz.rLays_n137:Go.Shelf.Ren:=⟨fun | 137=>35 | 217=>61 | 266=>93 | n=>n,fun | 9=>9 | 5=>5 | 3=>3 | n=>n,fun | n=>n⟩
theorem Tryz.lLays_n137:Lays.n137 Tryz.prog Tryz.rLays_n137:={
 mixed:=by kernel_rfl
 f137:=Tryz.func35.trans (congrArg some (by kernel_rfl))
 f217:=Tryz.func61.trans (congrArg some (by kernel_rfl))
 f266:=Tryz.func93.trans (congrArg some (by kernel_rfl))
 t3:=Tryz.underlying3
 a3:=Tryz.isAgg3
 z3:=Tryz.sizeOf3
 v3:=Tryz.zeroValue3
 t5:=Tryz.underlying5
 a5:=Tryz.isAgg5
 z5:=Tryz.sizeOf5
 v5:=Tryz.zeroValue5
 t9:=Tryz.underlying9
 a9:=Tryz.isAgg9
 z9:=Tryz.sizeOf9
 v9:=Tryz.zeroValue9 }
def Tryz.rLaysC_n172:Go.Shelf.Ren:=⟨fun | 172=>118 | 244=>137 | 245=>138 | 247=>155 | 279=>156 | 280=>157 | 281=>158 | 282=>159 | 287=>170 | 316=>171 | 171=>81 | 205=>172 | 321=>177 | 322=>178 | 243=>104 | 246=>124 | 283=>143 | 284=>144 | 285=>145 | 286=>146 | 129=>164 | 317=>163 | 318=>165 | 319=>166 | 320=>167 | 337=>175 | 338=>176 | n=>n,fun | 9=>9 | 3=>3 | 75=>65 | 76=>67 | 4=>4 | 5=>5 | 167=>131 | 37=>31 | 0=>0 | 85=>132 | 2=>2 | 168=>134 | 53=>104 | 175=>148 | 46=>87 | 210=>151 | 127=>90 | 145=>158 | 143=>156 | 21=>21 | 171=>123 | 173=>126 | 212=>139 | 51=>101 | 20=>20 | 213=>140 | 232=>159 | 233=>160 | 80=>72 | n=>n,fun | 15=>4 | 16=>5 | 17=>1 | 18=>6 | 19=>7 | n=>n⟩
theorem Tryz.lLaysC_n172:LaysC.n172 Tryz.prog Tryz.rLaysC_n172:={
 mixed:=by kernel_rfl
 f129:=Tryz.func164.trans (congrArg some (by kernel_rfl))
 f171:=Tryz.func81.trans (congrArg some (by kernel_rfl))
 f172:=Tryz.func118.trans (congrArg some (by kernel_rfl))
 f205:=Tryz.func172.trans (congrArg some (by kernel_rfl))
 f243:=Tryz.func104.trans (congrArg some (by kernel_rfl))
 f244:=Tryz.func137.trans (congrArg some (by kernel_rfl))
 f245:=Tryz.func138.trans (congrArg some (by kernel_rfl))
 f246:=Tryz.func124.trans (congrArg some (by kernel_rfl))
 f247:=Tryz.func155.trans (congrArg some (by kernel_rfl))
 f279:=Tryz.func156.trans (congrArg some (by kernel_rfl))
 f280:=Tryz.func157.trans (congrArg some (by kernel_rfl))
 f281:=Tryz.func158.trans (congrArg some (by kernel_rfl))
 f282:=Tryz.func159.trans (congrArg some (by kernel_rfl))
 f283:=Tryz.func143.trans (congrArg some (by kernel_rfl))
 f284:=Tryz.func144.trans (congrArg some (by kernel_rfl))
 f285:=Tryz.func145.trans (congrArg some (by kernel_rfl))
 f286:=Tryz.func146.trans (congrArg some (by kernel_rfl))
 f287:=Tryz.func170.trans (congrArg some (by kernel_rfl))
 f316:=Tryz.func171.trans (congrArg some (by kernel_rfl))
 f317:=Tryz.func163.trans (congrArg some (by kernel_rfl))
 f318:=Tryz.func165.trans (congrArg some (by kernel_rfl))
 f319:=Tryz.func166.trans (congrArg some (by kernel_rfl))
 f320:=Tryz.func167.trans (congrArg some (by kernel_rfl))
 f321:=Tryz.func177.trans (congrArg some (by kernel_rfl))
 f322:=Tryz.func178.trans (congrArg some (by kernel_rfl))
 f337:=Tryz.func175.trans (congrArg some (by kernel_rfl))
 f338:=Tryz.func176.trans (congrArg some (by kernel_rfl))
 t0:=Tryz.underlying0
 a0:=Tryz.isAgg0
 z0:=Tryz.sizeOf0
 v0:=Tryz.zeroValue0
 t2:=Tryz.underlying2
 a2:=Tryz.isAgg2
 z2:=Tryz.sizeOf2
 v2:=Tryz.zeroValue2
 t3:=Tryz.underlying3
 a3:=Tryz.isAgg3
 z3:=Tryz.sizeOf3
 v3:=Tryz.zeroValue3
 t4:=Tryz.underlying4
 a4:=Tryz.isAgg4
 z4:=Tryz.sizeOf4
 v4:=Tryz.zeroValue4
 t5:=Tryz.underlying5
 a5:=Tryz.isAgg5
 z5:=Tryz.sizeOf5
 v5:=Tryz.zeroValue5
 t9:=Tryz.underlying9
 a9:=Tryz.isAgg9
 z9:=Tryz.sizeOf9
 v9:=Tryz.zeroValue9
 t20:=Tryz.underlying20
 a20:=Tryz.isAgg20
 z20:=Tryz.sizeOf20
 v20:=Tryz.zeroValue20
 t21:=Tryz.underlying21
 a21:=Tryz.isAgg21
 z21:=Tryz.sizeOf21
 v21:=Tryz.zeroValue21
 t37:=Tryz.underlying31
 a37:=Tryz.isAgg31
 z37:=Tryz.sizeOf31
 v37:=Tryz.zeroValue31
 t46:=Tryz.underlying87
 a46:=Tryz.isAgg87
 z46:=Tryz.sizeOf87
 v46:=Tryz.zeroValue87
 t51:=Tryz.underlying101
 a51:=Tryz.isAgg101
 z51:=Tryz.sizeOf101
 v51:=Tryz.zeroValue101
 t53:=Tryz.underlying104
 a53:=Tryz.isAgg104
 z53:=Tryz.sizeOf104
 v53:=Tryz.zeroValue104
 t75:=Tryz.underlying65
 a75:=Tryz.isAgg65
 z75:=Tryz.sizeOf65
 v75:=Tryz.zeroValue65
 t76:=Tryz.underlying67
 a76:=Tryz.isAgg67
 z76:=Tryz.sizeOf67
 v76:=Tryz.zeroValue67
 t85:=Tryz.underlying132
 a85:=Tryz.isAgg132
 z85:=Tryz.sizeOf132
 v85:=Tryz.zeroValue132
 t127:=Tryz.underlying90
 a127:=Tryz.isAgg90
 z127:=Tryz.sizeOf90
 v127:=Tryz.zeroValue90
 t143:=Tryz.underlying156
 a143:=Tryz.isAgg156
 z143:=Tryz.sizeOf156
 v143:=Tryz.zeroValue156
 t145:=Tryz.underlying158
 a145:=Tryz.isAgg158
 z145:=Tryz.sizeOf158
 v145:=Tryz.zeroValue158
 t167:=Tryz.underlying131
 a167:=Tryz.isAgg131
 z167:=Tryz.sizeOf131
 v167:=Tryz.zeroValue131
 t168:=Tryz.underlying134
 a168:=Tryz.isAgg134
 z168:=Tryz.sizeOf134
 v168:=Tryz.zeroValue134
 t171:=Tryz.underlying123
 a171:=Tryz.isAgg123
 z171:=Tryz.sizeOf123
 v171:=Tryz.zeroValue123
 t173:=Tryz.underlying126
 a173:=Tryz.isAgg126
 z173:=Tryz.sizeOf126
 v173:=Tryz.zeroValue126
 t175:=Tryz.underlying148
 a175:=Tryz.isAgg148
 z175:=Tryz.sizeOf148
 v175:=Tryz.zeroValue148
 t210:=Tryz.underlying151
 a210:=Tryz.isAgg151
 z210:=Tryz.sizeOf151
 v210:=Tryz.zeroValue151
 t212:=Tryz.underlying139
 a212:=Tryz.isAgg139
 z212:=Tryz.sizeOf139
 v212:=Tryz.zeroValue139
 t213:=Tryz.underlying140
 a213:=Tryz.isAgg140
 z213:=Tryz.sizeOf140
 t232:=Tryz.underlying159
 a232:=Tryz.isAgg159
 z232:=Tryz.sizeOf159
 v232:=Tryz.zeroValue159
 t233:=Tryz.underlying160
 a233:=Tryz.isAgg160
 z233:=Tryz.sizeOf160
 v233:=Tryz.zeroValue160
 g15:=by kernel_rfl
 g16:=by kernel_rfl
 g17:=by kernel_rfl
 g18:=by kernel_rfl
 g19:=by kernel_rfl
 t80:=Tryz.underlying72
 a80:=Tryz.isAgg72
 z80:=Tryz.sizeOf72
 v80:=Tryz.zeroValue72
 i0:=by kernel_rfl
 i2:=by kernel_rfl
 i3:=by kernel_rfl
 i4:=by kernel_rfl
 i5:=by kernel_rfl
 i9:=by kernel_rfl
 i20:=by kernel_rfl
 i21:=by kernel_rfl
 i37:=by kernel_rfl
 i46:=by kernel_rfl
 i51:=by kernel_rfl
 i53:=by kernel_rfl
 i75:=by kernel_rfl
 i76:=by kernel_rfl
 i80:=by kernel_rfl
 i85:=by kernel_rfl
 i127:=by kernel_rfl
 i143:=by kernel_rfl
 i145:=by kernel_rfl
 i167:=by kernel_rfl
 i168:=by kernel_rfl
 i171:=by kernel_rfl
 i173:=by kernel_rfl
 i175:=by kernel_rfl
 i210:=by kernel_rfl
 i212:=by kernel_rfl
 i232:=by kernel_rfl
 i233:=by kernel_rfl
 m15:=by kernel_rfl
 m16:=by kernel_rfl
 m17:=by kernel_rfl
 m18:=by kernel_rfl
 m19:=by kernel_rfl
 c0:=by kernel_rfl
 c2:=by kernel_rfl
 c3:=by kernel_rfl
 c4:=by kernel_rfl
 c5:=by kernel_rfl
 c9:=by kernel_rfl
 c20:=by kernel_rfl
 c21:=by kernel_rfl
 c37:=by kernel_rfl
 c46:=by kernel_rfl
 c51:=by kernel_rfl
 c53:=by kernel_rfl
 c75:=by kernel_rfl
 c76:=by kernel_rfl
 c80:=by kernel_rfl
 c85:=by kernel_rfl
 c127:=by kernel_rfl
 c143:=by kernel_rfl
 c145:=by kernel_rfl
 c167:=by kernel_rfl
 c168:=by kernel_rfl
 c171:=by kernel_rfl
 c173:=by kernel_rfl
 c175:=by kernel_rfl
 c210:=by kernel_rfl
 c212:=by kernel_rfl
 c213:=by kernel_rfl
 c232:=by kernel_rfl
 c233:=by kernel_rfl }
def Tryz.rLaysM_n171:Go.Shelf.Ren:=⟨fun | 171=>81 | 243=>104 | 246=>124 | 283=>143 | 284=>144 | 285=>145 | 286=>146 | 129=>164 | 317=>163 | 318=>165 | 319=>166 | 320=>167 | 337=>175 | 338=>176 | n=>n,fun | 3=>3 | 9=>9 | 2=>2 | 4=>4 | 171=>123 | 0=>0 | 53=>104 | 37=>31 | 5=>5 | 173=>126 | 212=>139 | 51=>101 | 20=>20 | 213=>140 | 46=>87 | 232=>159 | 233=>160 | n=>n,fun | 17=>1 | 18=>6 | 19=>7 | n=>n⟩
theorem Tryz.lLaysM_n171:LaysM.n171 Tryz.prog Tryz.rLaysM_n171:={
 mixed:=by kernel_rfl
 f129:=Tryz.func164.trans (congrArg some (by kernel_rfl))
 f171:=Tryz.func81.trans (congrArg some (by kernel_rfl))
 f243:=Tryz.func104.trans (congrArg some (by kernel_rfl))
 f246:=Tryz.func124.trans (congrArg some (by kernel_rfl))
 f283:=Tryz.func143.trans (congrArg some (by kernel_rfl))
 f284:=Tryz.func144.trans (congrArg some (by kernel_rfl))
 f285:=Tryz.func145.trans (congrArg some (by kernel_rfl))
 f286:=Tryz.func146.trans (congrArg some (by kernel_rfl))
 f317:=Tryz.func163.trans (congrArg some (by kernel_rfl))
 f318:=Tryz.func165.trans (congrArg some (by kernel_rfl))
 f319:=Tryz.func166.trans (congrArg some (by kernel_rfl))
 f320:=Tryz.func167.trans (congrArg some (by kernel_rfl))
 f337:=Tryz.func175.trans (congrArg some (by kernel_rfl))
 f338:=Tryz.func176.trans (congrArg some (by kernel_rfl))
 t0:=Tryz.underlying0
 a0:=Tryz.isAgg0
 z0:=Tryz.sizeOf0
 v0:=Tryz.zeroValue0
 t2:=Tryz.underlying2
 a2:=Tryz.isAgg2
 z2:=Tryz.sizeOf2
 v2:=Tryz.zeroValue2
 t3:=Tryz.underlying3
 a3:=Tryz.isAgg3
 z3:=Tryz.sizeOf3
 v3:=Tryz.zeroValue3
 t4:=Tryz.underlying4
 a4:=Tryz.isAgg4
 z4:=Tryz.sizeOf4
 v4:=Tryz.zeroValue4
 t5:=Tryz.underlying5
 a5:=Tryz.isAgg5
 z5:=Tryz.sizeOf5
 v5:=Tryz.zeroValue5
 t9:=Tryz.underlying9
 a9:=Tryz.isAgg9
 z9:=Tryz.sizeOf9
 v9:=Tryz.zeroValue9
 t20:=Tryz.underlying20
 a20:=Tryz.isAgg20
 z20:=Tryz.sizeOf20
 v20:=Tryz.zeroValue20
 t37:=Tryz.underlying31
 a37:=Tryz.isAgg31
 z37:=Tryz.sizeOf31
 v37:=Tryz.zeroValue31
 t46:=Tryz.underlying87
 a46:=Tryz.isAgg87
 z46:=Tryz.sizeOf87
 v46:=Tryz.zeroValue87
 t51:=Tryz.underlying101
 a51:=Tryz.isAgg101
 z51:=Tryz.sizeOf101
 v51:=Tryz.zeroValue101
 t53:=Tryz.underlying104
 a53:=Tryz.isAgg104
 z53:=Tryz.sizeOf104
 v53:=Tryz.zeroValue104
 t171:=Tryz.underlying123
 a171:=Tryz.isAgg123
 z171:=Tryz.sizeOf123
 v171:=Tryz.zeroValue123
 t173:=Tryz.underlying126
 a173:=Tryz.isAgg126
 z173:=Tryz.sizeOf126
 v173:=Tryz.zeroValue126
 t212:=Tryz.underlying139
 a212:=Tryz.isAgg139
 z212:=Tryz.sizeOf139
 v212:=Tryz.zeroValue139
 t213:=Tryz.underlying140
 a213:=Tryz.isAgg140
 z213:=Tryz.sizeOf140
 t232:=Tryz.underlying159
 a232:=Tryz.isAgg159
 z232:=Tryz.sizeOf159
 v232:=Tryz.zeroValue159
 t233:=Tryz.underlying160
 a233:=Tryz.isAgg160
 z233:=Tryz.sizeOf160
 v233:=Tryz.zeroValue160
 g17:=by kernel_rfl
 g18:=by kernel_rfl
 g19:=by kernel_rfl
 i0:=by kernel_rfl
 i2:=by kernel_rfl
 i3:=by kernel_rfl
 i4:=by kernel_rfl
 i5:=by kernel_rfl
 i9:=by kernel_rfl
 i20:=by kernel_rfl
 i37:=by kernel_rfl
 i46:=by kernel_rfl
 i51:=by kernel_rfl
 i53:=by kernel_rfl
 i171:=by kernel_rfl
 i173:=by kernel_rfl
 i212:=by kernel_rfl
 i232:=by kernel_rfl
 i233:=by kernel_rfl
 m17:=by kernel_rfl
 m18:=by kernel_rfl
 m19:=by kernel_rfl }
def Tryz.rLaysM_n144:Go.Shelf.Ren:=⟨fun | 144=>77 | 143=>99 | 219=>122 | 217=>61 | 225=>140 | 224=>141 | 267=>142 | 266=>93 | 314=>162 | n=>n,fun | 9=>9 | 4=>4 | 3=>3 | 5=>5 | 46=>87 | 146=>102 | 51=>101 | n=>n,fun | 1=>0 | n=>n⟩
theorem Tryz.lLaysM_n144:LaysM.n144 Tryz.prog Tryz.rLaysM_n144:={
 mixed:=by kernel_rfl
 f143:=Tryz.func99.trans (congrArg some (by kernel_rfl))
 f144:=Tryz.func77.trans (congrArg some (by kernel_rfl))
 f217:=Tryz.func61.trans (congrArg some (by kernel_rfl))
 f219:=Tryz.func122.trans (congrArg some (by kernel_rfl))
 f224:=Tryz.func141.trans (congrArg some (by kernel_rfl))
 f225:=Tryz.func140.trans (congrArg some (by kernel_rfl))
 f266:=Tryz.func93.trans (congrArg some (by kernel_rfl))
 f267:=Tryz.func142.trans (congrArg some (by kernel_rfl))
 f314:=Tryz.func162.trans (congrArg some (by kernel_rfl))
 t3:=Tryz.underlying3
 a3:=Tryz.isAgg3
 z3:=Tryz.sizeOf3
 v3:=Tryz.zeroValue3
 t4:=Tryz.underlying4
 a4:=Tryz.isAgg4
 z4:=Tryz.sizeOf4
 v4:=Tryz.zeroValue4
 t5:=Tryz.underlying5
 a5:=Tryz.isAgg5
 z5:=Tryz.sizeOf5
 v5:=Tryz.zeroValue5
 t9:=Tryz.underlying9
 a9:=Tryz.isAgg9
 z9:=Tryz.sizeOf9
 v9:=Tryz.zeroValue9
 t46:=Tryz.underlying87
 a46:=Tryz.isAgg87
 z46:=Tryz.sizeOf87
 v46:=Tryz.zeroValue87
 t51:=Tryz.underlying101
 a51:=Tryz.isAgg101
 z51:=Tryz.sizeOf101
 v51:=Tryz.zeroValue101
 t146:=Tryz.underlying102
 a146:=Tryz.isAgg102
 z146:=Tryz.sizeOf102
 v146:=Tryz.zeroValue102
 g1:=by kernel_rfl
 i3:=by kernel_rfl
 i4:=by kernel_rfl
 i5:=by kernel_rfl
 i9:=by kernel_rfl
 i46:=by kernel_rfl
 i51:=by kernel_rfl
 i146:=by kernel_rfl
 m1:=by kernel_rfl
 s1_3:=fun w h=>Go.Proofs.cell_of_shapedOpen_int (zero:=#[.int .i64 0]) (t:=3) h (of_decide_eq_true (by kernel_rfl)) (by kernel_rfl) rfl (by kernel_rfl) (by kernel_rfl) Tryz.underlying3 }
def Tryz.rLaysM_n145:Go.Shelf.Ren:=⟨fun | 145=>173 | 220=>179 | 219=>122 | 217=>61 | 225=>140 | 224=>141 | 267=>142 | 266=>93 | 314=>162 | n=>n,fun | 9=>9 | 4=>4 | 59=>128 | 3=>3 | 5=>5 | 46=>87 | 146=>102 | 51=>101 | n=>n,fun | 1=>0 | n=>n⟩
theorem Tryz.lLaysM_n145:LaysM.n145 Tryz.prog Tryz.rLaysM_n145:={
 mixed:=by kernel_rfl
 f145:=Tryz.func173.trans (congrArg some (by kernel_rfl))
 f217:=Tryz.func61.trans (congrArg some (by kernel_rfl))
 f219:=Tryz.func122.trans (congrArg some (by kernel_rfl))
 f220:=Tryz.func179.trans (congrArg some (by kernel_rfl))
 f224:=Tryz.func141.trans (congrArg some (by kernel_rfl))
 f225:=Tryz.func140.trans (congrArg some (by kernel_rfl))
 f266:=Tryz.func93.trans (congrArg some (by kernel_rfl))
 f267:=Tryz.func142.trans (congrArg some (by kernel_rfl))
 f314:=Tryz.func162.trans (congrArg some (by kernel_rfl))
 t3:=Tryz.underlying3
 a3:=Tryz.isAgg3
 z3:=Tryz.sizeOf3
 v3:=Tryz.zeroValue3
 t4:=Tryz.underlying4
 a4:=Tryz.isAgg4
 z4:=Tryz.sizeOf4
 v4:=Tryz.zeroValue4
 t5:=Tryz.underlying5
 a5:=Tryz.isAgg5
 z5:=Tryz.sizeOf5
 v5:=Tryz.zeroValue5
 t9:=Tryz.underlying9
 a9:=Tryz.isAgg9
 z9:=Tryz.sizeOf9
 v9:=Tryz.zeroValue9
 t46:=Tryz.underlying87
 a46:=Tryz.isAgg87
 z46:=Tryz.sizeOf87
 v46:=Tryz.zeroValue87
 t51:=Tryz.underlying101
 a51:=Tryz.isAgg101
 z51:=Tryz.sizeOf101
 v51:=Tryz.zeroValue101
 t59:=Tryz.underlying128
 a59:=Tryz.isAgg128
 z59:=Tryz.sizeOf128
 v59:=Tryz.zeroValue128
 t146:=Tryz.underlying102
 a146:=Tryz.isAgg102
 z146:=Tryz.sizeOf102
 v146:=Tryz.zeroValue102
 g1:=by kernel_rfl
 i3:=by kernel_rfl
 i4:=by kernel_rfl
 i5:=by kernel_rfl
 i9:=by kernel_rfl
 i46:=by kernel_rfl
 i51:=by kernel_rfl
 i59:=by kernel_rfl
 i146:=by kernel_rfl
 m1:=by kernel_rfl
 s1_3:=fun w h=>Go.Proofs.cell_of_shapedOpen_int (zero:=#[.int .i64 0]) (t:=3) h (of_decide_eq_true (by kernel_rfl)) (by kernel_rfl) rfl (by kernel_rfl) (by kernel_rfl) Tryz.underlying3 }
end Go.Proofs
