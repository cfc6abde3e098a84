/- The calculus: operations on closed values, on slices of one's own, on local boxes; calls; results. -/
import Derived.Test.YtencoceemejcnaaGreatDoorLzVc
set_option linter.unusedSimpArgs false
set_option linter.unusedVariables false
namespace Go.Proofs.Lz
section
variable {V:WEnv} {fr fr':WFr} {H H':z18} {N:Post} {B:Hs} {R:RP} {dst:Option Nat} {d:Nat}
def hitM (K:Pl→Bool) (fz:Bool):List (Nat×WV)→List (Nat×WV)
 | []=>[]
 | (s,v)::r=>(s,hit K fz (Pl.sl s) v)::hitM K fz r
theorem jp8 (K:Pl→Bool) (fz:Bool):∀ l,frl (hitM K fz l)=fun s=>hit K fz (Pl.sl s) (frl l s):=by
 intro l
 induction l with
 | nil=>rfl
 | cons p r ih=>
   obtain ⟨t,v⟩:=p
   funext s
   show (bif Nat.beq s t then hit K fz (Pl.sl t) v else frl (hitM K fz r) s)=hit K fz (Pl.sl s) (bif Nat.beq s t then v else frl r s)
   rw [zv6,zv6,ih]
   by_cases hs:s=t
   · subst hs;simp only [if_true]
   · simp only [if_neg hs]
theorem q22 (K:Pl→Bool) (fz:Bool) (l:List (Nat×WV)) (a:List (Nat×Option (Nat×Nat))):hitF K fz (FL l a)=FL (hitM K fz l) a:=by
 unfold hitF FL
 rw [jp8]
def zl9 (b:Nat):WV→Bool
 | .view p _ _ _ _ _=>!ze0 b p
 | .eptr p _ _ _ _=>!ze0 b p
 | _=>true
def zo8 (b:Nat):WV→Bool
 | .agg cs=>cs.all (zl9 b)
 | v=>zl9 b v
def noVw (b:Nat):WV→Bool
 | .tup vs=>vs.all (zo8 b)
 | .lbox _ v=>zo8 b v
 | v=>zo8 b v
def clean (b:Nat):List (Nat×WV)→Bool
 | []=>true
 | (s,v)::r=>(Nat.beq s b||noVw b v)&&clean b r
theorem slot_ne {b s i k:Nat} (h:s≠b):ze0 b (.sl s i k)=false:=by simp [ze0,h]
section
variable {K:Pl→Bool} {b:Nat} (hK:∀ p,K p=true→ze0 b p=true)
theorem ql1 (hK:∀ p,K p=true→ze0 b p=true) {s i k:Nat} (hs:s≠b) {v:WV} (h:zl9 b v=true):hit1 K false (.sl s i k) v=v:=by
 have key:∀ p,ze0 b p=false→K p=false:=by
  intro p hp
  cases hk:K p with
  | true=>rw [hK p hk] at hp;cases hp
  | false=>rfl
 cases v with
 | own bb e ek xs=>simp only [hit1,key _ (slot_ne hs)];rfl
 | view p bb off e ek xs=>
   have:ze0 b p=false:=by simpa [zl9] using h
   simp only [hit1,key p this];rfl
 | eptr p i off ek x=>
   have:ze0 b p=false:=by simpa [zl9] using h
   simp only [hit1,key p this];rfl
 | _=>rfl
theorem jh7 (hK:∀ p,K p=true→ze0 b p=true) {s i:Nat} (hs:s≠b):∀ (k:Nat) (cs:List WV),cs.all (zl9 b)=true→hitL K false (Pl.sl s i) k cs=cs:=by
 intro k cs
 induction cs generalizing k with
 | nil=>intro _;rfl
 | cons v r ih=>
   intro h
   simp only [List.all_cons,Bool.and_eq_true] at h
   simp only [hitL,ql1 hK hs h.1,ih _ h.2]
theorem q51 (hK:∀ p,K p=true→ze0 b p=true) {s i:Nat} (hs:s≠b) {v:WV} (h:zo8 b v=true):hitC K false (Pl.sl s i) v=v:=by
 have h1:∀ w,zo8 b w=zl9 b w→hitC K false (Pl.sl s i) w=hit1 K false (Pl.sl s i 0) w→zo8 b w=true→hitC K false (Pl.sl s i) w=w:=fun w e1 e2 e3=>by rw [e2];exact ql1 hK hs (by rw [← e1];exact e3)
 cases v<;>first | exact h1 _ rfl rfl h | (simp only [hitC];rw [jh7 hK hs 0 _ h])
theorem jk3 (hK:∀ p,K p=true→ze0 b p=true) {s:Nat} (hs:s≠b):∀ (i:Nat) (vs:List WV),vs.all (zo8 b)=true→hitT K false (Pl.sl s) i vs=vs:=by
 intro i vs
 induction vs generalizing i with
 | nil=>intro _;rfl
 | cons v r ih=>
   intro h
   simp only [List.all_cons,Bool.and_eq_true] at h
   simp only [hitT,q51 hK hs h.1,ih _ h.2]
theorem jr2 (hK:∀ p,K p=true→ze0 b p=true) {s:Nat} (hs:s≠b) {v:WV} (h:noVw b v=true):hit K false (Pl.sl s) v=v:=by
 have h1:∀ w,noVw b w=zo8 b w→hit K false (Pl.sl s) w=hitC K false (Pl.sl s 0) w→noVw b w=true→hit K false (Pl.sl s) w=w:=fun w e1 e2 e3=>by rw [e2];exact q51 hK hs (by rw [← e1];exact e3)
 cases v<;>first | exact h1 _ rfl rfl h | (simp only [hit,jk3 hK hs 0 _ h];done) | (simp only [hit];rw [q51 hK hs h])
theorem jg9 {s:Nat} (hs:s≠b):∀ {l:List (Nat×WV)},clean b l=true→noVw b (frl l s)=true:=by
 intro l
 induction l with
 | nil=>intro _;rfl
 | cons p r ih=>
   obtain ⟨t,v⟩:=p
   intro h
   simp only [clean,Bool.and_eq_true,Bool.or_eq_true] at h
   show noVw b (bif Nat.beq s t then v else frl r s)=true
   rw [zv6]
   by_cases hst:s=t
   · rw [if_pos hst]
     rcases h.1 with h1 | h1
     · exact absurd (hst.trans (Nat.eq_of_beq_eq_true h1)) hs
     · exact h1
   · rw [if_neg hst];exact ih h.2
theorem zw9 (hK:∀ p,K p=true→ze0 b p=true) {l:List (Nat×WV)} {a:List (Nat×Option (Nat×Nat))} (h:clean b l=true) (v:WV):upd (hitF K false (FL l a)).env b v=frl ((b,v)::l):=by
 rw [← zn9]
 funext s
 show (if s=b then v else hit K false (Pl.sl s) (frl l s))=if s=b then v else frl l s
 by_cases hs:s=b
 · rw [if_pos hs,if_pos hs]
 · rw [if_neg hs,if_neg hs,jr2 hK hs (jg9 hs h)]
end
theorem jw4 {K:Pl→Bool} {fz:Bool} {b:Nat} {pl:Pl} {v:WV} (h:zl9 b v=true):zl9 b (hit1 K fz pl v)=true:=by
 cases v with
 | own bb e ek xs=>cases h1:K pl<;>cases fz<;>simp [hit1,h1,zl9]
 | view p bb off e ek xs=>cases h1:K p<;>simp [hit1,h1,zl9];simpa [zl9] using h
 | eptr p i off ek x=>cases h1:K p<;>simp [hit1,h1,zl9];simpa [zl9] using h
 | _=>rfl
theorem qt6 {K:Pl→Bool} {fz:Bool} {b:Nat} {q:Nat→Pl}:∀ (k:Nat) (cs:List WV),cs.all (zl9 b)=true→(hitL K fz q k cs).all (zl9 b)=true:=by
 intro k cs
 induction cs generalizing k with
 | nil=>intro _;rfl
 | cons v r ih=>
   intro h
   simp only [List.all_cons,Bool.and_eq_true] at h
   simp only [hitL,List.all_cons,jw4 h.1,ih _ h.2,Bool.and_self]
theorem j07 {K:Pl→Bool} {fz:Bool} {b:Nat} {q:Nat→Pl} {v:WV} (h:zo8 b v=true):zo8 b (hitC K fz q v)=true:=by
 cases v with
 | agg cs=>exact qt6 0 cs h
 | own bb e ek xs=>cases h1:K (q 0)<;>cases fz<;>simp [hitC,hit1,h1,zo8,zl9]
 | view p bb off e ek xs=>cases h1:K p<;>simp [hitC,hit1,h1,zo8,zl9];simpa [zo8,zl9] using h
 | eptr p i off ek x=>cases h1:K p<;>simp [hitC,hit1,h1,zo8,zl9];simpa [zo8,zl9] using h
 | _=>rfl
theorem jm6 {K:Pl→Bool} {fz:Bool} {b:Nat} {q:Nat→Nat→Pl}:∀ (i:Nat) (vs:List WV),vs.all (zo8 b)=true→(hitT K fz q i vs).all (zo8 b)=true:=by
 intro i vs
 induction vs generalizing i with
 | nil=>intro _;rfl
 | cons v r ih=>
   intro h
   simp only [List.all_cons,Bool.and_eq_true] at h
   simp only [hitT,List.all_cons,j07 h.1,ih _ h.2,Bool.and_self]
theorem w99 {K:Pl→Bool} {fz:Bool} {b:Nat} {q:Nat→Nat→Pl} {v:WV} (h:noVw b v=true):noVw b (hit K fz q v)=true:=by
 cases v with
 | tup vs=>exact jm6 0 vs h
 | lbox ek v=>exact j07 (q:=q 0) h
 | agg cs=>exact qt6 0 cs h
 | own bb e ek xs=>cases h1:K (q 0 0)<;>cases fz<;>simp [hit,hitC,hit1,h1,noVw,zo8,zl9]
 | view p bb off e ek xs=>cases h1:K p<;>simp [hit,hitC,hit1,h1,noVw,zo8,zl9];simpa [noVw,zo8,zl9] using h
 | eptr p i off ek x=>cases h1:K p<;>simp [hit,hitC,hit1,h1,noVw,zo8,zl9];simpa [noVw,zo8,zl9] using h
 | _=>rfl
theorem z05 {K:Pl→Bool} {fz:Bool} {b:Nat}:∀ {l:List (Nat×WV)},clean b l=true→clean b (hitM K fz l)=true:=by
 intro l
 induction l with
 | nil=>intro _;rfl
 | cons p r ih=>
   obtain ⟨t,v⟩:=p
   intro h
   simp only [clean,Bool.and_eq_true,Bool.or_eq_true] at h
   simp only [hitM,clean,Bool.and_eq_true,Bool.or_eq_true]
   exact ⟨h.1.imp id w99,ih h.2⟩
theorem zd6 {l:List (Nat×WV)} {v:WV} (ho:z89 v=true) (hc:clean d l=true):Put (FL l []) (some d) v (FL ((d,v)::l) []):=⟨by
 show WFr.putD (FL l []) d v=_
 unfold WFr.putD
 rw [ho,if_pos rfl]
 unfold WFr.put1
 rw [zw9 (fun _ h=>h) hc]
 show ({ env:=frl ((d,v)::l),al:=upd (lookA []) d none }:WFr)=_
 rw [qc4];rfl⟩
theorem jf3 {l:List (Nat×WV)} {a:List (Nat×Option (Nat×Nat))} {v:WV} (ho:z89 v=true):Put (FL l a) (some d) v (FL ((d,v)::hitM (ze0 d) false l) ((d,none)::a)):=⟨by
 show WFr.putD (FL l a) d v=_
 unfold WFr.putD
 rw [ho,if_pos rfl,q22]
 simp only [WFr.put1,FL,zn9,q50]⟩
theorem jj6 {d s:Nat} {v:WV} (h:srcs v=[]):j50 d s v fr H=some (fr.put (some d) v,H):=by
 unfold j50
 rw [h]
theorem qs0 {x:Opd} {v:WV} (hp:fr.place x=none) (hx:fr.rd x=v) (hv:okW v=true) (hs:srcs v=[]) (hq:Put fr dst v fr') (h:N fr' H):OpP V (.mv x) dst fr H N:=by
 refine ⟨fr',H,?_,h⟩
 show wOp0 (.mv x) dst fr H=_
 simp only [wOp0,hp,hx,if_pos hv]
 cases dst with
 | none=>simp only [hq.eq]
 | some d=>
   cases x with
   | k c=>simp only [hq.eq]
   | t s=>
     simp only
     split
     · rw [jj6 hs,hq.eq]
     · rw [hq.eq]
theorem z15 {x:Opd} {u:CV} (hp:fr.place x=none) (hx:fr.rd x=.c u) (hq:Put fr dst (.c u) fr') (h:N fr' H):OpP V (.mv x) dst fr H N:=qs0 hp hx rfl rfl hq h
theorem z68 {x:Opd} (hp:fr.place x=none) (hx:fr.rd x=.nils) (hq:Put fr dst .nils fr') (h:N fr' H):OpP V (.mv x) dst fr H N:=qs0 hp hx rfl rfl hq h
theorem z24 {x:Opd} {id off:Nat} (hp:fr.place x=none) (hx:fr.rd x=.ptr id off) (hq:Put fr dst (.ptr id off) fr') (h:N fr' H):OpP V (.mv x) dst fr H N:=qs0 hp hx rfl rfl hq h
theorem z57 {x:Opd} {vs:List WV} (hp:fr.place x=none) (hx:fr.rd x=.tup vs) (hs:srcT vs=[]) (hq:Put fr dst (.tup vs) fr') (h:N fr' H):OpP V (.mv x) dst fr H N:=qs0 hp hx rfl hs hq h
theorem zc3 {s:Nat} {p:Pl} {b:Bool} {off e:Nat} {ek:Option Nat} {xs:List CV} (hp:fr.place (.t s)=none) (hx:fr.rd (.t s)=.view p b off e ek xs) (hd:(decide (d<s)&&js0 s d p)=false) (hq:Put fr (some d) (.view p b off e ek xs) fr') (h:N fr' H):OpP V (.mv (.t s)) (some d) fr H N:=by
 refine ⟨fr',H,?_,h⟩
 show wOp0 (.mv (.t s)) (some d) fr H=_
 simp only [wOp0,hp,hx,okW,if_true]
 split
 · rename_i hlt
   have hm:js0 s d p=false:=by simpa [hlt] using hd
   unfold j50
   simp only [srcs,srcC,src1,List.all_cons,hm,List.all_nil,Bool.and_true,Bool.false_eq_true,if_false,hq.eq]
 · rw [hq.eq]
theorem q26 {p i k:Nat} {l:List (Nat×WV)} {a:List (Nat×Option (Nat×Nat))} {fz:Bool}:zh3 [.sl p i k] fz (FL l a) H=(FL (hitM (inK [.sl p i k]) fz l) a,H):=by
 show (hitF (inK [.sl p i k]) fz (FL l a),hitH fz [.sl p i k] H)=_
 rw [q22];rfl
theorem zl2 {s p:Nat} {b:Bool} {off e:Nat} {ek:Option Nat} {xs:List CV} {l:List (Nat×WV)} {a:List (Nat×Option (Nat×Nat))} (hp:(FL l a).place (.t s)=none) (hx:(FL l a).rd (.t s)=.view (.sl p 0 0) b off e ek xs)
 (hd:(decide (d<s)&&js0 s d (.sl p 0 0))=true) (hq:Put (FL (hitM (inK [.sl p 0 0]) false l) a) (some d) (.own b e ek xs) fr') (h:N fr' H):OpP V (.mv (.t s)) (some d) (FL l a) H N:=by
 refine ⟨fr',H,?_,h⟩
 simp only [Bool.and_eq_true,decide_eq_true_eq] at hd
 show wOp0 (.mv (.t s)) (some d) (FL l a) H=_
 simp only [wOp0,hp,hx,okW,if_true,if_pos hd.1]
 unfold j50
 have hn:([Pl.sl p 0 0]:List Pl).Nodup:=by simp
 simp only [srcs,srcC,src1,List.all_cons,hd.2,List.all_nil,Bool.and_true,if_true,Lz.take,if_pos hn,q26,zg7,z62,ze2,hq.eq]
theorem z84 {op:UnOp} {x:Opd} {a v:CV} (hx:fr.rd x=.c a) (hv:unC op a=some v) (hq:Put fr dst (.c v) fr') (h:N fr' H):OpP V (.un op x) dst fr H N:=
 ⟨fr',H,by show wOp0 (.un op x) dst fr H=_;simp only [wOp0,hx,hv,Option.map,wput,hq.eq],h⟩
theorem z30 {op:BinOp} {x y:Opd} {a b v:CV} (hx:fr.rd x=.c a) (hy:fr.rd y=.c b) (hv:binC op a b=some v) (hq:Put fr dst (.c v) fr') (h:N fr' H):OpP V (.bin op x y) dst fr H N:=
 ⟨fr',H,by show wOp0 (.bin op x y) dst fr H=_;simp only [wOp0,hx,hy,hv,Option.map,wput,hq.eq],h⟩
theorem wrap64 {x:Int} (h:-9223372036854775808≤x∧x<9223372036854775808):IntKind.i64.wrap x=x:=by
 simp [IntKind.wrap,IntKind.bits,IntKind.signed,IntKind.max,IntKind.min]
 omega
theorem za2 {x y:Opd} {a b:Int} (hx:fr.rd x=.c (.int .i64 a)) (hy:fr.rd y=.c (.int .i64 b)) (hb:-9223372036854775808≤a+b∧a+b<9223372036854775808) (hq:Put fr dst (.c (.int .i64 (a+b))) fr') (h:N fr' H):OpP V (.bin .add x y) dst fr H N:=
 z30 hx hy (by simp only [binC,if_true,wrap64 hb]) hq h
theorem zp6 {x y:Opd} {a b:Int} (hx:fr.rd x=.c (.int .i64 a)) (hy:fr.rd y=.c (.int .i64 b)) (hb:-9223372036854775808≤a - b∧a - b<9223372036854775808) (hq:Put fr dst (.c (.int .i64 (a - b))) fr') (h:N fr' H):OpP V (.bin .sub x y) dst fr H N:=
 z30 hx hy (by simp only [binC,if_true,wrap64 hb]) hq h
theorem ja5 {x y:Opd} {a b:Int} (hx:fr.rd x=.c (.int .i64 a)) (hy:fr.rd y=.c (.int .i64 b)) (hb:-9223372036854775808≤a * b∧a * b<9223372036854775808) (hq:Put fr dst (.c (.int .i64 (a * b))) fr') (h:N fr' H):OpP V (.bin .mul x y) dst fr H N:=
 z30 hx hy (by simp only [binC,if_true,wrap64 hb]) hq h
theorem qv8 {x y:Opd} {a b:List UInt8} (hx:fr.rd x=.c (.str a)) (hy:fr.rd y=.c (.str b)) (hb:a.length+b.length≤9223372036854775807) (hq:Put fr dst (.c (.str (a++b))) fr') (h:N fr' H):OpP V (.bin .add x y) dst fr H N:=
 z30 hx hy (by simp only [binC,if_pos hb]) hq h
theorem jp9 {c a b:Opd} {v:WV} (hc:fr.rd c=.c (.bool true)) (ha:fr.rd a=v) (hv:okW v=true) (hq:Put fr dst v fr') (h:N fr' H):OpP V (.pick c a b) dst fr H N:=
 ⟨fr',H,by show wOp0 (.pick c a b) dst fr H=_;simp only [wOp0,hc,if_true,ha,if_pos hv,hq.eq],h⟩
theorem w07 {c a b:Opd} {v:WV} (hc:fr.rd c=.c (.bool false)) (ha:fr.rd b=v) (hv:okW v=true) (hq:Put fr dst v fr') (h:N fr' H):OpP V (.pick c a b) dst fr H N:=
 ⟨fr',H,by show wOp0 (.pick c a b) dst fr H=_;simp only [wOp0,hc,Bool.false_eq_true,if_false,ha,if_pos hv,hq.eq],h⟩
theorem z17 {c a b:Opd} {v:CV} {t:Bool} (hc:fr.rd c=.c (.bool t)) (ht:t=true) (ha:fr.rd a=.c v) (hq:Put fr dst (.c v) fr') (h:N fr' H):OpP V (.pick c a b) dst fr H N:=jp9 (ht▸hc) ha rfl hq h
theorem z14 {c a b:Opd} {v:CV} {t:Bool} (hc:fr.rd c=.c (.bool t)) (ht:t=false) (ha:fr.rd b=.c v) (hq:Put fr dst (.c v) fr') (h:N fr' H):OpP V (.pick c a b) dst fr H N:=w07 (ht▸hc) ha rfl hq h
theorem qv4 {neg:Bool} {k:Nat} {x:Opd} {b:Bool} (hx:nilW k (fr.rd x)=some b) (hq:Put fr dst (.c (.bool (if neg then !b else b))) fr') (h:N fr' H):OpP V (.isn neg k x) dst fr H N:=
 ⟨fr',H,by show wOp0 (.isn neg k x) dst fr H=_;simp only [wOp0,hx,hq.eq],h⟩
theorem jf4 {k k':IntKind} {x:Opd} {n:Int} (hx:fr.rd x=.c (.int k' n)) (hq:Put fr dst (.c (.int k (k.wrap n))) fr') (h:N fr' H):OpP V (.cvt k x) dst fr H N:=
 ⟨fr',H,by show wOp0 (.cvt k x) dst fr H=_;simp only [wOp0,hx,hq.eq],h⟩
theorem zr9 {k':IntKind} {x:Opd} {n:Int} (hx:fr.rd x=.c (.int k' n)) (hb:-9223372036854775808≤n∧n<9223372036854775808) (hq:Put fr dst (.c (.int .i64 n)) fr') (h:N fr' H):OpP V (.cvt .i64 x) dst fr H N:=
 jf4 hx (by rw [wrap64 hb];exact hq) h
theorem qm7 {st:Bool} {x:Opd} {v:WV} {n:Nat} (hx:fr.rd x=v) (hn:lenW st v=some n) (hq:Put fr dst (.c (.int .i64 n)) fr') (h:N fr' H):OpP V (.len st x) dst fr H N:=
 ⟨fr',H,by show wOp0 (.len st x) dst fr H=_;simp only [wOp0,hx,hn,hq.eq],h⟩
theorem z41 {x:Opd} {s:List UInt8} (hx:fr.rd x=.c (.str s)) (hq:Put fr dst (.c (.int .i64 s.length)) fr') (h:N fr' H):OpP V (.len true x) dst fr H N:=qm7 hx rfl hq h
theorem zb8 {α:Type} {x:Opd} {ek:Option Nat} {l:List α} {f:α→CV} (hx:fr.rd x=.c (.frz ek (l.map f))) (hq:Put fr dst (.c (.int .i64 l.length)) fr') (h:N fr' H):OpP V (.len false x) dst fr H N:=
 qm7 hx (by show some (l.map f).length=_;rw [List.length_map]) hq h
theorem q77 {x:Opd} {ek:Option Nat} {xs:List CV} (hx:fr.rd x=.c (.frz ek xs)) (hq:Put fr dst (.c (.int .i64 xs.length)) fr') (h:N fr' H):OpP V (.len false x) dst fr H N:=qm7 hx rfl hq h
theorem qb6 {x:Opd} {p:Pl} {b:Bool} {off e:Nat} {ek:Option Nat} {xs:List CV} (hx:fr.rd x=.view p b off e ek xs) (hq:Put fr dst (.c (.int .i64 xs.length)) fr') (h:N fr' H):OpP V (.len false x) dst fr H N:=qm7 hx rfl hq h
theorem zg2 {x:Opd} (hx:fr.rd x=.nils) (hq:Put fr dst (.c (.int .i64 0)) fr') (h:N fr' H):OpP V (.len false x) dst fr H N:=qm7 hx rfl hq h
theorem z71 {x i:Opd} {s:List UInt8} {k:IntKind} {n:Int} {m:Nat} {b:UInt8} (hx:fr.rd x=.c (.str s)) (hi:fr.rd i=.c (.int k n)) (hn:n=(m:Nat)) (hb:s[m]?=some b) (hq:Put fr dst (.c (.int .u8 b.toNat)) fr') (h:N fr' H):OpP V (.six x i) dst fr H N:=
 ⟨fr',H,by show wOp0 (.six x i) dst fr H=_;subst hn;simp only [wOp0,hx,hi,wint,if_pos (Int.natCast_nonneg m),Int.toNat_natCast,hb,hq.eq],h⟩
theorem v73 {x i:Opd} {ek:Option Nat} {xs:List CV} {k:IntKind} {n:Int} {m:Nat} {v:CV} (hx:fr.rd x=.c (.frz ek xs)) (hi:fr.rd i=.c (.int k n)) (hn:n=(m:Nat)) (hb:xs[m]?=some v) (hq:Put fr dst (.c (.fptr ek v 0)) fr') (h:N fr' H):OpP V (.ix ek x i) dst fr H N:=
 ⟨fr',H,by show wOp0 (.ix ek x i) dst fr H=_;subst hn;simp only [wOp0,hx,hi,wint,ixW,true_and,if_pos (Int.natCast_nonneg m),Int.toNat_natCast,hb,wput,hq.eq],h⟩
theorem ze1 {α:Type} {x i:Opd} {ek:Option Nat} {l:List α} {f:α→CV} {k:IntKind} {n:Int} {m:Nat} {y:α} (hx:fr.rd x=.c (.frz ek (l.map f))) (hi:fr.rd i=.c (.int k n)) (hn:n=(m:Nat)) (hb:l[m]?=some y) (hq:Put fr dst (.c (.fptr ek (f y) 0)) fr') (h:N fr' H):OpP V (.ix ek x i) dst fr H N:=
 v73 hx hi hn (by rw [List.getElem?_map,hb];rfl) hq h
theorem wp0 {ek ek':Option Nat} {a:Opd} {x v:CV} {off:Nat} (hp:fr.place a=none) (ha:fr.rd a=.c (.fptr ek' x off)) (hv:zv2 ek' ek x off=some v) (hq:Put fr dst (.c v) fr') (h:N fr' H):OpP V (.load ek a) dst fr H N:=
 ⟨fr',H,by show wOp0 (.load ek a) dst fr H=_;simp only [wOp0,hp,ha,q02,hv,Option.map,wput,hq.eq],h⟩
theorem zi6 {ek:Option Nat} {a:Opd} {x:CV} (hp:fr.place a=none) (ha:fr.rd a=.c (.fptr ek x 0)) (hq:Put fr dst (.c x) fr') (h:N fr' H):OpP V (.load ek a) dst fr H N:=
 wp0 hp ha (by simp only [zv2,and_self,if_true]) hq h
theorem j31 {ek ek':Option Nat} {a:Opd} {b off:Nat} {x v:WV} (hp:fr.place a=some (b,off)) (hb:fr.env b=.lbox ek' x) (hv:(if off=0∧ek'=ek then some (zl3 (Pl.sl b 0) x) else q81 ek (zl3 (Pl.sl b 0) x).flat off)=some v) (hq:Put fr dst v fr') (h:N fr' H):OpP V (.load ek a) dst fr H N:=
 ⟨fr',H,by show wOp0 (.load ek a) dst fr H=_;simp only [wOp0,hp,hb,hv,wput,hq.eq],h⟩
theorem z43 {ek ek':Option Nat} {a:Opd} {b off:Nat} {x:WV} {v:CV} (hp:fr.place a=some (b,off)) (hb:fr.env b=.lbox ek' x) (hv:(if off=0∧ek'=ek then some (zl3 (Pl.sl b 0) x) else q81 ek (zl3 (Pl.sl b 0) x).flat off)=some (.c v)) (hq:Put fr dst (.c v) fr') (h:N fr' H):OpP V (.load ek a) dst fr H N:=
 j31 hp hb hv hq h
theorem z16 {n off id:Nat} {a:Opd} (hp:fr.place a=none) (ha:fr.rd a=.ptr id off) (hq:Put fr dst (.ptr id (off+n)) fr') (h:N fr' H):OpP V (.faddr n a) dst fr H N:=
 ⟨fr',H,by show wOp0 (.faddr n a) dst fr H=_;simp only [wOp0,hp,ha,hq.eq],h⟩
theorem z29 {off id:Nat} {a:Opd} (hp:fr.place a=none) (ha:fr.rd a=.ptr id off) (hq:Put fr dst (.ptr id off) fr') (h:N fr' H):OpP V (.nck a) dst fr H N:=
 ⟨fr',H,by show wOp0 (.nck a) dst fr H=_;simp only [wOp0,hp,ha,hq.eq],h⟩
structure Lnk (fr:WFr) (dst:Option Nat) (b off:Nat) (fr':WFr):Prop where
 eq:fr.link dst b off=fr'
 ne:dst≠some b
theorem w09 (n:Nat):Nat.beq n n=true:=by
 have:=zv6 n n true false
 rw [if_pos rfl] at this
 cases h:Nat.beq n n with
 | true=>rfl
 | false=>rw [h] at this;cases this
theorem zb7 {l:List (Nat×WV)} {a:List (Nat×Option (Nat×Nat))} {b off:Nat} (hd:Nat.beq d b=false):Lnk (FL l a) (some d) b off (FL ((d,.undef)::l) ((d,some (b,off))::a)):=
 ⟨by simp only [WFr.link,FL,zn9,q50],by intro e;injection e with e;subst e;rw [w09 d] at hd;cases hd⟩
theorem z47 {n:Nat} {x:Opd} {b off:Nat} (hp:fr.place x=some (b,off)) (hl:Lnk fr dst b (off+n) fr') (h:N fr' H):OpP V (.faddr n x) dst fr H N:=
 ⟨fr',H,by show wOp0 (.faddr n x) dst fr H=_;simp only [wOp0,hp,q19,if_neg hl.ne,hl.eq],h⟩
theorem z77 {zero:List HV} {parts:List (Nat×Nat×Opd)} {cs:List WV} {u:CV} (hz:zero.all isC=true) (hf:qy9 (zero.map qi0) (parts.map fun p=>(p.1,p.2.1,fr.rd p.2.2))=some cs) (hm:zu5 cs=.c u) (hq:Put fr dst (.c u) fr') (h:N fr' H):OpP V (.build zero parts) dst fr H N:=
 ⟨fr',H,by show wOp0 (.build zero parts) dst fr H=_;simp only [wOp0,if_pos hz,hf,hm,hq.eq],h⟩
theorem jv4 {zero:List HV} {parts:List (Nat×Nat×Opd)} {cs:List WV} {u:WV} (hz:zero.all isC=true) (hf:qy9 (zero.map qi0) (parts.map fun p=>(p.1,p.2.1,fr.rd p.2.2))=some cs) (hm:zu5 cs=u) (hq:Put fr dst u fr') (h:N fr' H):OpP V (.build zero parts) dst fr H N:=
 ⟨fr',H,by show wOp0 (.build zero parts) dst fr H=_;simp only [wOp0,if_pos hz,hf,hm,hq.eq],h⟩
theorem jr3 {zero:List HV} {parts:List (Nat×Nat×Opd)} {cs us:List WV} (hz:zero.all isC=true) (hf:qy9 (zero.map qi0) (parts.map fun p=>(p.1,p.2.1,fr.rd p.2.2))=some cs) (hm:zu5 cs=.agg us) (hq:Put fr dst (.agg us) fr') (h:N fr' H):OpP V (.build zero parts) dst fr H N:=jv4 hz hf hm hq h
theorem js1 {e:Nat} {ek:Option Nat} {zero:List CV} {n:Nat} {parts:List (Nat×Opd)} {z:CV} {xs:List CV} (hz:zc0 ek zero=some z) (hf:fits ek z=true) (hr:zh0 ek (List.replicate n z) (parts.map fun p=>(p.1,fr.rd p.2))=some (xs,[])) (hq:Put fr dst (.c (.frz ek xs)) fr') (h:N fr' H):OpP V (.bsl true e ek zero n parts) dst fr H N:=
 ⟨fr',H,by show wOp0 (.bsl true e ek zero n parts) dst fr H=_;simp only [wOp0,hz,if_pos hf,hr,zh3,if_true,hq.eq],h⟩
theorem wl6 {e:Nat} {ek:Option Nat} {zero:List CV} {n:Nat} {parts:List (Nat×Opd)} {z:CV} {xs:List CV} (hz:zc0 ek zero=some z) (hf:fits ek z=true) (hr:zh0 ek (List.replicate n z) (parts.map fun p=>(p.1,fr.rd p.2))=some (xs,[])) (hq:Put fr dst (.own true e ek xs) fr') (h:N fr' H):OpP V (.bsl false e ek zero n parts) dst fr H N:=
 ⟨fr',H,by show wOp0 (.bsl false e ek zero n parts) dst fr H=_;simp only [wOp0,hz,if_pos hf,hr,zh3,Bool.false_eq_true,if_false,hq.eq],h⟩
def inOrder:Nat→List (Nat×Opd)→Bool
 | _,[]=>true
 | k,p::r=>Nat.beq p.1 k&&inOrder (k+1) r
theorem qf8 {ek:Option Nat} {z:CV}:∀ (parts:List (Nat×Opd)) (pre vs:List CV),inOrder pre.length parts=true→z87 (parts.map fun p=>fr.rd p.2)=some vs→vs.all (fits ek)=true →
 zh0 ek (pre++List.replicate parts.length z) (parts.map fun p=>(p.1,fr.rd p.2))=some (pre++vs,[]):=by
 intro parts
 induction parts with
 | nil=>
   intro pre vs _ hc _
   simp only [List.map_nil,z87,Option.some.injEq] at hc
   subst hc
   simp [zh0]
 | cons p r ih=>
   intro pre vs hi hc hf
   simp only [inOrder,Bool.and_eq_true] at hi
   have hp:p.1=pre.length:=Nat.eq_of_beq_eq_true hi.1
   simp only [List.map_cons] at hc ⊢
   generalize fr.rd p.2=w at hc ⊢
   unfold z87 at hc
   split at hc
   · rename_i e;cases e
   · rename_i v r' e
     injection e with e1 e2
     subst e1;subst e2
     split at hc
     · rename_i l hl
       injection hc with hc
       subst hc
       simp only [List.all_cons,Bool.and_eq_true] at hf
       have hset:(pre++List.replicate (r.length+1) z).set pre.length v=(pre++[v])++List.replicate r.length z:=by
        rw [List.set_append_right _ _ (Nat.le_refl _),Nat.sub_self,List.replicate_succ,List.set_cons_zero]
        simp
       have:=ih (pre++[v]) l (by simpa using hi.2) hl hf.2
       simp only [zh0,qm2,qz3,List.length_cons,List.length_append,List.length_replicate,hp,show pre.length<pre.length+(r.length+1) by omega,hf.1,and_self,if_true,hset,this]
       simp
     · cases hc
   · cases hc
theorem zp5 {e:Nat} {ek:Option Nat} {zero:List CV} {n:Nat} {parts:List (Nat×Opd)} {z:CV} {xs:List CV} (hz:zc0 ek zero=some z) (hf:fits ek z=true) (hn:Nat.beq parts.length n=true) (ho:inOrder 0 parts=true) (hr:z87 (parts.map fun p=>fr.rd p.2)=some xs) (ha:xs.all (fits ek)=true) (hq:Put fr dst (.c (.frz ek xs)) fr') (h:N fr' H):OpP V (.bsl true e ek zero n parts) dst fr H N:=by
 have hn:=Nat.eq_of_beq_eq_true hn
 subst hn
 exact js1 hz hf (by simpa using qf8 (z:=z) parts [] xs ho hr ha) hq h
theorem j71 {e:Nat} {ek:Option Nat} {zero:List CV} {n:Nat} {parts:List (Nat×Opd)} {z:CV} {xs:List CV} (hz:zc0 ek zero=some z) (hf:fits ek z=true) (hn:Nat.beq parts.length n=true) (ho:inOrder 0 parts=true) (hr:z87 (parts.map fun p=>fr.rd p.2)=some xs) (ha:xs.all (fits ek)=true) (hq:Put fr dst (.own true e ek xs) fr') (h:N fr' H):OpP V (.bsl false e ek zero n parts) dst fr H N:=by
 have hn:=Nat.eq_of_beq_eq_true hn
 subst hn
 exact wl6 hz hf (by simpa using qf8 (z:=z) parts [] xs ho hr ha) hq h
theorem q80 {x:Opd} {lo hi:Option Opd} {s:List UInt8} {l h:Option Int} (hl:qe3 fr lo=some l) (hh:qe3 fr hi=some h) (hx:fr.rd x=.c (.str s)) (h0:0≤l.getD 0∧l.getD 0≤h.getD s.length∧h.getD s.length≤s.length)
 (hq:Put fr dst (.c (.str ((s.drop (l.getD 0).toNat).take ((h.getD s.length).toNat - (l.getD 0).toNat)))) fr') (hN:N fr' H):OpP V (.slc true none x lo hi) dst fr H N:=
 ⟨fr',H,by show wOp0 (.slc true none x lo hi) dst fr H=_;simp only [wOp0,hl,hh,hx,slcW,true_and,if_pos h0,wput,hq.eq],hN⟩
theorem za6 {x lo:Opd} {s:List UInt8} {k:IntKind} {n:Int} {m:Nat} (hx:fr.rd x=.c (.str s)) (hl:fr.rd lo=.c (.int k n)) (hn:n=(m:Nat)) (hm:m≤s.length) (hq:Put fr dst (.c (.str (s.drop m))) fr') (hN:N fr' H):OpP V (.slc true none x (some lo) none) dst fr H N:=by
 subst hn
 refine q80 (l:=some (m:Int)) (h:=none) (by simp only [qe3,hl,wint]) rfl hx (by simp only [Option.getD];omega) ?_ hN
 have:(s.drop m).take (s.length - m)=s.drop m:=by rw [List.take_of_length_le];simp
 simpa [this] using hq
theorem zx5 {x lo:Opd} {s:List UInt8} {k:IntKind} {m:Nat} (hx:fr.rd x=.c (.str s)) (hl:fr.rd lo=.c (.int k ((m:Int)+1))) (hm:m+1≤s.length) (hq:Put fr dst (.c (.str (s.drop (m+1)))) fr') (hN:N fr' H):OpP V (.slc true none x (some lo) none) dst fr H N:=
 za6 (m:=m+1) hx hl (by simp) hm hq hN
theorem qy2 {x lo:Opd} {s:List UInt8} {k:IntKind} {n:Int} (hx:fr.rd x=.c (.str s)) (hl:fr.rd lo=.c (.int k n)) (hn:0≤n) (hm:n.toNat≤s.length) (hq:Put fr dst (.c (.str (s.drop n.toNat))) fr') (hN:N fr' H):OpP V (.slc true none x (some lo) none) dst fr H N:=
 za6 hx hl (Int.toNat_of_nonneg hn).symm hm hq hN
theorem q36 {x hi:Opd} {s:List UInt8} {k:IntKind} {n:Int} {m:Nat} (hx:fr.rd x=.c (.str s)) (hl:fr.rd hi=.c (.int k n)) (hn:n=(m:Nat)) (hm:m≤s.length) (hq:Put fr dst (.c (.str (s.take m))) fr') (hN:N fr' H):OpP V (.slc true none x none (some hi)) dst fr H N:=by
 subst hn
 refine q80 (l:=none) (h:=some (m:Int)) rfl (by simp only [qe3,hl,wint]) hx (by simp only [Option.getD];omega) ?_ hN
 simpa using hq
theorem ji5 {x hi:Opd} {s:List UInt8} {k:IntKind} {n:Int} (hx:fr.rd x=.c (.str s)) (hl:fr.rd hi=.c (.int k n)) (hn:0≤n) (hm:n.toNat≤s.length) (hq:Put fr dst (.c (.str (s.take n.toNat))) fr') (hN:N fr' H):OpP V (.slc true none x none (some hi)) dst fr H N:=
 q36 hx hl (Int.toNat_of_nonneg hn).symm hm hq hN
theorem zy6 {x lo hi:Opd} {s:List UInt8} {k k':IntKind} {n n':Int} {m m':Nat} (hx:fr.rd x=.c (.str s)) (hl:fr.rd lo=.c (.int k n)) (hh:fr.rd hi=.c (.int k' n')) (hn:n=(m:Nat)) (hn':n'=(m':Nat)) (hm:m≤m'∧m'≤s.length) (hq:Put fr dst (.c (.str ((s.drop m).take (m' - m)))) fr') (hN:N fr' H):OpP V (.slc true none x (some lo) (some hi)) dst fr H N:=by
 subst hn;subst hn'
 refine q80 (l:=some (m:Int)) (h:=some (m':Int)) (by simp only [qe3,hl,wint]) (by simp only [qe3,hh,wint]) hx (by simp only [Option.getD];omega) ?_ hN
 simpa using hq
theorem zz8 {e:Nat} {ek:Option Nat} {bytes:Nat} {s x:Opd} {n0:CV} {new:List CV} (hs:fr.rd s=.nils) (hx:zs3 ek (fr.rd x)=some (n0::new)) (hb:(new.length+1) * bytes≤140737488355328∧new.length+1≤140737488355328) (hq:Put fr dst (.own true e ek (n0::new)) fr') (h:N fr' H):OpP V (.app e ek bytes s x) dst fr H N:=
 ⟨fr',H,by
  show appW e ek bytes (fr.rd s) (fr.rd x) dst fr H=_
  simp only [appW,hx,hs,reduceCtorEq,if_false,List.length_cons,lim,if_pos hb,hq.eq],h⟩
theorem j88 {e:Nat} {ek:Option Nat} {bytes:Nat} {s x:Opd} (hs:fr.rd s=.nils) (hx:zs3 ek (fr.rd x)=some []) (hq:Put fr dst .nils fr') (h:N fr' H):OpP V (.app e ek bytes s x) dst fr H N:=
 ⟨fr',H,by
  show appW e ek bytes (fr.rd s) (fr.rd x) dst fr H=_
  simp only [appW,hx,hs,if_true,hq.eq],h⟩
theorem zo5 {e:Nat} {ek:Option Nat} {bytes p:Nat} {s x:Opd} {xs new:List CV} {l:List (Nat×WV)} {a:List (Nat×Option (Nat×Nat))} (hs:(FL l a).rd s=.view (.sl p 0 0) true 0 e ek xs) (hx:zs3 ek ((FL l a).rd x)=some new) (hb:(xs.length+new.length) * bytes≤140737488355328∧xs.length+new.length≤140737488355328)
 (hq:Put (FL (hitM (inK [.sl p 0 0]) false l) a) dst (.own true e ek (xs++new)) fr') (h:N fr' H):OpP V (.app e ek bytes s x) dst (FL l a) H N:=
 ⟨fr',H,by
  show appW e ek bytes ((FL l a).rd s) ((FL l a).rd x) dst (FL l a) H=_
  simp only [appW,hx,hs,true_and,lim,if_pos hb,q26,hq.eq],h⟩
structure Boxed (fr:WFr) (d:Nat) (ek:Option Nat) (v:WV) (fr':WFr):Prop where
 eq:({ env:=upd (hitF (ze0 d) false fr).env d (.lbox ek v),al:=unlink d fr.al }:WFr)=fr'
def unlA (d:Nat):List (Nat×Option (Nat×Nat))→List (Nat×Option (Nat×Nat))
 | []=>[]
 | (t,none)::r=>(t,none)::unlA d r
 | (t,some (b,off))::r=>(t,bif Nat.beq b d then none else some (b,off))::unlA d r
theorem wu0 (d:Nat):∀ (a:List (Nat×Option (Nat×Nat))) (t:Nat),lookA (unlA d a) t=match lookA a t with
 | some (b,off)=>if b=d then none else some (b,off)
 | none=>none:=by
 intro a
 induction a with
 | nil=>intro t;rfl
 | cons p r ih=>
   intro t
   obtain ⟨s,v⟩:=p
   cases v with
   | none=>
     show (bif Nat.beq t s then none else lookA (unlA d r) t)=match (bif Nat.beq t s then none else lookA r t) with
      | some (b,off)=>if b=d then none else some (b,off)
      | none=>none
     cases Nat.beq t s with
     | true=>rfl
     | false=>exact ih t
   | some q=>
     obtain ⟨b,off⟩:=q
     show (bif Nat.beq t s then (bif Nat.beq b d then none else some (b,off)) else lookA (unlA d r) t)=match (bif Nat.beq t s then some (b,off) else lookA r t) with
      | some (b,off)=>if b=d then none else some (b,off)
      | none=>none
     cases Nat.beq t s with
     | true=>show (bif Nat.beq b d then none else some (b,off))=if b=d then none else some (b,off);rw [zv6]
     | false=>exact ih t
theorem z61 {l:List (Nat×WV)} {ek:Option Nat} {v:WV} (hc:clean d l=true):Boxed (FL l []) d ek v (FL ((d,.lbox ek v)::l) []):=⟨by
 have e:unlink d (FL l []).al=lookA []:=by funext t;show (if t=d then none else none)=none;split<;>rfl
 rw [zw9 (fun _ h=>h) hc,e];rfl⟩
theorem z66 {l:List (Nat×WV)} {a:List (Nat×Option (Nat×Nat))} {ek:Option Nat} {v:WV} (hc:clean d l=true):Boxed (FL l a) d ek v (FL ((d,.lbox ek v)::l) ((d,none)::unlA d a)):=⟨by
 have e:unlink d (FL l a).al=lookA ((d,none)::unlA d a):=by
  funext t
  show (if t=d then none else _)=(bif Nat.beq t d then none else lookA (unlA d a) t)
  rw [zv6,wu0]
  rfl
 rw [zw9 (fun _ h=>h) hc,e];rfl⟩
theorem qk7 {u:CV}:Lz.take (.c u) fr H=some (.c u,fr,H):=by
 simp [Lz.take,srcs,srcC,src1,zh3,zg7,z62,ze2]
theorem z81 {ek:Option Nat} {x:Opd} {u:CV} (hx:fr.rd x=.c u) (hf:fitsW ek (.c u)=true) (hb:Boxed fr d ek (.c u) fr') (h:N fr' H):OpP V (.lbox ek x) (some d) fr H N:=
 ⟨fr',H,by show wOp0 (.lbox ek x) (some d) fr H=_;simp only [wOp0,hx,if_pos hf,qk7,hb.eq],h⟩
structure Stored (fr:WFr) (b off n:Nat) (v:WV) (fr':WFr):Prop where
 eq:({ env:=upd (hitF (inSl b off n) false fr).env b v,al:=fr.al }:WFr)=fr'
structure Stored0 (fr:WFr) (b:Nat) (v:WV) (fr':WFr):Prop where
 eq:({ env:=upd (hitF (ze0 b) false fr).env b v,al:=fr.al }:WFr)=fr'
theorem jv7 {b off n:Nat} (p:Pl) (h:inSl b off n p=true):ze0 b p=true:=by
 cases p with
 | sl s i k=>simp only [inSl,Bool.and_eq_true,decide_eq_true_eq] at h;simp [ze0,h.1.1.1]
 | hp _ _=>cases h
 | tmp _ _=>cases h
theorem qc2 {l:List (Nat×WV)} {a:List (Nat×Option (Nat×Nat))} {b off n:Nat} {v:WV} (hc:clean b l=true):Stored (FL l a) b off n v (FL ((b,v)::l) a):=⟨by
 rw [zw9 jv7 hc];rfl⟩
theorem z34 {l:List (Nat×WV)} {a:List (Nat×Option (Nat×Nat))} {b:Nat} {v:WV} (hc:clean b l=true):Stored0 (FL l a) b v (FL ((b,v)::l) a):=⟨by
 rw [zw9 (fun _ h=>h) hc];rfl⟩
theorem z25 {ek:Option Nat} {a x:Opd} {b:Nat} {u:CV} {x0:WV} (hp:fr.place a=some (b,0)) (hx:fr.rd x=.c u) (hf:fitsW ek (.c u)=true) (hb:fr.env b=.lbox ek x0) (hs:Stored0 fr b (.lbox ek (.c u)) fr') (h:N fr' H):OpP V (.store ek a x) dst fr H N:=
 ⟨fr',H,by show wOp0 (.store ek a x) dst fr H=_;simp only [wOp0,hp,hx,if_pos hf,qk7,hb,and_self,if_true,hs.eq],h⟩
theorem zs6 {ek ek':Option Nat} {a x:Opd} {b off:Nat} {u u':CV} {x0:WV} (hp:fr.place a=some (b,off)) (hx:fr.rd x=.c u) (hf:fitsW ek (.c u)=true) (hb:fr.env b=.lbox ek' x0) (hn:(decide (off=0)&&decide (ek'=ek))=false) (hl:(decide (off+(WV.c u).flat.length≤x0.flat.length)&&zf1 x0&&!x0.flat.isEmpty)=true)
 (hu:qs5 ek' (za0 x0.flat off (WV.c u).flat)=some (.c u')) (hf':fitsW ek' (.c u')=true) (hs:Stored fr b off (WV.c u).flat.length (.lbox ek' (.c u')) fr') (h:N fr' H):OpP V (.store ek a x) dst fr H N:=
 ⟨fr',H,by
  simp only [Bool.and_eq_true,decide_eq_true_eq,Bool.not_eq_true'] at hl
  have hn':¬ (off=0∧ek'=ek):=by
   rintro ⟨rfl,rfl⟩
   simp at hn
  show wOp0 (.store ek a x) dst fr H=_
  simp only [wOp0,hp,hx,if_pos hf,qk7,hb,if_neg hn',if_pos (show off+(WV.c u).flat.length≤x0.flat.length∧zf1 x0=true∧x0.flat.isEmpty=false from ⟨hl.1.1,hl.1.2,hl.2⟩),hu,if_pos hf',hs.eq],h⟩
theorem z94 {s i:Nat} {vs:List WV} {u:CV} (hs:fr.env s=.tup vs) (hv:vs[i]?=some (.c u)) (hq:Put fr dst (.c u) fr') (h:N fr' H):OpP V (.ext (.t s) i) dst fr H N:=
 ⟨fr',H,by show wOp0 (.ext (.t s) i) dst fr H=_;simp only [wOp0,hs,hv,zl3,zo7,qk7,hq.eq],h⟩
structure Rets (V:WEnv) (f:Nat) (asv:List WV) (r:WV):Prop where
 run:∃ r0 H',wv V f asv []=some (r0,H')∧shut r0=some r
theorem qv6 {f:Nat} {args asv:List WV} {r:WV} (hm:V.md f=.P) (ha:zh5 H args=some asv) (hc:Rets V f asv r) (hi:(args.all isCW||noRefW r)=true) (hq:Put fr dst r fr'):zd1 V (wv V) f args dst fr H=some (fr',H):=by
 obtain ⟨r0,H1,h1,h2⟩:=hc
 simp only [zd1,hm,ha,h1,h2,if_pos hi,hq.eq]
theorem z07 {f:Nat} {args:List Opd} {asv:List WV} {r:WV} (hm:V.md f=.P) (ha:zh5 H (args.map fr.rd)=some asv) (hc:Rets V f asv r) (hi:((args.map fr.rd).all isCW||noRefW r)=true) (hq:Put fr dst r fr') (h:N fr' H):OpP V (.call f args) dst fr H N:=
 ⟨fr',H,by show zd1 V (wv V) f (args.map fr.rd) dst fr H=_;exact qv6 hm ha hc hi hq,h⟩
theorem qq2 {f:Nat} {first cap:List CV} {x:Opd} {args:List Opd} {asv:List WV} {r:WV} (hx:fr.rd x=.c (.fn f first cap)) (hm:V.md f=.P) (ha:zh5 H (first.map WV.c++args.map fr.rd++cap.map WV.c)=some asv) (hc:Rets V f asv r) (hi:((first.map WV.c++args.map fr.rd++cap.map WV.c).all isCW||noRefW r)=true) (hq:Put fr dst r fr') (h:N fr' H):OpP V (.callv x args) dst fr H N:=
 ⟨fr',H,by
  show wOp V (wv V) (.callv x args) dst fr H=_
  simp only [wOp,hx,q17]
  exact qv6 hm ha hc hi hq,h⟩
theorem z55 (h:N fr H):VD V [] fr H N:=⟨_,_,rfl,h⟩
theorem z65 {o:IOp} {c:Cls} {r:List (Cls×IOper)} (h0:zk7 fr dst=true) (h:OpD V c o dst fr H (fun fr' H'=>Dand (zk7 fr' dst=true) (VD V r fr' H' N))):VD V ((c,⟨dst,none,o⟩)::r) fr H N:=by
 obtain ⟨fr1,H1,h1,h2,fr2,H2,h3,h4⟩:=h
 refine ⟨fr2,H2,?_,h4⟩
 show (match zq1 V (wv V) c ⟨dst,none,o⟩ fr H with
  | some (fr',H')=>zr6 V (wv V) r fr' H'
  | none=>none)=_
 have:zw3 V (wv V) c ⟨dst,none,o⟩ fr H=wD V (wv V) c o dst fr H:=rfl
 simp only [zq1,if_pos h0,this,h1,if_pos (show c=.lb∨zk7 fr1 dst=true from .inr h2)]
 exact h3
theorem wh5 {o:IOp} {c:Cls} {s:Nat} {w b:Bool} (hs:fr.env s=.c (.bool b)):zw3 V (wv V) c ⟨dst,some (s,w),o⟩ fr H=if b=w then wD V (wv V) c o dst fr H else some (fr.put dst .skipv,H):=by
 show (match fr.env s with
  | .c (.bool b)=>if b=w then wD V (wv V) c o dst fr H else some (fr.put dst .skipv,H)
  | .skipv=>some (fr.put dst .skipv,H)
  | _=>none)=_
 rw [hs]
theorem j99 {o:IOp} {c:Cls} {r:List (Cls×IOper)} {s:Nat} {w b:Bool} (hs:fr.env s=.c (.bool b)) (hb:b=w) (h0:zk7 fr dst=true) (h:OpD V c o dst fr H (fun fr' H'=>Dand (zk7 fr' dst=true) (VD V r fr' H' N))):VD V ((c,⟨dst,some (s,w),o⟩)::r) fr H N:=by
 obtain ⟨fr1,H1,h1,h2,fr2,H2,h3,h4⟩:=h
 refine ⟨fr2,H2,?_,h4⟩
 show (match zq1 V (wv V) c ⟨dst,some (s,w),o⟩ fr H with
  | some (fr',H')=>zr6 V (wv V) r fr' H'
  | none=>none)=_
 simp only [zq1,if_pos h0,wh5 hs,if_pos hb,h1,if_pos (show c=.lb∨zk7 fr1 dst=true from .inr h2)]
 exact h3
theorem wk7 {o:IOp} {c:Cls} {r:List (Cls×IOper)} {s:Nat} {w b:Bool} (hs:fr.env s=.c (.bool b)) (hb:b=!w) (h0:zk7 fr dst=true) (hp:Put fr dst .skipv fr') (h1:zk7 fr' dst=true) (h:VD V r fr' H N):VD V ((c,⟨dst,some (s,w),o⟩)::r) fr H N:=by
 obtain ⟨fr2,H2,h3,h4⟩:=h
 refine ⟨fr2,H2,?_,h4⟩
 show (match zq1 V (wv V) c ⟨dst,some (s,w),o⟩ fr H with
  | some (fr',H')=>zr6 V (wv V) r fr' H'
  | none=>none)=_
 have hb':¬ b=w:=by intro e;subst e;cases b<;>cases hb
 simp only [zq1,if_pos h0,wh5 hs,if_neg hb',hp.eq,if_pos (show c=.lb∨zk7 fr' dst=true from .inr h1)]
 exact h3
theorem wb0 {l:List (Nat×WV)} {a:List (Nat×Option (Nat×Nat))} {o:IOp} {c:Cls} {r:List (Cls×IOper)} {s:Nat} {w b:Bool} (hs:(FL l a).env s=.c (.bool b))
 (h1:b=true→VD V ((c,⟨dst,some (s,w),o⟩)::r) (FL ((s,.c (.bool true))::l) a) H N) (h2:b=false→VD V ((c,⟨dst,some (s,w),o⟩)::r) (FL ((s,.c (.bool false))::l) a) H N) :
 VD V ((c,⟨dst,some (s,w),o⟩)::r) (FL l a) H N:=by
 cases b with
 | true=>rw [q62 hs];exact h1 rfl
 | false=>rw [q62 hs];exact h2 rfl
theorem q28 {o:IOp} {c:Cls} {r:List (Cls×IOper)} {s:Nat} {b:Bool} (hs:fr.env s=.c (.bool b)) (hb:b=false) (h0:zk7 fr dst=true) (hp:Put fr dst .skipv fr') (h1:zk7 fr' dst=true) (h:VD V r fr' H N):VD V ((c,⟨dst,some (s,true),o⟩)::r) fr H N:=wk7 hs hb h0 hp h1 h
theorem qq4 {l:List (Nat×WV)} {a:List (Nat×Option (Nat×Nat))} {o:IOp} {c:Cls} {r:List (Cls×IOper)} {s:Nat} {w b:Bool} (hs:(FL l a).env s=.c (.bool b))
 (h1:Cnd b true (VD V ((c,⟨dst,some (s,w),o⟩)::r) (FL ((s,.c (.bool true))::l) a) H N)) (h2:Cnd b false (VD V ((c,⟨dst,some (s,w),o⟩)::r) (FL ((s,.c (.bool false))::l) a) H N)) :
 VD V ((c,⟨dst,some (s,w),o⟩)::r) (FL l a) H N:=wb0 hs h1.go h2.go
theorem z52 {o:IOp} (hp:zn1 o=true) (h:OpP V o dst fr H N):OpD V .pure o dst fr H N:=by
 obtain ⟨fr1,H1,h1,h2⟩:=h
 refine ⟨fr1,H1,?_,h2⟩
 cases o<;>first | (simp only [zn1,Bool.false_eq_true] at hp;done) | (simp only [wD,hp,if_true];exact h1)
theorem wm7 {e:Nat} {ek:Option Nat} {z:List CV} {n:Nat} {ps:List (Nat×Opd)} (hp:(ps.all fun p=>isCW (fr.rd p.2))=true) (h:OpP V (.bsl true e ek z n ps) dst fr H N):OpD V .pure (.bsl true e ek z n ps) dst fr H N:=by
 obtain ⟨fr1,H1,h1,h2⟩:=h
 refine ⟨fr1,H1,?_,h2⟩
 simp only [wD,hp,and_self,if_true]
 exact h1
theorem zf8 {ek:Option Nat} {a x:Opd} (hp:(fr.place a).isSome=true) (h:OpP V (.store ek a x) none fr H N):OpD V .wrb (.store ek a x) none fr H N:=by
 obtain ⟨fr1,H1,h1,h2⟩:=h
 exact ⟨fr1,H1,by simp only [wD,hp,and_self,if_true];exact h1,h2⟩
theorem z54 {ek:Option Nat} {a:Opd} (hp:(fr.place a).isSome=false) (h:OpP V (.load ek a) dst fr H N):OpD V .rd (.load ek a) dst fr H N:=by
 obtain ⟨fr1,H1,h1,h2⟩:=h
 exact ⟨fr1,H1,by simp only [wD,hp,Bool.false_eq_true,if_false];exact h1,h2⟩
theorem zj0 {st:Bool} {ek:Option Nat} {x:Opd} {lo hi:Option Opd} (h:OpP V (.slc st ek x lo hi) dst fr H N):OpD V .rd (.slc st ek x lo hi) dst fr H N:=⟨h.run⟩
theorem zz3 {f:Nat} {args:List Opd} {asv:List WV} {r:WV} (hm:V.md f=.P) (ha:zh5 H (args.map fr.rd)=some asv) (hc:Rets V f asv r) (hi:(noRefW r||(args.map fr.rd).all isCW)=true) (hq:Put fr dst r fr') (h:N fr' H):OpD V .rd (.call f args) dst fr H N:=
 ⟨fr',H,by
  obtain ⟨r0,H2,h1,h2⟩:=hc
  have hi':noRefW r=true∨(args.map fr.rd).all isCW=true:=by simpa using hi
  simp only [wD,hm,ha,h1,h2,if_pos hi',hq.eq],h⟩
theorem wt6 {e:Nat} {ek:Option Nat} {n:Nat} {s x:Opd} (h:OpP V (.app e ek n s x) dst fr H N):OpD V .wr (.app e ek n s x) dst fr H N:=⟨h.run⟩
theorem zv3 {f:Nat} {args:List Opd} (h:OpP V (.call f args) dst fr H N):OpD V .wr (.call f args) dst fr H N:=⟨h.run⟩
theorem q55 {ek:Option Nat} {a x:Opd} (hp:(fr.place a).isSome=false) (h:OpP V (.store ek a x) none fr H N):OpD V .wr (.store ek a x) none fr H N:=by
 obtain ⟨fr1,H1,h1,h2⟩:=h
 exact ⟨fr1,H1,by simp only [wD,hp,Bool.false_eq_true,false_or,ne_eq,not_true_eq_false,if_false];exact h1,h2⟩
theorem w75 {ek:Option Nat} {x:Opd} (h:OpP V (.lbox ek x) dst fr H N):OpD V .lb (.lbox ek x) dst fr H N:=⟨h.run⟩
theorem v82 {o:IOp} {r:List (Cls×IOper)} (h0:zk7 fr dst=true) (h:OpD V .lb o dst fr H (fun fr' H'=>VD V r fr' H' N)):VD V ((.lb,⟨dst,none,o⟩)::r) fr H N:=by
 obtain ⟨fr1,H1,h1,fr2,H2,h3,h4⟩:=h
 refine ⟨fr2,H2,?_,h4⟩
 show (match zq1 V (wv V) .lb ⟨dst,none,o⟩ fr H with
  | some (fr',H')=>zr6 V (wv V) r fr' H'
  | none=>none)=_
 have:zw3 V (wv V) .lb ⟨dst,none,o⟩ fr H=wD V (wv V) .lb o dst fr H:=rfl
 simp only [zq1,if_pos h0,this,h1,true_or,if_true]
 exact h3
def KpL (D:List Nat) (fr:WFr):List Nat→List (Nat×WV)→Prop
 | [],[]=>True
 | s::ss,(t,v)::l=>s=t∧hit (qz9 D) false (Pl.sl s) (fr.env s)=v∧KpL D fr ss l
 | _,_=>False
theorem z23 {D:List Nat}:KpL D fr [] []:=trivial
theorem z64 {D:List Nat} {s:Nat} {ss:List Nat} {v:WV} {l:List (Nat×WV)} (hv:hit (qz9 D) false (Pl.sl s) (fr.env s)=v) (h:KpL D fr ss l):KpL D fr (s::ss) ((s,v)::l):=⟨rfl,hv,h⟩
theorem vd4 {D:List Nat}:∀ {ss:List Nat} {l:List (Nat×WV)},KpL D fr ss l→(ss.map fun s=>(s,hit (qz9 D) false (Pl.sl s) (fr.env s)))=l:=by
 intro ss
 induction ss with
 | nil=>intro l h;cases l with
   | nil=>rfl
   | cons p l=>cases h
 | cons s ss ih=>intro l h;cases l with
   | nil=>cases h
   | cons p l=>
     obtain ⟨t,v⟩:=p
     obtain ⟨rfl,rfl,h⟩:=h
     simp only [List.map_cons,ih h]
theorem qq9 {D:List Nat} {l:List (Nat×WV)} (h:KpL D fr D l):zo4 D fr=FL l []:=by
 unfold zo4
 rw [vd4 h,qs3]
theorem z04 {L:List Nat} {K:List (Nat×WV)} (h:KpL L fr L K) (hN:N (FL K []) H):WP V (.keep L) fr H N B R:=⟨.nrm,FL K [],H,by show some (Ex.nrm,zo4 L fr,H)=_;rw [qq9 h],hN⟩
theorem kq_c {D ss:List Nat} {s:Nat} {u:CV} {l:List (Nat×WV)} (h:fr.env s=.c u) (hr:KpL D fr ss l):KpL D fr (s::ss) ((s,.c u)::l):=z64 (by rw [h];rfl) hr
theorem zc6 {D ss:List Nat} {s:Nat} {l:List (Nat×WV)} (h:fr.env s=.nils) (hr:KpL D fr ss l):KpL D fr (s::ss) ((s,.nils)::l):=z64 (by rw [h];rfl) hr
theorem z50 {D ss:List Nat} {s id off:Nat} {l:List (Nat×WV)} (h:fr.env s=.ptr id off) (hr:KpL D fr ss l):KpL D fr (s::ss) ((s,.ptr id off)::l):=z64 (by rw [h];rfl) hr
theorem ze6 {D ss:List Nat} {s e:Nat} {b:Bool} {ek:Option Nat} {xs:List CV} {l:List (Nat×WV)} (h:fr.env s=.own b e ek xs) (hd:D.contains s=true) (hr:KpL D fr ss l):KpL D fr (s::ss) ((s,.own b e ek xs)::l):=
 z64 (by rw [h];show hit1 (qz9 D) false (.sl s 0 0) (.own b e ek xs)=_;simp only [hit1,qz9,hd,Bool.not_true,Bool.false_eq_true,if_false]) hr
theorem z40 {D ss:List Nat} {s:Nat} {ek:Option Nat} {u:CV} {l:List (Nat×WV)} (h:fr.env s=.lbox ek (.c u)) (hr:KpL D fr ss l):KpL D fr (s::ss) ((s,.lbox ek (.c u))::l):=z64 (by rw [h];rfl) hr
theorem ze9 {σ:Type} {live:List Nat} {body:ICode} (K:σ→List (Nat×WV)) (P:σ→Prop) (μ:σ→Nat) (s0:σ) (h0:KpL live fr live (K s0)) (hP:P s0)
 (hb:∀ s,P s→WP V body (FL (K s) []) H (fun fr' H'=>∃ s',KpL live fr' live (K s')∧H'=H∧P s'∧μ s'<μ s) B R):WP V (.loop live body) fr H N B R:=by
 have key:∀ n s fr,μ s<n→KpL live fr live (K s)→P s→WP V (.loop live body) fr H N B R:=by
  intro n
  induction n with
  | zero=>intro s fr h;omega
  | succ n ih=>
    intro s fr hn hk hp
    obtain ⟨x,fr1,H1,g1,g2⟩:=hb s hp
    have e:wC V (wv V) witW (.loop live body) fr H=match wC V (wv V) witW body (FL (K s) []) H with
     | some (.nrm,fr',H')=>wC V (wv V) witW (.loop live body) fr' H'
     | r=>r:=by
     rw [wh4,j60,qq9 hk]
     rfl
    cases x with
    | nrm=>
      obtain ⟨s',k1,rfl,k2,k3⟩:=g2
      obtain ⟨y,fr2,H2,m1,m2⟩:=ih s' fr1 (by omega) k1 k2
      exact ⟨y,fr2,H2,by rw [e,g1];exact m1,m2⟩
    | exit i=>exact ⟨.exit i,fr1,H1,by rw [e,g1],g2⟩
    | goto i=>exact ⟨.goto i,fr1,H1,by rw [e,g1],g2⟩
    | ret=>exact ⟨.ret,fr1,H1,by rw [e,g1],g2⟩
 exact key (μ s0+1) s0 fr (by omega) h0 hP
inductive ShI (fr:WFr):IRes→CV→Prop
 | c {t:Nat} {u:CV} (h:fr.env t=.c u):ShI fr (.tmp t) u
 | own {t:Nat} {b:Bool} {e:Nat} {ek:Option Nat} {xs:List CV} (h:fr.env t=.own b e ek xs):ShI fr (.tmp t) (.frz ek xs)
 | nils {t:Nat} (h:fr.env t=.nils):ShI fr (.tmp t) (.frz none [])
 | cell {a:Nat} {ek:Option Nat} {u:CV} (h:fr.env a=.lbox ek (.c u)):ShI fr (.cell a ek) u
def IRes.at:IRes→Nat
 | .tmp t=>t
 | .cell a _=>a
inductive ShL (fr:WFr):List IRes→List CV→Prop
 | nil:ShL fr [] []
 | cons {r:IRes} {u:CV} {rs:List IRes} {us:List CV} (h:ShI fr r u) (hs:ShL fr rs us):ShL fr (r::rs) (u::us)
def oneC:List CV→WV
 | [u]=>.c u
 | us=>.tup (us.map .c)
def fin (res:List IRes) (r:WV):Post:=fun fr H=>∃ vs r0 H',zf7 fr H res=some vs∧zq2 0 vs H=some (r0,H')∧shut r0=some r
structure Lv (v:WV) (t:Nat) (u:CV):Prop where
 src:srcC v=[]∨srcC v=[.sl t 0 0]
 ok:zo9 v=true
 sh:qe7 (zm1 0 v)=some u
 nt:∀ vs,zm1 0 v≠.tup vs
inductive LvL:List WV→List Nat→List CV→Prop
 | nil:LvL [] [] []
 | cons {v:WV} {t:Nat} {u:CV} {vs:List WV} {ts:List Nat} {us:List CV} (h:Lv v t u) (hs:LvL vs ts us):LvL (v::vs) (t::ts) (u::us)
theorem v19 {r:IRes} {u:CV} (h:ShI fr r u):∃ v,zf7 fr H [r]=some [v]∧Lv v r.at u:=by
 cases h with
 | c h=>exact ⟨_,rfl,by rw [h];exact ⟨.inl rfl,rfl,rfl,by intro vs h;cases h⟩⟩
 | own h=>exact ⟨_,rfl,by rw [h];exact ⟨.inr rfl,rfl,rfl,by intro vs h;cases h⟩⟩
 | nils h=>exact ⟨_,rfl,by rw [h];exact ⟨.inl rfl,rfl,rfl,by intro vs h;cases h⟩⟩
 | @cell a ek u h=>exact ⟨.c u,by simp only [zf7,h,if_true];rfl,⟨.inl rfl,rfl,rfl,by intro vs h;cases h⟩⟩
theorem j74 {r:IRes} {rs:List IRes} {v:WV} {vs:List WV} (h1:zf7 fr H [r]=some [v]) (h2:zf7 fr H rs=some vs):zf7 fr H (r::rs)=some (v::vs):=by
 cases r with
 | tmp t=>
   simp only [zf7] at h1 ⊢
   rw [h2]
   injection h1 with h1;injection h1 with h1
   rw [h1]
 | cell a ek=>
   simp only [zf7] at h1 ⊢
   rw [h2]
   split at h1
   · rename_i w l hw hl
     injection hl with hl;subst hl
     injection h1 with h1;injection h1 with h1 _
     subst h1
     rw [hw]
   · cases h1
theorem wq0:∀ {rs:List IRes} {us:List CV},ShL fr rs us→∃ vs,zf7 fr H rs=some vs∧LvL vs (rs.map IRes.at) us:=by
 intro rs us h
 induction h with
 | nil=>exact ⟨[],rfl,.nil⟩
 | cons h _ ih=>
   obtain ⟨v,h1,h2⟩:=v19 (H:=H) h
   obtain ⟨vs,h3,h4⟩:=ih
   exact ⟨v::vs,j74 h1 h3,.cons h2 h4⟩
theorem wp8:∀ {vs:List WV} {ts:List Nat} {us:List CV},LvL vs ts us→ts.Nodup→(ze5 vs).Nodup∧(∀ p∈ze5 vs,∃ t∈ts,p=.sl t 0 0):=by
 intro vs ts us h
 induction h with
 | nil=>intro _;exact ⟨List.nodup_nil,by intro p hp;cases hp⟩
 | @cons v t u vs ts us h _ ih=>
   intro hd
   rw [List.nodup_cons] at hd
   obtain ⟨a,b⟩:=ih hd.2
   simp only [ze5]
   rcases h.src with e | e
   · rw [e,List.nil_append]
     exact ⟨a,fun p hp=>by obtain ⟨t',h1,h2⟩:=b p hp;exact ⟨t',by simp [h1],h2⟩⟩
   · rw [e]
     refine ⟨?_,?_⟩
     · simp only [List.cons_append,List.nil_append,List.nodup_cons]
       refine ⟨?_,a⟩
       intro hp
       obtain ⟨t',h1,h2⟩:=b _ hp
       injection h2 with h2 _ _
       subst h2
       exact hd.1 h1
     · intro p hp
       simp only [List.cons_append,List.nil_append,List.mem_cons] at hp
       rcases hp with rfl | hp
       · exact ⟨t,by simp,rfl⟩
       · obtain ⟨t',h1,h2⟩:=b p hp;exact ⟨t',by simp [h1],h2⟩
theorem wy1:∀ {vs:List WV} {ts:List Nat} {us:List CV},LvL vs ts us→vs.all zo9=true∧qj8 (vs.map (zm1 0))=some (us.map .c):=by
 intro vs ts us h
 induction h with
 | nil=>exact ⟨rfl,rfl⟩
 | cons h _ ih=>exact ⟨by simp only [List.all_cons,h.ok,ih.1,Bool.and_self],by simp only [List.map_cons,qj8,h.sh,ih.2]⟩
theorem qh8 {res:List IRes} {us:List CV} (hd:(res.map IRes.at).Nodup) (h:ShL fr res us):fin res (oneC us) fr H:=by
 obtain ⟨vs,h1,h2⟩:=wq0 (H:=H) h
 obtain ⟨a,b⟩:=wp8 h2 hd
 obtain ⟨c,e⟩:=wy1 h2
 have f:(ze5 vs).all (zj6 0)=true:=by
  rw [List.all_eq_true]
  intro p hp
  obtain ⟨t,_,rfl⟩:=b p hp
  rfl
 have g:(ze5 vs).filter (zj6 0)=ze5 vs:=by rw [List.filter_eq_self];exact List.all_eq_true.1 f
 refine ⟨vs,ze8 (vs.map (zm1 0)),hitH false (ze5 vs) H,h1,?_,?_⟩
 · unfold zq2
   rw [g,if_pos ⟨a,c,.inr f⟩]
 · generalize res.map IRes.at=tl at h2
   cases h2 with
   | nil=>rfl
   | @cons v t u vs ts us hv1 hs=>
     cases hs with
     | nil=>
       show shut (zm1 0 v)=some (.c u)
       have:=hv1.sh
       have hn:=hv1.nt
       generalize zm1 0 v=w at this hn
       cases w<;>first | exact absurd rfl (hn _) | simp only [shut,this]
     | cons h' hs'=>
       simp only [List.map_cons] at e ⊢
       show shut (.tup _)=some (.tup _)
       simp only [shut,e]
       rfl
theorem fin1 {t:Nat} {u u':CV} (h:ShI fr (.tmp t) u) (e:u=u'):fin [.tmp t] (.c u') fr H:=by
 subst e
 exact qh8 (by simp) (.cons h .nil)
theorem z97 {t:Nat} {u u':CV} (h:fr.env t=.c u) (e:u=u'):fin [.tmp t] (.c u') fr H:=fin1 (.c h) e
theorem va0 {a:Nat} {ek:Option Nat} {u u':CV} (h:fr.env a=.lbox ek (.c u)) (e:u=u'):fin [.cell a ek] (.c u') fr H:=by
 subst e
 exact qh8 (by simp) (.cons (.cell h) .nil)
theorem z73 {f:Nat} {asv:List WV} {r:WV} {b:ICode} {rs:List IRes} (hg:V.fn f=some ⟨b,rs⟩) (h:WP V b (FL (zk5 0 asv) []) [] (fin rs r) [] (fin rs r)) (ha:arFn (V.ar f) asv.length (V.fn f)=V.fn f:=by exact rfl):Rets V f asv r:=by
 obtain ⟨s,fr1,H1,h1,h2⟩:=h
 have key:(s=.nrm∨s=.ret)→fin rs r fr1 H1→Rets V f asv r:=by
  rintro hs ⟨vs,r0,H2,g1,g2,g3⟩
  refine ⟨r0,H2,?_,g3⟩
  rw [wd7,wFn,WEnv.fnA,ha,hg]
  simp only [qs3,h1]
  rcases hs with rfl | rfl<;>simp only [g1]<;>exact g2
 cases s with
 | nrm=>exact key (.inl rfl) h2
 | ret=>exact key (.inr rfl) h2
 | exit i=>exact absurd h2 (by simp [outK,qp4])
 | goto i=>exact absurd h2 (by simp [outK])
end
end Go.Proofs.Lz
