/- The calculus: operations on closed values, on slices of one's own, on local boxes; calls; results. -/
import Derived.Test.YtencoceemejcnaaGreatDoorLzVc
set_option linter.unusedSimpArgs false
set_option linter.unusedVariables false
namespace Go.Proofs.Lz
section
variable {V:WEnv} {fr fr':WFr} {H H':q9} {N:f4} {B:Hs} {R:RP} {dst:Option Nat} {d:Nat}
def X8 (K:Pl->Bool) (fz:Bool):List (Nat×WV)->List (Nat×WV)
 | []=>[]
 | (s,v)::r=>(s,hit K fz (Pl.sl s) v)::X8 K fz r
theorem zr3 (K:Pl->Bool) (fz:Bool):∀ l,frl (X8 K fz l)=fun s=>hit K fz (Pl.sl s) (frl l s):=by
 intro l;induction l with
 | nil=>rfl
 | cons p r ih=>
   obtain ⟨t,v⟩:=p;funext s;show (bif Nat.beq s t then hit K fz (Pl.sl t) v else frl (X8 K fz r) s)=hit K fz (Pl.sl s) (bif Nat.beq s t then v else frl r s);rw [zQ,zQ,ih];by_cases hs:s=t
   . subst hs;simp only [if_true]
   . simp only [if_neg hs]
theorem tH (K:Pl->Bool) (fz:Bool) (l:List (Nat×WV)) (a:List (Nat×Option (Nat×Nat))):D1 K fz (FL l a)=FL (X8 K fz l) a:=by
 unfold D1 FL;rw [zr3]
def H5 (b:Nat):WV->Bool
 | .view p _ _ _ _ _=>!I4 b p
 | .eptr p _ _ _ _=>!I4 b p
 | _=>true
def K2 (b:Nat):WV->Bool
 | .agg cs=>cs.all (H5 b)
 | v=>H5 b v
def X4 (b:Nat):WV->Bool
 | .tup vs=>vs.all (K2 b)
 | .lbox _ v=>K2 b v
 | v=>K2 b v
def clean (b:Nat):List (Nat×WV)->Bool
 | []=>true
 | (s,v)::r=>(Nat.beq s b||X4 b v)&&clean b r
theorem slot_ne {b s i k:Nat} (h:s≠b):I4 b (.sl s i k)=false:=by simp [I4,h]
section
variable {K:Pl->Bool} {b:Nat} (hK:∀ p,K p=true->I4 b p=true)
theorem z78 (hK:∀ p,K p=true->I4 b p=true) {s i k:Nat} (hs:s≠b) {v:WV} (h:H5 b v=true):l8 K false (.sl s i k) v=v:=by
 have key:∀ p,I4 b p=false->K p=false:=by
  intro p hp;cases hk:K p with
  | true=>rw [hK p hk] at hp;cases hp
  | false=>rfl
 cases v with
 | own bb e ek xs=>simp only [l8,key _ (slot_ne hs)];rfl
 | view p bb off e ek xs=>
   have:I4 b p=false:=by simpa [H5] using h
   simp only [l8,key p this];rfl
 | eptr p i off ek x=>
   have:I4 b p=false:=by simpa [H5] using h
   simp only [l8,key p this];rfl
 | _=>rfl
theorem zy8 (hK:∀ p,K p=true->I4 b p=true) {s i:Nat} (hs:s≠b):∀ (k:Nat) (cs:List WV),cs.all (H5 b)=true->K1 K false (Pl.sl s i) k cs=cs:=by
 intro k cs;induction cs generalizing k with
 | nil=>intro _;rfl
 | cons v r ih=>
   intro h;simp only [List.all_cons,Bool.and_eq_true] at h;simp only [K1,z78 hK hs h.1,ih _ h.2]
theorem aO (hK:∀ p,K p=true->I4 b p=true) {s i:Nat} (hs:s≠b) {v:WV} (h:K2 b v=true):A8 K false (Pl.sl s i) v=v:=by
 have h1:∀ w,K2 b w=H5 b w->A8 K false (Pl.sl s i) w=l8 K false (Pl.sl s i 0) w->K2 b w=true->A8 K false (Pl.sl s i) w=w:=fun w e1 e2 e3=>by rw [e2];exact z78 hK hs (by rw [<-e1];exact e3)
 cases v<;>first | exact h1 _ rfl rfl h | (simp only [A8];rw [zy8 hK hs 0 _ h])
theorem qv3 (hK:∀ p,K p=true->I4 b p=true) {s:Nat} (hs:s≠b):∀ (i:Nat) (vs:List WV),vs.all (K2 b)=true->K6 K false (Pl.sl s) i vs=vs:=by
 intro i vs;induction vs generalizing i with
 | nil=>intro _;rfl
 | cons v r ih=>
   intro h;simp only [List.all_cons,Bool.and_eq_true] at h;simp only [K6,aO hK hs h.1,ih _ h.2]
theorem zq3 (hK:∀ p,K p=true->I4 b p=true) {s:Nat} (hs:s≠b) {v:WV} (h:X4 b v=true):hit K false (Pl.sl s) v=v:=by
 have h1:∀ w,X4 b w=K2 b w->hit K false (Pl.sl s) w=A8 K false (Pl.sl s 0) w->X4 b w=true->hit K false (Pl.sl s) w=w:=fun w e1 e2 e3=>by rw [e2];exact aO hK hs (by rw [<-e1];exact e3)
 cases v<;>first | exact h1 _ rfl rfl h | (simp only [hit,qv3 hK hs 0 _ h];done) | (simp only [hit];rw [aO hK hs h])
theorem je8 {s:Nat} (hs:s≠b):∀ {l:List (Nat×WV)},clean b l=true->X4 b (frl l s)=true:=by
 intro l;induction l with
 | nil=>intro _;rfl
 | cons p r ih=>
   obtain ⟨t,v⟩:=p;intro h;simp only [clean,Bool.and_eq_true,Bool.or_eq_true] at h;show X4 b (bif Nat.beq s t then v else frl r s)=true;rw [zQ];by_cases hst:s=t
   . rw [if_pos hst];rcases h.1 with h1 | h1
     . exact absurd (hst.trans (Nat.eq_of_beq_eq_true h1)) hs
     . exact h1
   . rw [if_neg hst];exact ih h.2
theorem gC (hK:∀ p,K p=true->I4 b p=true) {l:List (Nat×WV)} {a:List (Nat×Option (Nat×Nat))} (h:clean b l=true) (v:WV):upd (D1 K false (FL l a)).env b v=frl ((b,v)::l):=by
 rw [<-vZ];funext s;show (if s=b then v else hit K false (Pl.sl s) (frl l s))=if s=b then v else frl l s
 by_cases hs:s=b
 . rw [if_pos hs,if_pos hs]
 . rw [if_neg hs,if_neg hs,zq3 hK hs (je8 hs h)]
end
theorem qg1 {K:Pl->Bool} {fz:Bool} {b:Nat} {pl:Pl} {v:WV} (h:H5 b v=true):H5 b (l8 K fz pl v)=true:=by
 cases v with
 | own bb e ek xs=>cases h1:K pl<;>cases fz<;>simp [l8,h1,H5]
 | view p bb off e ek xs=>cases h1:K p<;>simp [l8,h1,H5];simpa [H5] using h
 | eptr p i off ek x=>cases h1:K p<;>simp [l8,h1,H5];simpa [H5] using h
 | _=>rfl
theorem z48 {K:Pl->Bool} {fz:Bool} {b:Nat} {q:Nat->Pl}:∀ (k:Nat) (cs:List WV),cs.all (H5 b)=true->(K1 K fz q k cs).all (H5 b)=true:=by
 intro k cs;induction cs generalizing k with
 | nil=>intro _;rfl
 | cons v r ih=>
   intro h;simp only [List.all_cons,Bool.and_eq_true] at h;simp only [K1,List.all_cons,qg1 h.1,ih _ h.2,Bool.and_self]
theorem z71 {K:Pl->Bool} {fz:Bool} {b:Nat} {q:Nat->Pl} {v:WV} (h:K2 b v=true):K2 b (A8 K fz q v)=true:=by
 cases v with
 | agg cs=>exact z48 0 cs h
 | own bb e ek xs=>cases h1:K (q 0)<;>cases fz<;>simp [A8,l8,h1,K2,H5]
 | view p bb off e ek xs=>cases h1:K p<;>simp [A8,l8,h1,K2,H5];simpa [K2,H5] using h
 | eptr p i off ek x=>cases h1:K p<;>simp [A8,l8,h1,K2,H5];simpa [K2,H5] using h
 | _=>rfl
theorem ja0 {K:Pl->Bool} {fz:Bool} {b:Nat} {q:Nat->Nat->Pl}:∀ (i:Nat) (vs:List WV),vs.all (K2 b)=true->(K6 K fz q i vs).all (K2 b)=true:=by
 intro i vs;induction vs generalizing i with
 | nil=>intro _;rfl
 | cons v r ih=>
   intro h;simp only [List.all_cons,Bool.and_eq_true] at h;simp only [K6,List.all_cons,z71 h.1,ih _ h.2,Bool.and_self]
theorem q51 {K:Pl->Bool} {fz:Bool} {b:Nat} {q:Nat->Nat->Pl} {v:WV} (h:X4 b v=true):X4 b (hit K fz q v)=true:=by
 cases v with
 | tup vs=>exact ja0 0 vs h
 | lbox ek v=>exact z71 (q:=q 0) h
 | agg cs=>exact z48 0 cs h
 | own bb e ek xs=>cases h1:K (q 0 0)<;>cases fz<;>simp [hit,A8,l8,h1,X4,K2,H5]
 | view p bb off e ek xs=>cases h1:K p<;>simp [hit,A8,l8,h1,X4,K2,H5];simpa [X4,K2,H5] using h
 | eptr p i off ek x=>cases h1:K p<;>simp [hit,A8,l8,h1,X4,K2,H5];simpa [X4,K2,H5] using h
 | _=>rfl
theorem j0 {K:Pl->Bool} {fz:Bool} {b:Nat}:∀ {l:List (Nat×WV)},clean b l=true->clean b (X8 K fz l)=true:=by
 intro l;induction l with
 | nil=>intro _;rfl
 | cons p r ih=>
   obtain ⟨t,v⟩:=p;intro h;simp only [clean,Bool.and_eq_true,Bool.or_eq_true] at h;simp only [X8,clean,Bool.and_eq_true,Bool.or_eq_true];exact ⟨h.1.imp id q51,ih h.2⟩
theorem dX {l:List (Nat×WV)} {v:WV} (ho:A5 v=true) (hc:clean d l=true):Put (FL l []) (some d) v (FL ((d,v)::l) []):=⟨by
 show WFr.putD (FL l []) d v=_;unfold WFr.putD;rw [ho,if_pos rfl];unfold WFr.put1;rw [gC (fun _ h=>h) hc];show ({ env:=frl ((d,v)::l),al:=upd (lookA []) d none }:WFr)=_;rw [lP];rfl⟩
theorem vO {l:List (Nat×WV)} {a:List (Nat×Option (Nat×Nat))} {v:WV} (ho:A5 v=true):Put (FL l a) (some d) v (FL ((d,v)::X8 (I4 d) false l) ((d,none)::a)):=⟨by
 show WFr.putD (FL l a) d v=_;unfold WFr.putD;rw [ho,if_pos rfl,tH];simp only [WFr.put1,FL,vZ,cL]⟩
theorem jg8 {d s:Nat} {v:WV} (h:B6 v=[]):xG d s v fr H=some (fr.put (some d) v,H):=by
 unfold xG;rw [h]
theorem dK {x:Opd} {v:WV} (hp:fr.place x=none) (hx:fr.rd x=v) (hv:okW v=true) (hs:B6 v=[]) (hq:Put fr dst v fr') (h:N fr' H):OpP V (.mv x) dst fr H N:=by
 refine ⟨fr',H,?_,h⟩;show y8 (.mv x) dst fr H=_;simp only [y8,hp,hx,if_pos hv];cases dst with
 | none=>simp only [hq.eq]
 | some d=>
   cases x with
   | k c=>simp only [hq.eq]
   | t s=>
     simp only;split
     . rw [jg8 hs,hq.eq]
     . rw [hq.eq]
theorem j7 {x:Opd} {u:CV} (hp:fr.place x=none) (hx:fr.rd x=.c u) (hq:Put fr dst (.c u) fr') (h:N fr' H):OpP V (.mv x) dst fr H N:=dK hp hx rfl rfl hq h
theorem C7 {x:Opd} (hp:fr.place x=none) (hx:fr.rd x=.nils) (hq:Put fr dst .nils fr') (h:N fr' H):OpP V (.mv x) dst fr H N:=dK hp hx rfl rfl hq h
theorem m6 {x:Opd} {id off:Nat} (hp:fr.place x=none) (hx:fr.rd x=.ptr id off) (hq:Put fr dst (.ptr id off) fr') (h:N fr' H):OpP V (.mv x) dst fr H N:=dK hp hx rfl rfl hq h
theorem A9 {x:Opd} {vs:List WV} (hp:fr.place x=none) (hx:fr.rd x=.tup vs) (hs:M4 vs=[]) (hq:Put fr dst (.tup vs) fr') (h:N fr' H):OpP V (.mv x) dst fr H N:=dK hp hx rfl hs hq h
theorem P0 {s:Nat} {p:Pl} {b:Bool} {off e:Nat} {ek:Option Nat} {xs:List CV} (hp:fr.place (.t s)=none) (hx:fr.rd (.t s)=.view p b off e ek xs) (hd:(decide (d<s)&&kY s d p)=false) (hq:Put fr (some d) (.view p b off e ek xs) fr') (h:N fr' H):OpP V (.mv (.t s)) (some d) fr H N:=by
 refine ⟨fr',H,?_,h⟩;show y8 (.mv (.t s)) (some d) fr H=_;simp only [y8,hp,hx,okW,if_true];split
 . rename_i hlt;have hm:kY s d p=false:=by simpa [hlt] using hd
   unfold xG;simp only [B6,E4,I6,List.all_cons,hm,List.all_nil,Bool.and_true,Bool.false_eq_true,if_false,hq.eq]
 . rw [hq.eq]
theorem zl2 {p i k:Nat} {l:List (Nat×WV)} {a:List (Nat×Option (Nat×Nat))} {fz:Bool}:O9 [.sl p i k] fz (FL l a) H=(FL (X8 (inK [.sl p i k]) fz l) a,H):=by
 show (D1 (inK [.sl p i k]) fz (FL l a),D8 fz [.sl p i k] H)=_;rw [tH];rfl
theorem zC {s p:Nat} {b:Bool} {off e:Nat} {ek:Option Nat} {xs:List CV} {l:List (Nat×WV)} {a:List (Nat×Option (Nat×Nat))} (hp:(FL l a).place (.t s)=none) (hx:(FL l a).rd (.t s)=.view (.sl p 0 0) b off e ek xs)
 (hd:(decide (d<s)&&kY s d (.sl p 0 0))=true) (hq:Put (FL (X8 (inK [.sl p 0 0]) false l) a) (some d) (.own b e ek xs) fr') (h:N fr' H):OpP V (.mv (.t s)) (some d) (FL l a) H N:=by
 refine ⟨fr',H,?_,h⟩;simp only [Bool.and_eq_true,decide_eq_true_eq] at hd;show y8 (.mv (.t s)) (some d) (FL l a) H=_;simp only [y8,hp,hx,okW,if_true,if_pos hd.1];unfold xG;have hn:([Pl.sl p 0 0]:List Pl).Nodup:=by simp
 simp only [B6,E4,I6,List.all_cons,hd.2,List.all_nil,Bool.and_true,if_true,Lz.take,if_pos hn,zl2,E5,s8,K3,hq.eq]
theorem s6 {op:UnOp} {x:Opd} {a v:CV} (hx:fr.rd x=.c a) (hv:unC op a=some v) (hq:Put fr dst (.c v) fr') (h:N fr' H):OpP V (.un op x) dst fr H N:=
 ⟨fr',H,by show y8 (.un op x) dst fr H=_;simp only [y8,hx,hv,Option.map,M5,hq.eq],h⟩
theorem j9 {op:BinOp} {x y:Opd} {a b v:CV} (hx:fr.rd x=.c a) (hy:fr.rd y=.c b) (hv:S5 op a b=some v) (hq:Put fr dst (.c v) fr') (h:N fr' H):OpP V (.bin op x y) dst fr H N:=
 ⟨fr',H,by show y8 (.bin op x y) dst fr H=_;simp only [y8,hx,hy,hv,Option.map,M5,hq.eq],h⟩
theorem wrap64 {x:Int} (h:-9223372036854775808<=x/\x<9223372036854775808):IntKind.i64.wrap x=x:=by
 simp [IntKind.wrap,IntKind.bits,IntKind.signed,IntKind.max,IntKind.min];omega
theorem b6 {x y:Opd} {a b:Int} (hx:fr.rd x=.c (.int .i64 a)) (hy:fr.rd y=.c (.int .i64 b)) (hb:-9223372036854775808<=a+b/\a+b<9223372036854775808) (hq:Put fr dst (.c (.int .i64 (a+b))) fr') (h:N fr' H):OpP V (.bin .add x y) dst fr H N:=
 j9 hx hy (by simp only [S5,if_true,wrap64 hb]) hq h
theorem I9 {x y:Opd} {a b:Int} (hx:fr.rd x=.c (.int .i64 a)) (hy:fr.rd y=.c (.int .i64 b)) (hb:-9223372036854775808<=a - b/\a - b<9223372036854775808) (hq:Put fr dst (.c (.int .i64 (a - b))) fr') (h:N fr' H):OpP V (.bin .sub x y) dst fr H N:=
 j9 hx hy (by simp only [S5,if_true,wrap64 hb]) hq h
theorem Y6 {x y:Opd} {a b:Int} (hx:fr.rd x=.c (.int .i64 a)) (hy:fr.rd y=.c (.int .i64 b)) (hb:-9223372036854775808<=a * b/\a * b<9223372036854775808) (hq:Put fr dst (.c (.int .i64 (a * b))) fr') (h:N fr' H):OpP V (.bin .mul x y) dst fr H N:=
 j9 hx hy (by simp only [S5,if_true,wrap64 hb]) hq h
theorem lY {x y:Opd} {a b:List UInt8} (hx:fr.rd x=.c (.str a)) (hy:fr.rd y=.c (.str b)) (hb:a.length+b.length<=9223372036854775807) (hq:Put fr dst (.c (.str (a++b))) fr') (h:N fr' H):OpP V (.bin .add x y) dst fr H N:=
 j9 hx hy (by simp only [S5,if_pos hb]) hq h
theorem nS {neg:Bool} {ks:List Nat} {x y:Opd} {a b:List CV} {v:Bool} (hx:fr.rd x=.c (.agg a)) (hy:fr.rd y=.c (.agg b)) (hv:eqL ks a b=some v) (hq:Put fr dst (.c (.bool (if neg then !v else v))) fr') (h:N fr' H):OpP V (.eqs neg ks x y) dst fr H N:=
 ⟨fr',H,by show y8 (.eqs neg ks x y) dst fr H=_;simp only [y8,hx,hy,hv,Option.map,M5,hq.eq],h⟩
theorem qv5 {c a b:Opd} {v:WV} (hc:fr.rd c=.c (.bool true)) (ha:fr.rd a=v) (hv:okW v=true) (hq:Put fr dst v fr') (h:N fr' H):OpP V (.pick c a b) dst fr H N:=
 ⟨fr',H,by show y8 (.pick c a b) dst fr H=_;simp only [y8,hc,if_true,ha,if_pos hv,hq.eq],h⟩
theorem qz9 {c a b:Opd} {v:WV} (hc:fr.rd c=.c (.bool false)) (ha:fr.rd b=v) (hv:okW v=true) (hq:Put fr dst v fr') (h:N fr' H):OpP V (.pick c a b) dst fr H N:=
 ⟨fr',H,by show y8 (.pick c a b) dst fr H=_;simp only [y8,hc,Bool.false_eq_true,if_false,ha,if_pos hv,hq.eq],h⟩
theorem y9 {c a b:Opd} {v:CV} {t:Bool} (hc:fr.rd c=.c (.bool t)) (ht:t=true) (ha:fr.rd a=.c v) (hq:Put fr dst (.c v) fr') (h:N fr' H):OpP V (.pick c a b) dst fr H N:=qv5 (ht▸hc) ha rfl hq h
theorem y0 {c a b:Opd} {v:CV} {t:Bool} (hc:fr.rd c=.c (.bool t)) (ht:t=false) (ha:fr.rd b=.c v) (hq:Put fr dst (.c v) fr') (h:N fr' H):OpP V (.pick c a b) dst fr H N:=qz9 (ht▸hc) ha rfl hq h
theorem cK {neg:Bool} {k:Nat} {x:Opd} {b:Bool} (hx:tP k (fr.rd x)=some b) (hq:Put fr dst (.c (.bool (if neg then !b else b))) fr') (h:N fr' H):OpP V (.isn neg k x) dst fr H N:=
 ⟨fr',H,by show y8 (.isn neg k x) dst fr H=_;simp only [y8,hx,hq.eq],h⟩
theorem wE {k k':IntKind} {x:Opd} {n:Int} (hx:fr.rd x=.c (.int k' n)) (hq:Put fr dst (.c (.int k (k.wrap n))) fr') (h:N fr' H):OpP V (.cvt k x) dst fr H N:=
 ⟨fr',H,by show y8 (.cvt k x) dst fr H=_;simp only [y8,hx,hq.eq],h⟩
theorem R1 {k':IntKind} {x:Opd} {n:Int} (hx:fr.rd x=.c (.int k' n)) (hb:-9223372036854775808<=n/\n<9223372036854775808) (hq:Put fr dst (.c (.int .i64 n)) fr') (h:N fr' H):OpP V (.cvt .i64 x) dst fr H N:=
 wE hx (by rw [wrap64 hb];exact hq) h
theorem uC {st:Bool} {x:Opd} {v:WV} {n:Nat} (hx:fr.rd x=v) (hn:sS st v=some n) (hq:Put fr dst (.c (.int .i64 n)) fr') (h:N fr' H):OpP V (.len st x) dst fr H N:=
 ⟨fr',H,by show y8 (.len st x) dst fr H=_;simp only [y8,hx,hn,hq.eq],h⟩
theorem u5 {x:Opd} {s:List UInt8} (hx:fr.rd x=.c (.str s)) (hq:Put fr dst (.c (.int .i64 s.length)) fr') (h:N fr' H):OpP V (.len true x) dst fr H N:=uC hx rfl hq h
theorem q83 {α:Type} {x:Opd} {ek:Option Nat} {l:List α} {f:α->CV} (hx:fr.rd x=.c (.frz ek (l.map f))) (hq:Put fr dst (.c (.int .i64 l.length)) fr') (h:N fr' H):OpP V (.len false x) dst fr H N:=
 uC hx (by show some (l.map f).length=_;rw [List.length_map]) hq h
theorem jh8 {x:Opd} {ek:Option Nat} {xs:List CV} (hx:fr.rd x=.c (.frz ek xs)) (hq:Put fr dst (.c (.int .i64 xs.length)) fr') (h:N fr' H):OpP V (.len false x) dst fr H N:=uC hx rfl hq h
theorem z29 {x:Opd} {p:Pl} {b:Bool} {off e:Nat} {ek:Option Nat} {xs:List CV} (hx:fr.rd x=.view p b off e ek xs) (hq:Put fr dst (.c (.int .i64 xs.length)) fr') (h:N fr' H):OpP V (.len false x) dst fr H N:=uC hx rfl hq h
theorem jI {x:Opd} (hx:fr.rd x=.nils) (hq:Put fr dst (.c (.int .i64 0)) fr') (h:N fr' H):OpP V (.len false x) dst fr H N:=uC hx rfl hq h
theorem x7 {x i:Opd} {s:List UInt8} {k:IntKind} {n:Int} {m:Nat} {b:UInt8} (hx:fr.rd x=.c (.str s)) (hi:fr.rd i=.c (.int k n)) (hn:n=(m:Nat)) (hb:s[m]?=some b) (hq:Put fr dst (.c (.int .u8 b.toNat)) fr') (h:N fr' H):OpP V (.six x i) dst fr H N:=
 ⟨fr',H,by show y8 (.six x i) dst fr H=_;subst hn;simp only [y8,hx,hi,Y4,if_pos (Int.natCast_nonneg m),Int.toNat_natCast,hb,hq.eq],h⟩
theorem qq3 {x i:Opd} {ek:Option Nat} {xs:List CV} {k:IntKind} {n:Int} {m:Nat} {v:CV} (hx:fr.rd x=.c (.frz ek xs)) (hi:fr.rd i=.c (.int k n)) (hn:n=(m:Nat)) (hb:xs[m]?=some v) (hq:Put fr dst (.c (.fptr ek v 0)) fr') (h:N fr' H):OpP V (.ix ek x i) dst fr H N:=
 ⟨fr',H,by show y8 (.ix ek x i) dst fr H=_;subst hn;simp only [y8,hx,hi,Y4,ixW,true_and,if_pos (Int.natCast_nonneg m),Int.toNat_natCast,hb,M5,hq.eq],h⟩
theorem z45 {α:Type} {x i:Opd} {ek:Option Nat} {l:List α} {f:α->CV} {k:IntKind} {n:Int} {m:Nat} {y:α} (hx:fr.rd x=.c (.frz ek (l.map f))) (hi:fr.rd i=.c (.int k n)) (hn:n=(m:Nat)) (hb:l[m]?=some y) (hq:Put fr dst (.c (.fptr ek (f y) 0)) fr') (h:N fr' H):OpP V (.ix ek x i) dst fr H N:=
 qq3 hx hi hn (by rw [List.getElem?_map,hb];rfl) hq h
theorem ji3 {ek ek':Option Nat} {a:Opd} {x v:CV} {off:Nat} (hp:fr.place a=none) (ha:fr.rd a=.c (.fptr ek' x off)) (hv:P4 ek' ek x off=some v) (hq:Put fr dst (.c v) fr') (h:N fr' H):OpP V (.load ek a) dst fr H N:=
 ⟨fr',H,by show y8 (.load ek a) dst fr H=_;simp only [y8,hp,ha,Q8,hv,Option.map,M5,hq.eq],h⟩
theorem fE {ek:Option Nat} {a:Opd} {x:CV} (hp:fr.place a=none) (ha:fr.rd a=.c (.fptr ek x 0)) (hq:Put fr dst (.c x) fr') (h:N fr' H):OpP V (.load ek a) dst fr H N:=
 ji3 hp ha (by simp only [P4,and_self,if_true]) hq h
theorem j48 {ek ek':Option Nat} {a:Opd} {b off:Nat} {x v:WV} (hp:fr.place a=some (b,off)) (hb:fr.env b=.lbox ek' x) (hv:(if off=0/\ek'=ek then some (G9 (Pl.sl b 0) x) else X6 ek (G9 (Pl.sl b 0) x).flat off)=some v) (hq:Put fr dst v fr') (h:N fr' H):OpP V (.load ek a) dst fr H N:=
 ⟨fr',H,by show y8 (.load ek a) dst fr H=_;simp only [y8,hp,hb,hv,M5,hq.eq],h⟩
theorem C5 {ek ek':Option Nat} {a:Opd} {b off:Nat} {x:WV} {v:CV} (hp:fr.place a=some (b,off)) (hb:fr.env b=.lbox ek' x) (hv:(if off=0/\ek'=ek then some (G9 (Pl.sl b 0) x) else X6 ek (G9 (Pl.sl b 0) x).flat off)=some (.c v)) (hq:Put fr dst (.c v) fr') (h:N fr' H):OpP V (.load ek a) dst fr H N:=
 j48 hp hb hv hq h
theorem s9 {n off id:Nat} {a:Opd} (hp:fr.place a=none) (ha:fr.rd a=.ptr id off) (hq:Put fr dst (.ptr id (off+n)) fr') (h:N fr' H):OpP V (.faddr n a) dst fr H N:=
 ⟨fr',H,by show y8 (.faddr n a) dst fr H=_;simp only [y8,hp,ha,hq.eq],h⟩
theorem l5 {off id:Nat} {a:Opd} (hp:fr.place a=none) (ha:fr.rd a=.ptr id off) (hq:Put fr dst (.ptr id off) fr') (h:N fr' H):OpP V (.nck a) dst fr H N:=
 ⟨fr',H,by show y8 (.nck a) dst fr H=_;simp only [y8,hp,ha,hq.eq],h⟩
structure Lnk (fr:WFr) (dst:Option Nat) (b off:Nat) (fr':WFr):Prop where
 eq:fr.link dst b off=fr'
 ne:dst≠some b
theorem qy1 (n:Nat):Nat.beq n n=true:=by
 have:=zQ n n true false;rw [if_pos rfl] at this;cases h:Nat.beq n n with
 | true=>rfl
 | false=>rw [h] at this;cases this
theorem E2 {l:List (Nat×WV)} {a:List (Nat×Option (Nat×Nat))} {b off:Nat} (hd:Nat.beq d b=false):Lnk (FL l a) (some d) b off (FL ((d,.undef)::l) ((d,some (b,off))::a)):=
 ⟨by simp only [WFr.link,FL,vZ,cL],by intro e;injection e with e;subst e;rw [qy1 d] at hd;cases hd⟩
theorem D9 {n:Nat} {x:Opd} {b off:Nat} (hp:fr.place x=some (b,off)) (hl:Lnk fr dst b (off+n) fr') (h:N fr' H):OpP V (.faddr n x) dst fr H N:=
 ⟨fr',H,by show y8 (.faddr n x) dst fr H=_;simp only [y8,hp,xO,if_neg hl.ne,hl.eq],h⟩
theorem l6 {zero:List HV} {parts:List (Nat×Nat×Opd)} {cs:List WV} {u:CV} (hz:zero.all isC=true) (hf:wP (zero.map qB) (parts.map fun p=>(p.1,p.2.1,fr.rd p.2.2))=some cs) (hm:Z1 cs=.c u) (hq:Put fr dst (.c u) fr') (h:N fr' H):OpP V (.build zero parts) dst fr H N:=
 ⟨fr',H,by show y8 (.build zero parts) dst fr H=_;simp only [y8,if_pos hz,hf,hm,hq.eq],h⟩
theorem qt9 {zero:List HV} {parts:List (Nat×Nat×Opd)} {cs:List WV} {u:WV} (hz:zero.all isC=true) (hf:wP (zero.map qB) (parts.map fun p=>(p.1,p.2.1,fr.rd p.2.2))=some cs) (hm:Z1 cs=u) (hq:Put fr dst u fr') (h:N fr' H):OpP V (.build zero parts) dst fr H N:=
 ⟨fr',H,by show y8 (.build zero parts) dst fr H=_;simp only [y8,if_pos hz,hf,hm,hq.eq],h⟩
theorem q60 {zero:List HV} {parts:List (Nat×Nat×Opd)} {cs us:List WV} (hz:zero.all isC=true) (hf:wP (zero.map qB) (parts.map fun p=>(p.1,p.2.1,fr.rd p.2.2))=some cs) (hm:Z1 cs=.agg us) (hq:Put fr dst (.agg us) fr') (h:N fr' H):OpP V (.build zero parts) dst fr H N:=qt9 hz hf hm hq h
theorem qg8 {e:Nat} {ek:Option Nat} {zero:List CV} {n:Nat} {parts:List (Nat×Opd)} {z:CV} {xs:List CV} (hz:J1 ek zero=some z) (hf:fits ek z=true) (hr:zS ek (List.replicate n z) (parts.map fun p=>(p.1,fr.rd p.2))=some (xs,[])) (hq:Put fr dst (.c (.frz ek xs)) fr') (h:N fr' H):OpP V (.bsl true e ek zero n parts) dst fr H N:=
 ⟨fr',H,by show y8 (.bsl true e ek zero n parts) dst fr H=_;simp only [y8,hz,if_pos hf,hr,O9,if_true,hq.eq],h⟩
def inOrder:Nat->List (Nat×Opd)->Bool
 | _,[]=>true
 | k,p::r=>Nat.beq p.1 k&&inOrder (k+1) r
theorem qb7 {ek:Option Nat} {z:CV}:∀ (parts:List (Nat×Opd)) (pre vs:List CV),inOrder pre.length parts=true->J5 (parts.map fun p=>fr.rd p.2)=some vs->vs.all (fits ek)=true ->
 zS ek (pre++List.replicate parts.length z) (parts.map fun p=>(p.1,fr.rd p.2))=some (pre++vs,[]):=by
 intro parts;induction parts with
 | nil=>
   intro pre vs _ hc _;simp only [List.map_nil,J5,Option.some.injEq] at hc;subst hc;simp [zS]
 | cons p r ih=>
   intro pre vs hi hc hf;simp only [inOrder,Bool.and_eq_true] at hi;have hp:p.1=pre.length:=Nat.eq_of_beq_eq_true hi.1;simp only [List.map_cons] at hc ⊢;generalize fr.rd p.2=w at hc ⊢;unfold J5 at hc;split at hc
   . rename_i e;cases e
   . rename_i v r' e;injection e with e1 e2;subst e1;subst e2;split at hc
     . rename_i l hl;injection hc with hc;subst hc;simp only [List.all_cons,Bool.and_eq_true] at hf;have hset:(pre++List.replicate (r.length+1) z).set pre.length v=(pre++[v])++List.replicate r.length z:=by
        rw [List.set_append_right _ _ (Nat.le_refl _),Nat.sub_self,List.replicate_succ,List.set_cons_zero];simp
       have:=ih (pre++[v]) l (by simpa using hi.2) hl hf.2;simp only [zS,uJ,pK,List.length_cons,List.length_append,List.length_replicate,hp,show pre.length<pre.length+(r.length+1) by omega,hf.1,and_self,if_true,hset,this];simp
     . cases hc
   . cases hc
theorem zO {e:Nat} {ek:Option Nat} {zero:List CV} {n:Nat} {parts:List (Nat×Opd)} {z:CV} {xs:List CV} (hz:J1 ek zero=some z) (hf:fits ek z=true) (hn:Nat.beq parts.length n=true) (ho:inOrder 0 parts=true) (hr:J5 (parts.map fun p=>fr.rd p.2)=some xs) (ha:xs.all (fits ek)=true) (hq:Put fr dst (.c (.frz ek xs)) fr') (h:N fr' H):OpP V (.bsl true e ek zero n parts) dst fr H N:=by
 have hn:=Nat.eq_of_beq_eq_true hn;subst hn;exact qg8 hz hf (by simpa using qb7 (z:=z) parts [] xs ho hr ha) hq h
theorem aD {x:Opd} {lo hi:Option Opd} {s:List UInt8} {l h:Option Int} (hl:zJ fr lo=some l) (hh:zJ fr hi=some h) (hx:fr.rd x=.c (.str s)) (h0:0<=l.getD 0/\l.getD 0<=h.getD s.length/\h.getD s.length<=s.length)
 (hq:Put fr dst (.c (.str ((s.drop (l.getD 0).toNat).take ((h.getD s.length).toNat - (l.getD 0).toNat)))) fr') (hN:N fr' H):OpP V (.slc true none x lo hi) dst fr H N:=
 ⟨fr',H,by show y8 (.slc true none x lo hi) dst fr H=_;simp only [y8,hl,hh,hx,wK,true_and,if_pos h0,M5,hq.eq],hN⟩
theorem W9 {x lo:Opd} {s:List UInt8} {k:IntKind} {n:Int} {m:Nat} (hx:fr.rd x=.c (.str s)) (hl:fr.rd lo=.c (.int k n)) (hn:n=(m:Nat)) (hm:m<=s.length) (hq:Put fr dst (.c (.str (s.drop m))) fr') (hN:N fr' H):OpP V (.slc true none x (some lo) none) dst fr H N:=by
 subst hn;refine aD (l:=some (m:Int)) (h:=none) (by simp only [zJ,hl,Y4]) rfl hx (by simp only [Option.getD];omega) ?_ hN;have:(s.drop m).take (s.length - m)=s.drop m:=by rw [List.take_of_length_le];simp
 simpa [this] using hq
theorem mW {x lo:Opd} {s:List UInt8} {k:IntKind} {m:Nat} (hx:fr.rd x=.c (.str s)) (hl:fr.rd lo=.c (.int k ((m:Int)+1))) (hm:m+1<=s.length) (hq:Put fr dst (.c (.str (s.drop (m+1)))) fr') (hN:N fr' H):OpP V (.slc true none x (some lo) none) dst fr H N:=
 W9 (m:=m+1) hx hl (by simp) hm hq hN
theorem lW {x lo:Opd} {s:List UInt8} {k:IntKind} {n:Int} (hx:fr.rd x=.c (.str s)) (hl:fr.rd lo=.c (.int k n)) (hn:0<=n) (hm:n.toNat<=s.length) (hq:Put fr dst (.c (.str (s.drop n.toNat))) fr') (hN:N fr' H):OpP V (.slc true none x (some lo) none) dst fr H N:=
 W9 hx hl (Int.toNat_of_nonneg hn).symm hm hq hN
theorem qF {x hi:Opd} {s:List UInt8} {k:IntKind} {n:Int} {m:Nat} (hx:fr.rd x=.c (.str s)) (hl:fr.rd hi=.c (.int k n)) (hn:n=(m:Nat)) (hm:m<=s.length) (hq:Put fr dst (.c (.str (s.take m))) fr') (hN:N fr' H):OpP V (.slc true none x none (some hi)) dst fr H N:=by
 subst hn;refine aD (l:=none) (h:=some (m:Int)) rfl (by simp only [zJ,hl,Y4]) hx (by simp only [Option.getD];omega) ?_ hN;simpa using hq
theorem xB {x hi:Opd} {s:List UInt8} {k:IntKind} {n:Int} (hx:fr.rd x=.c (.str s)) (hl:fr.rd hi=.c (.int k n)) (hn:0<=n) (hm:n.toNat<=s.length) (hq:Put fr dst (.c (.str (s.take n.toNat))) fr') (hN:N fr' H):OpP V (.slc true none x none (some hi)) dst fr H N:=
 qF hx hl (Int.toNat_of_nonneg hn).symm hm hq hN
theorem kK {x lo hi:Opd} {s:List UInt8} {k k':IntKind} {n n':Int} {m m':Nat} (hx:fr.rd x=.c (.str s)) (hl:fr.rd lo=.c (.int k n)) (hh:fr.rd hi=.c (.int k' n')) (hn:n=(m:Nat)) (hn':n'=(m':Nat)) (hm:m<=m'/\m'<=s.length) (hq:Put fr dst (.c (.str ((s.drop m).take (m' - m)))) fr') (hN:N fr' H):OpP V (.slc true none x (some lo) (some hi)) dst fr H N:=by
 subst hn;subst hn';refine aD (l:=some (m:Int)) (h:=some (m':Int)) (by simp only [zJ,hl,Y4]) (by simp only [zJ,hh,Y4]) hx (by simp only [Option.getD];omega) ?_ hN;simpa using hq
theorem kB {e:Nat} {ek:Option Nat} {bytes:Nat} {s x:Opd} {n0:CV} {new:List CV} (hs:fr.rd s=.nils) (hx:vT ek (fr.rd x)=some (n0::new)) (hb:(new.length+1) * bytes<=140737488355328/\new.length+1<=140737488355328) (hq:Put fr dst (.own true e ek (n0::new)) fr') (h:N fr' H):OpP V (.app e ek bytes s x) dst fr H N:=
 ⟨fr',H,by
  show appW e ek bytes (fr.rd s) (fr.rd x) dst fr H=_;simp only [appW,hx,hs,reduceCtorEq,if_false,List.length_cons,lim,if_pos hb,hq.eq],h⟩
theorem q17 {e:Nat} {ek:Option Nat} {bytes p:Nat} {s x:Opd} {xs new:List CV} {l:List (Nat×WV)} {a:List (Nat×Option (Nat×Nat))} (hs:(FL l a).rd s=.view (.sl p 0 0) true 0 e ek xs) (hx:vT ek ((FL l a).rd x)=some new) (hb:(xs.length+new.length) * bytes<=140737488355328/\xs.length+new.length<=140737488355328)
 (hq:Put (FL (X8 (inK [.sl p 0 0]) false l) a) dst (.own true e ek (xs++new)) fr') (h:N fr' H):OpP V (.app e ek bytes s x) dst (FL l a) H N:=
 ⟨fr',H,by
  show appW e ek bytes ((FL l a).rd s) ((FL l a).rd x) dst (FL l a) H=_;simp only [appW,hx,hs,true_and,lim,if_pos hb,zl2,hq.eq],h⟩
structure Boxed (fr:WFr) (d:Nat) (ek:Option Nat) (v:WV) (fr':WFr):Prop where
 eq:({ env:=upd (D1 (I4 d) false fr).env d (.lbox ek v),al:=unlink d fr.al }:WFr)=fr'
def wL (d:Nat):List (Nat×Option (Nat×Nat))->List (Nat×Option (Nat×Nat))
 | []=>[]
 | (t,none)::r=>(t,none)::wL d r
 | (t,some (b,off))::r=>(t,bif Nat.beq b d then none else some (b,off))::wL d r
theorem q65 (d:Nat):∀ (a:List (Nat×Option (Nat×Nat))) (t:Nat),lookA (wL d a) t=match lookA a t with
 | some (b,off)=>if b=d then none else some (b,off)
 | none=>none:=by
 intro a;induction a with
 | nil=>intro t;rfl
 | cons p r ih=>
   intro t;obtain ⟨s,v⟩:=p;cases v with
   | none=>
     show (bif Nat.beq t s then none else lookA (wL d r) t)=match (bif Nat.beq t s then none else lookA r t) with
      | some (b,off)=>if b=d then none else some (b,off)
      | none=>none
     cases Nat.beq t s with
     | true=>rfl
     | false=>exact ih t
   | some q=>
     obtain ⟨b,off⟩:=q;show (bif Nat.beq t s then (bif Nat.beq b d then none else some (b,off)) else lookA (wL d r) t)=match (bif Nat.beq t s then some (b,off) else lookA r t) with
      | some (b,off)=>if b=d then none else some (b,off)
      | none=>none
     cases Nat.beq t s with
     | true=>show (bif Nat.beq b d then none else some (b,off))=if b=d then none else some (b,off);rw [zQ]
     | false=>exact ih t
theorem c6 {l:List (Nat×WV)} {ek:Option Nat} {v:WV} (hc:clean d l=true):Boxed (FL l []) d ek v (FL ((d,.lbox ek v)::l) []):=⟨by
 have e:unlink d (FL l []).al=lookA []:=by funext t;show (if t=d then none else none)=none;split<;>rfl
 rw [gC (fun _ h=>h) hc,e];rfl⟩
theorem m9 {l:List (Nat×WV)} {a:List (Nat×Option (Nat×Nat))} {ek:Option Nat} {v:WV} (hc:clean d l=true):Boxed (FL l a) d ek v (FL ((d,.lbox ek v)::l) ((d,none)::wL d a)):=⟨by
 have e:unlink d (FL l a).al=lookA ((d,none)::wL d a):=by
  funext t;show (if t=d then none else _)=(bif Nat.beq t d then none else lookA (wL d a) t);rw [zQ,q65];rfl
 rw [gC (fun _ h=>h) hc,e];rfl⟩
theorem uL {u:CV}:Lz.take (.c u) fr H=some (.c u,fr,H):=by
 simp [Lz.take,B6,E4,I6,O9,E5,s8,K3]
theorem m8 {ek:Option Nat} {x:Opd} {u:CV} (hx:fr.rd x=.c u) (hf:fitsW ek (.c u)=true) (hb:Boxed fr d ek (.c u) fr') (h:N fr' H):OpP V (.lbox ek x) (some d) fr H N:=
 ⟨fr',H,by show y8 (.lbox ek x) (some d) fr H=_;simp only [y8,hx,if_pos hf,uL,hb.eq],h⟩
structure Stored (fr:WFr) (b off n:Nat) (v:WV) (fr':WFr):Prop where
 eq:({ env:=upd (D1 (xJ b off n) false fr).env b v,al:=fr.al }:WFr)=fr'
structure Stored0 (fr:WFr) (b:Nat) (v:WV) (fr':WFr):Prop where
 eq:({ env:=upd (D1 (I4 b) false fr).env b v,al:=fr.al }:WFr)=fr'
theorem q50 {b off n:Nat} (p:Pl) (h:xJ b off n p=true):I4 b p=true:=by
 cases p with
 | sl s i k=>simp only [xJ,Bool.and_eq_true,decide_eq_true_eq] at h;simp [I4,h.1.1.1]
 | hp _ _=>cases h
 | tmp _ _=>cases h
theorem pC {l:List (Nat×WV)} {a:List (Nat×Option (Nat×Nat))} {b off n:Nat} {v:WV} (hc:clean b l=true):Stored (FL l a) b off n v (FL ((b,v)::l) a):=⟨by
 rw [gC q50 hc];rfl⟩
theorem u4 {l:List (Nat×WV)} {a:List (Nat×Option (Nat×Nat))} {b:Nat} {v:WV} (hc:clean b l=true):Stored0 (FL l a) b v (FL ((b,v)::l) a):=⟨by
 rw [gC (fun _ h=>h) hc];rfl⟩
theorem u1 {ek:Option Nat} {a x:Opd} {b:Nat} {u:CV} {x0:WV} (hp:fr.place a=some (b,0)) (hx:fr.rd x=.c u) (hf:fitsW ek (.c u)=true) (hb:fr.env b=.lbox ek x0) (hs:Stored0 fr b (.lbox ek (.c u)) fr') (h:N fr' H):OpP V (.store ek a x) dst fr H N:=
 ⟨fr',H,by show y8 (.store ek a x) dst fr H=_;simp only [y8,hp,hx,if_pos hf,uL,hb,and_self,if_true,hs.eq],h⟩
theorem kW {ek ek':Option Nat} {a x:Opd} {b off:Nat} {u u':CV} {x0:WV} (hp:fr.place a=some (b,off)) (hx:fr.rd x=.c u) (hf:fitsW ek (.c u)=true) (hb:fr.env b=.lbox ek' x0) (hn:(decide (off=0)&&decide (ek'=ek))=false) (hl:(decide (off+(WV.c u).flat.length<=x0.flat.length)&&O7 x0&&!x0.flat.isEmpty)=true)
 (hu:mP ek' (R2 x0.flat off (WV.c u).flat)=some (.c u')) (hf':fitsW ek' (.c u')=true) (hs:Stored fr b off (WV.c u).flat.length (.lbox ek' (.c u')) fr') (h:N fr' H):OpP V (.store ek a x) dst fr H N:=
 ⟨fr',H,by
  simp only [Bool.and_eq_true,decide_eq_true_eq,Bool.not_eq_true'] at hl;have hn':¬ (off=0/\ek'=ek):=by
   rintro ⟨rfl,rfl⟩;simp at hn
  show y8 (.store ek a x) dst fr H=_;simp only [y8,hp,hx,if_pos hf,uL,hb,if_neg hn',if_pos (show off+(WV.c u).flat.length<=x0.flat.length/\O7 x0=true/\x0.flat.isEmpty=false from ⟨hl.1.1,hl.1.2,hl.2⟩),hu,if_pos hf',hs.eq],h⟩
theorem A7 {s i:Nat} {vs:List WV} {u:CV} (hs:fr.env s=.tup vs) (hv:vs[i]?=some (.c u)) (hq:Put fr dst (.c u) fr') (h:N fr' H):OpP V (.ext (.t s) i) dst fr H N:=
 ⟨fr',H,by show y8 (.ext (.t s) i) dst fr H=_;simp only [y8,hs,hv,G9,L0,uL,hq.eq],h⟩
structure Rets (V:WEnv) (f:Nat) (asv:List WV) (r:WV):Prop where
 run:∃ r0 H',wv V f asv []=some (r0,H')/\shut r0=some r
theorem z30 {f:Nat} {args asv:List WV} {r:WV} (hm:V.md f=.P) (ha:K4 H args=some asv) (hc:Rets V f asv r) (hi:(args.all U3||noRefW r)=true) (hq:Put fr dst r fr'):O1 V (wv V) f args dst fr H=some (fr',H):=by
 obtain ⟨r0,H1,h1,h2⟩:=hc;simp only [O1,hm,ha,h1,h2,if_pos hi,hq.eq]
theorem q6 {f:Nat} {args:List Opd} {asv:List WV} {r:WV} (hm:V.md f=.P) (ha:K4 H (args.map fr.rd)=some asv) (hc:Rets V f asv r) (hi:((args.map fr.rd).all U3||noRefW r)=true) (hq:Put fr dst r fr') (h:N fr' H):OpP V (.call f args) dst fr H N:=
 ⟨fr',H,by show O1 V (wv V) f (args.map fr.rd) dst fr H=_;exact z30 hm ha hc hi hq,h⟩
theorem sV {f:Nat} {first cap:List CV} {x:Opd} {args:List Opd} {asv:List WV} {r:WV} (hx:fr.rd x=.c (.fn f first cap)) (hm:V.md f=.P) (ha:K4 H (first.map WV.c++args.map fr.rd++cap.map WV.c)=some asv) (hc:Rets V f asv r) (hi:((first.map WV.c++args.map fr.rd++cap.map WV.c).all U3||noRefW r)=true) (hq:Put fr dst r fr') (h:N fr' H):OpP V (.callv x args) dst fr H N:=
 ⟨fr',H,by
  show wOp V (wv V) (.callv x args) dst fr H=_;simp only [wOp,hx,xE];exact z30 hm ha hc hi hq,h⟩
theorem o7 (h:N fr H):VD V [] fr H N:=⟨_,_,rfl,h⟩
theorem o6 {o:IOp} {c:Cls} {r:List (Cls×IOper)} (h0:O3 fr dst=true) (h:OpD V c o dst fr H (fun fr' H'=>Dand (O3 fr' dst=true) (VD V r fr' H' N))):VD V ((c,⟨dst,none,o⟩)::r) fr H N:=by
 obtain ⟨fr1,H1,h1,h2,fr2,H2,h3,h4⟩:=h;refine ⟨fr2,H2,?_,h4⟩;show (match L8 V (wv V) c ⟨dst,none,o⟩ fr H with
  | some (fr',H')=>N1 V (wv V) r fr' H'
  | none=>none)=_
 have:Q3 V (wv V) c ⟨dst,none,o⟩ fr H=wD V (wv V) c o dst fr H:=rfl;simp only [L8,if_pos h0,this,h1,if_pos (show c=.lb\/O3 fr1 dst=true from .inr h2)];exact h3
theorem zg4 {o:IOp} {c:Cls} {s:Nat} {w b:Bool} (hs:fr.env s=.c (.bool b)):Q3 V (wv V) c ⟨dst,some (s,w),o⟩ fr H=if b=w then wD V (wv V) c o dst fr H else some (fr.put dst .skipv,H):=by
 show (match fr.env s with
  | .c (.bool b)=>if b=w then wD V (wv V) c o dst fr H else some (fr.put dst .skipv,H)
  | .skipv=>some (fr.put dst .skipv,H)
  | _=>none)=_
 rw [hs]
theorem nV {o:IOp} {c:Cls} {r:List (Cls×IOper)} {s:Nat} {w b:Bool} (hs:fr.env s=.c (.bool b)) (hb:b=w) (h0:O3 fr dst=true) (h:OpD V c o dst fr H (fun fr' H'=>Dand (O3 fr' dst=true) (VD V r fr' H' N))):VD V ((c,⟨dst,some (s,w),o⟩)::r) fr H N:=by
 obtain ⟨fr1,H1,h1,h2,fr2,H2,h3,h4⟩:=h;refine ⟨fr2,H2,?_,h4⟩;show (match L8 V (wv V) c ⟨dst,some (s,w),o⟩ fr H with
  | some (fr',H')=>N1 V (wv V) r fr' H'
  | none=>none)=_
 simp only [L8,if_pos h0,zg4 hs,if_pos hb,h1,if_pos (show c=.lb\/O3 fr1 dst=true from .inr h2)];exact h3
theorem q86 {o:IOp} {c:Cls} {r:List (Cls×IOper)} {s:Nat} {w b:Bool} (hs:fr.env s=.c (.bool b)) (hb:b=!w) (h0:O3 fr dst=true) (hp:Put fr dst .skipv fr') (h1:O3 fr' dst=true) (h:VD V r fr' H N):VD V ((c,⟨dst,some (s,w),o⟩)::r) fr H N:=by
 obtain ⟨fr2,H2,h3,h4⟩:=h;refine ⟨fr2,H2,?_,h4⟩;show (match L8 V (wv V) c ⟨dst,some (s,w),o⟩ fr H with
  | some (fr',H')=>N1 V (wv V) r fr' H'
  | none=>none)=_
 have hb':¬ b=w:=by intro e;subst e;cases b<;>cases hb
 simp only [L8,if_pos h0,zg4 hs,if_neg hb',hp.eq,if_pos (show c=.lb\/O3 fr' dst=true from .inr h1)];exact h3
theorem qn7 {l:List (Nat×WV)} {a:List (Nat×Option (Nat×Nat))} {o:IOp} {c:Cls} {r:List (Cls×IOper)} {s:Nat} {w b:Bool} (hs:(FL l a).env s=.c (.bool b))
 (h1:b=true->VD V ((c,⟨dst,some (s,w),o⟩)::r) (FL ((s,.c (.bool true))::l) a) H N) (h2:b=false->VD V ((c,⟨dst,some (s,w),o⟩)::r) (FL ((s,.c (.bool false))::l) a) H N) :
 VD V ((c,⟨dst,some (s,w),o⟩)::r) (FL l a) H N:=by
 cases b with
 | true=>rw [yS hs];exact h1 rfl
 | false=>rw [yS hs];exact h2 rfl
theorem dA {o:IOp} {c:Cls} {r:List (Cls×IOper)} {s:Nat} {b:Bool} (hs:fr.env s=.c (.bool b)) (hb:b=false) (h0:O3 fr dst=true) (hp:Put fr dst .skipv fr') (h1:O3 fr' dst=true) (h:VD V r fr' H N):VD V ((c,⟨dst,some (s,true),o⟩)::r) fr H N:=q86 hs hb h0 hp h1 h
theorem mB {l:List (Nat×WV)} {a:List (Nat×Option (Nat×Nat))} {o:IOp} {c:Cls} {r:List (Cls×IOper)} {s:Nat} {w b:Bool} (hs:(FL l a).env s=.c (.bool b))
 (h1:Cnd b true (VD V ((c,⟨dst,some (s,w),o⟩)::r) (FL ((s,.c (.bool true))::l) a) H N)) (h2:Cnd b false (VD V ((c,⟨dst,some (s,w),o⟩)::r) (FL ((s,.c (.bool false))::l) a) H N)) :
 VD V ((c,⟨dst,some (s,w),o⟩)::r) (FL l a) H N:=qn7 hs h1.go h2.go
theorem f8 {o:IOp} (hp:Q5 o=true) (h:OpP V o dst fr H N):OpD V .pure o dst fr H N:=by
 obtain ⟨fr1,H1,h1,h2⟩:=h;refine ⟨fr1,H1,?_,h2⟩;cases o<;>first | (simp only [Q5,Bool.false_eq_true] at hp;done) | (simp only [wD,hp,if_true];exact h1)
theorem P7 {ek:Option Nat} {a x:Opd} (hp:(fr.place a).isSome=true) (h:OpP V (.store ek a x) none fr H N):OpD V .wrb (.store ek a x) none fr H N:=by
 obtain ⟨fr1,H1,h1,h2⟩:=h;exact ⟨fr1,H1,by simp only [wD,hp,and_self,if_true];exact h1,h2⟩
theorem o8 {ek:Option Nat} {a:Opd} (hp:(fr.place a).isSome=false) (h:OpP V (.load ek a) dst fr H N):OpD V .rd (.load ek a) dst fr H N:=by
 obtain ⟨fr1,H1,h1,h2⟩:=h;exact ⟨fr1,H1,by simp only [wD,hp,Bool.false_eq_true,if_false];exact h1,h2⟩
theorem aA {ek:Option Nat} {x i:Opd} (h:OpP V (.ix ek x i) dst fr H N):OpD V .rd (.ix ek x i) dst fr H N:=⟨h.run⟩
theorem Q7 {st:Bool} {ek:Option Nat} {x:Opd} {lo hi:Option Opd} (h:OpP V (.slc st ek x lo hi) dst fr H N):OpD V .rd (.slc st ek x lo hi) dst fr H N:=⟨h.run⟩
theorem xI {f:Nat} {args:List Opd} {asv:List WV} {r:WV} (hm:V.md f=.P) (ha:K4 H (args.map fr.rd)=some asv) (hc:Rets V f asv r) (hi:(noRefW r||(args.map fr.rd).all U3)=true) (hq:Put fr dst r fr') (h:N fr' H):OpD V .rd (.call f args) dst fr H N:=
 ⟨fr',H,by
  obtain ⟨r0,H2,h1,h2⟩:=hc;have hi':noRefW r=true\/(args.map fr.rd).all U3=true:=by simpa using hi
  simp only [wD,hm,ha,h1,h2,if_pos hi',hq.eq],h⟩
theorem kG {f:Nat} {args:List Opd} (h:OpP V (.call f args) dst fr H N):OpD V .wr (.call f args) dst fr H N:=⟨h.run⟩
theorem sL {ek:Option Nat} {a x:Opd} (hp:(fr.place a).isSome=false) (h:OpP V (.store ek a x) none fr H N):OpD V .wr (.store ek a x) none fr H N:=by
 obtain ⟨fr1,H1,h1,h2⟩:=h;exact ⟨fr1,H1,by simp only [wD,hp,Bool.false_eq_true,false_or,ne_eq,not_true_eq_false,if_false];exact h1,h2⟩
theorem qy7 {ek:Option Nat} {x:Opd} (h:OpP V (.lbox ek x) dst fr H N):OpD V .lb (.lbox ek x) dst fr H N:=⟨h.run⟩
theorem qk7 {o:IOp} {r:List (Cls×IOper)} (h0:O3 fr dst=true) (h:OpD V .lb o dst fr H (fun fr' H'=>VD V r fr' H' N)):VD V ((.lb,⟨dst,none,o⟩)::r) fr H N:=by
 obtain ⟨fr1,H1,h1,fr2,H2,h3,h4⟩:=h;refine ⟨fr2,H2,?_,h4⟩;show (match L8 V (wv V) .lb ⟨dst,none,o⟩ fr H with
  | some (fr',H')=>N1 V (wv V) r fr' H'
  | none=>none)=_
 have:Q3 V (wv V) .lb ⟨dst,none,o⟩ fr H=wD V (wv V) .lb o dst fr H:=rfl;simp only [L8,if_pos h0,this,h1,true_or,if_true];exact h3
def KpL (D:List Nat) (fr:WFr):List Nat->List (Nat×WV)->Prop
 | [],[]=>True
 | s::ss,(t,v)::l=>s=t/\hit (jW D) false (Pl.sl s) (fr.env s)=v/\KpL D fr ss l
 | _,_=>False
theorem q8 {D:List Nat}:KpL D fr [] []:=trivial
theorem d5 {D:List Nat} {s:Nat} {ss:List Nat} {v:WV} {l:List (Nat×WV)} (hv:hit (jW D) false (Pl.sl s) (fr.env s)=v) (h:KpL D fr ss l):KpL D fr (s::ss) ((s,v)::l):=⟨rfl,hv,h⟩
theorem jg0 {D:List Nat}:∀ {ss:List Nat} {l:List (Nat×WV)},KpL D fr ss l->(ss.map fun s=>(s,hit (jW D) false (Pl.sl s) (fr.env s)))=l:=by
 intro ss;induction ss with
 | nil=>intro l h;cases l with
   | nil=>rfl
   | cons p l=>cases h
 | cons s ss ih=>intro l h;cases l with
   | nil=>cases h
   | cons p l=>
     obtain ⟨t,v⟩:=p;obtain ⟨rfl,rfl,h⟩:=h;simp only [List.map_cons,ih h]
theorem pW {D:List Nat} {l:List (Nat×WV)} (h:KpL D fr D l):J8 D fr=FL l []:=by
 unfold J8;rw [jg0 h,tZ]
theorem w8 {L:List Nat} {K:List (Nat×WV)} (h:KpL L fr L K) (hN:N (FL K []) H):WP V (.keep L) fr H N B R:=⟨.nrm,FL K [],H,by show some (Ex.nrm,J8 L fr,H)=_;rw [pW h],hN⟩
theorem v6 {D ss:List Nat} {s:Nat} {u:CV} {l:List (Nat×WV)} (h:fr.env s=.c u) (hr:KpL D fr ss l):KpL D fr (s::ss) ((s,.c u)::l):=d5 (by rw [h];rfl) hr
theorem F7 {D ss:List Nat} {s:Nat} {l:List (Nat×WV)} (h:fr.env s=.nils) (hr:KpL D fr ss l):KpL D fr (s::ss) ((s,.nils)::l):=d5 (by rw [h];rfl) hr
theorem d6 {D ss:List Nat} {s id off:Nat} {l:List (Nat×WV)} (h:fr.env s=.ptr id off) (hr:KpL D fr ss l):KpL D fr (s::ss) ((s,.ptr id off)::l):=d5 (by rw [h];rfl) hr
theorem D6 {D ss:List Nat} {s e:Nat} {b:Bool} {ek:Option Nat} {xs:List CV} {l:List (Nat×WV)} (h:fr.env s=.own b e ek xs) (hd:D.contains s=true) (hr:KpL D fr ss l):KpL D fr (s::ss) ((s,.own b e ek xs)::l):=
 d5 (by rw [h];show l8 (jW D) false (.sl s 0 0) (.own b e ek xs)=_;simp only [l8,jW,hd,Bool.not_true,Bool.false_eq_true,if_false]) hr
theorem y6 {D ss:List Nat} {s:Nat} {ek:Option Nat} {u:CV} {l:List (Nat×WV)} (h:fr.env s=.lbox ek (.c u)) (hr:KpL D fr ss l):KpL D fr (s::ss) ((s,.lbox ek (.c u))::l):=d5 (by rw [h];rfl) hr
theorem I0 {σ:Type} {live:List Nat} {body:ICode} (K:σ->List (Nat×WV)) (P:σ->Prop) (μ:σ->Nat) (s0:σ) (h0:KpL live fr live (K s0)) (hP:P s0)
 (hb:∀ s,P s->WP V body (FL (K s) []) H (fun fr' H'=>∃ s',KpL live fr' live (K s')/\H'=H/\P s'/\μ s'<μ s) B R):WP V (.loop live body) fr H N B R:=by
 have key:∀ n s fr,μ s<n->KpL live fr live (K s)->P s->WP V (.loop live body) fr H N B R:=by
  intro n;induction n with
  | zero=>intro s fr h;omega
  | succ n ih=>
    intro s fr hn hk hp;obtain ⟨x,fr1,H1,g1,g2⟩:=hb s hp;have e:wC V (wv V) witW (.loop live body) fr H=match wC V (wv V) witW body (FL (K s) []) H with
     | some (.nrm,fr',H')=>wC V (wv V) witW (.loop live body) fr' H'
     | r=>r:=by
     rw [zd5,cD,pW hk];rfl
    cases x with
    | nrm=>
      obtain ⟨s',k1,rfl,k2,k3⟩:=g2;obtain ⟨y,fr2,H2,m1,m2⟩:=ih s' fr1 (by omega) k1 k2;exact ⟨y,fr2,H2,by rw [e,g1];exact m1,m2⟩
    | exit i=>exact ⟨.exit i,fr1,H1,by rw [e,g1],g2⟩
    | goto i=>exact ⟨.goto i,fr1,H1,by rw [e,g1],g2⟩
    | ret=>exact ⟨.ret,fr1,H1,by rw [e,g1],g2⟩
 exact key (μ s0+1) s0 fr (by omega) h0 hP
inductive ShI (fr:WFr):IRes->CV->Prop
 | c {t:Nat} {u:CV} (h:fr.env t=.c u):ShI fr (.tmp t) u
 | own {t:Nat} {b:Bool} {e:Nat} {ek:Option Nat} {xs:List CV} (h:fr.env t=.own b e ek xs):ShI fr (.tmp t) (.frz ek xs)
 | nils {t:Nat} (h:fr.env t=.nils):ShI fr (.tmp t) (.frz none [])
 | cell {a:Nat} {ek:Option Nat} {u:CV} (h:fr.env a=.lbox ek (.c u)):ShI fr (.cell a ek) u
def IRes.at:IRes->Nat
 | .tmp t=>t
 | .cell a _=>a
inductive ShL (fr:WFr):List IRes->List CV->Prop
 | nil:ShL fr [] []
 | cons {r:IRes} {u:CV} {rs:List IRes} {us:List CV} (h:ShI fr r u) (hs:ShL fr rs us):ShL fr (r::rs) (u::us)
def j31:List CV->WV
 | [u]=>.c u
 | us=>.tup (us.map .c)
def fin (res:List IRes) (r:WV):f4:=fun fr H=>∃ vs r0 H',J4 fr H res=some vs/\qL 0 vs H=some (r0,H')/\shut r0=some r
structure Lv (v:WV) (t:Nat) (u:CV):Prop where
 src:E4 v=[]\/E4 v=[.sl t 0 0]
 ok:M1 v=true
 sh:zN (S1 0 v)=some u
 nt:∀ vs,S1 0 v≠.tup vs
inductive LvL:List WV->List Nat->List CV->Prop
 | nil:LvL [] [] []
 | cons {v:WV} {t:Nat} {u:CV} {vs:List WV} {ts:List Nat} {us:List CV} (h:Lv v t u) (hs:LvL vs ts us):LvL (v::vs) (t::ts) (u::us)
theorem jh7 {r:IRes} {u:CV} (h:ShI fr r u):∃ v,J4 fr H [r]=some [v]/\Lv v r.at u:=by
 cases h with
 | c h=>exact ⟨_,rfl,by rw [h];exact ⟨.inl rfl,rfl,rfl,by intro vs h;cases h⟩⟩
 | own h=>exact ⟨_,rfl,by rw [h];exact ⟨.inr rfl,rfl,rfl,by intro vs h;cases h⟩⟩
 | nils h=>exact ⟨_,rfl,by rw [h];exact ⟨.inl rfl,rfl,rfl,by intro vs h;cases h⟩⟩
 | @cell a ek u h=>exact ⟨.c u,by simp only [J4,h,if_true];rfl,⟨.inl rfl,rfl,rfl,by intro vs h;cases h⟩⟩
theorem qu2 {r:IRes} {rs:List IRes} {v:WV} {vs:List WV} (h1:J4 fr H [r]=some [v]) (h2:J4 fr H rs=some vs):J4 fr H (r::rs)=some (v::vs):=by
 cases r with
 | tmp t=>
   simp only [J4] at h1 ⊢;rw [h2];injection h1 with h1;injection h1 with h1;rw [h1]
 | cell a ek=>
   simp only [J4] at h1 ⊢;rw [h2];split at h1
   . rename_i w l hw hl;injection hl with hl;subst hl;injection h1 with h1;injection h1 with h1 _;subst h1;rw [hw]
   . cases h1
theorem q64:∀ {rs:List IRes} {us:List CV},ShL fr rs us->∃ vs,J4 fr H rs=some vs/\LvL vs (rs.map IRes.at) us:=by
 intro rs us h;induction h with
 | nil=>exact ⟨[],rfl,.nil⟩
 | cons h _ ih=>
   obtain ⟨v,h1,h2⟩:=jh7 (H:=H) h;obtain ⟨vs,h3,h4⟩:=ih;exact ⟨v::vs,qu2 h1 h3,.cons h2 h4⟩
theorem j12:∀ {vs:List WV} {ts:List Nat} {us:List CV},LvL vs ts us->ts.Nodup->(H7 vs).Nodup/\(∀ p∈H7 vs,∃ t∈ts,p=.sl t 0 0):=by
 intro vs ts us h;induction h with
 | nil=>intro _;exact ⟨List.nodup_nil,by intro p hp;cases hp⟩
 | @cons v t u vs ts us h _ ih=>
   intro hd;rw [List.nodup_cons] at hd;obtain ⟨a,b⟩:=ih hd.2;simp only [H7];rcases h.src with e | e
   . rw [e,List.nil_append];exact ⟨a,fun p hp=>by obtain ⟨t',h1,h2⟩:=b p hp;exact ⟨t',by simp [h1],h2⟩⟩
   . rw [e];refine ⟨?_,?_⟩
     . simp only [List.cons_append,List.nil_append,List.nodup_cons];refine ⟨?_,a⟩;intro hp;obtain ⟨t',h1,h2⟩:=b _ hp;injection h2 with h2 _ _;subst h2;exact hd.1 h1
     . intro p hp;simp only [List.cons_append,List.nil_append,List.mem_cons] at hp;rcases hp with rfl | hp
       . exact ⟨t,by simp,rfl⟩
       . obtain ⟨t',h1,h2⟩:=b p hp;exact ⟨t',by simp [h1],h2⟩
theorem j57:∀ {vs:List WV} {ts:List Nat} {us:List CV},LvL vs ts us->vs.all M1=true/\qP (vs.map (S1 0))=some (us.map .c):=by
 intro vs ts us h;induction h with
 | nil=>exact ⟨rfl,rfl⟩
 | cons h _ ih=>exact ⟨by simp only [List.all_cons,h.ok,ih.1,Bool.and_self],by simp only [List.map_cons,qP,h.sh,ih.2]⟩
theorem kA {res:List IRes} {us:List CV} (hd:(res.map IRes.at).Nodup) (h:ShL fr res us):fin res (j31 us) fr H:=by
 obtain ⟨vs,h1,h2⟩:=q64 (H:=H) h;obtain ⟨a,b⟩:=j12 h2 hd;obtain ⟨c,e⟩:=j57 h2;have f:(H7 vs).all (R7 0)=true:=by
  rw [List.all_eq_true];intro p hp;obtain ⟨t,_,rfl⟩:=b p hp;rfl
 have g:(H7 vs).filter (R7 0)=H7 vs:=by rw [List.filter_eq_self];exact List.all_eq_true.1 f
 refine ⟨vs,I8 (vs.map (S1 0)),D8 false (H7 vs) H,h1,?_,?_⟩
 . unfold qL;rw [g,if_pos ⟨a,c,.inr f⟩]
 . generalize res.map IRes.at=tl at h2;cases h2 with
   | nil=>rfl
   | @cons v t u vs ts us hv1 hs=>
     cases hs with
     | nil=>
       show shut (S1 0 v)=some (.c u);have:=hv1.sh;have hn:=hv1.nt;generalize S1 0 v=w at this hn;cases w<;>first | exact absurd rfl (hn _) | simp only [shut,this]
     | cons h' hs'=>
       simp only [List.map_cons] at e ⊢;show shut (.tup _)=some (.tup _);simp only [shut,e];rfl
theorem qq9 {t:Nat} {u u':CV} (h:ShI fr (.tmp t) u) (e:u=u'):fin [.tmp t] (.c u') fr H:=by
 subst e;exact kA (by simp) (.cons h .nil)
theorem s7 {t:Nat} {u u':CV} (h:fr.env t=.c u) (e:u=u'):fin [.tmp t] (.c u') fr H:=qq9 (.c h) e
theorem c8 {a:Nat} {ek:Option Nat} {u u':CV} (h:fr.env a=.lbox ek (.c u)) (e:u=u'):fin [.cell a ek] (.c u') fr H:=by
 subst e;exact kA (by simp) (.cons (.cell h) .nil)
theorem m7 {f:Nat} {asv:List WV} {r:WV} {b:ICode} {rs:List IRes} (hg:V.fn f=some ⟨b,rs⟩) (h:WP V b (FL (O2 0 asv) []) [] (fin rs r) [] (fin rs r)) (ha:Z2 (V.ar f) asv.length (V.fn f)=V.fn f:=by exact rfl):Rets V f asv r:=by
 obtain ⟨s,fr1,H1,h1,h2⟩:=h;have key:(s=.nrm\/s=.ret)->fin rs r fr1 H1->Rets V f asv r:=by
  rintro hs ⟨vs,r0,H2,g1,g2,g3⟩;refine ⟨r0,H2,?_,g3⟩;rw [bB,wFn,WEnv.fnA,ha,hg];simp only [tZ,h1];rcases hs with rfl | rfl<;>simp only [g1]<;>exact g2
 cases s with
 | nrm=>exact key (.inl rfl) h2
 | ret=>exact key (.inr rfl) h2
 | exit i=>exact absurd h2 (by simp [yI,jC])
 | goto i=>exact absurd h2 (by simp [yI])
end
end Go.Proofs.Lz
