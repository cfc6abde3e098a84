/- Operations that read: what the state with slices a5 values gives, the evaluator gives. -/
import Derived.Test.YtlimfobeoodkjaaGreatDoorLzWTake
set_option linter.unusedVariables false
namespace Go.Proofs.Lz
def vJ:WV->Bool
 | .lbox _ _=>true
 | _=>false
theorem VR.lbox_iff {X:Cx} {q:Nat->Nat->Pl} {v:WV} {h:HV} (r:VR X q v h):vJ v=o9 h:=by
 cases v with
 | lbox ek w=>obtain ⟨h',rfl,_⟩:=r;rfl
 | tup vs=>obtain ⟨hs,rfl,_⟩:=r;rfl
 | agg cs=>obtain ⟨hs,rfl,_⟩:=r;rfl
 | c v=>have r':h=.c v:=r;subst r';rfl
 | nils=>have r':h=.nils:=r;subst r';rfl
 | skipv=>have r':h=.skipv:=r;subst r';rfl
 | undef=>have r':o9 h=false:=r;rw [r'];rfl
 | gone=>have r':o9 h=false:=r.1;rw [r'];rfl
 | own b e ek xs=>obtain ⟨rfl,_⟩:=r;rfl
 | view p b off e ek xs=>obtain ⟨rfl,_⟩:=r;rfl
 | imm fz ek xs=>obtain ⟨id,ver,off,rfl,_⟩:=r;rfl
 | ptr id off=>obtain ⟨rfl,_⟩:=r;rfl
 | eptr p i off ek x=>obtain ⟨rfl,_⟩:=r;rfl
 | iptr fz ek x off=>obtain ⟨id,ver,i,rfl,_⟩:=r;rfl
 | fn f a b=>obtain ⟨a',b',rfl,_⟩:=r;rfl
theorem P9 {X:Cx} {w:WFr} {fr:Fr} (f:FrR X w fr) (x:Opd):w.place x=fr.place x:=by
 have key:∀ i:Nat,∀ (α:Type) (a b:α),(match w.env i with | .lbox _ _=>a | _=>b)=(match fr.env i with | .lbox _ _=>a | _=>b):=by
  intro i α a b;have:=(f.env i).lbox_iff;revert this
  cases w.env i<;>cases fr.env i<;>simp [o9,vJ]
 cases x with
 | k=>rfl
 | t i=>
   simp only [WFr.place,Fr.place,f.al];cases w.al i with
   | none=>exact key i _ _ _
   | some p=>exact key p.1 _ _ _
theorem rdR {X:Cx} {w:WFr} {fr:Fr} (f:FrR X w fr) (q:Nat->Nat->Pl) (x:Opd) (h:w.rd x≠.gone):VR X q (w.rd x) (fr.opd x):=by
 cases x with
 | t i=>exact (f.env i).rd
 | k v=>
   cases v with
   | agg cs=>
     simp only [WFr.rd,wT] at h ⊢;split at h
     . rename_i hc;rw [if_pos hc];refine ⟨cs,rfl,?_⟩;have:∀ (l:List HV) (k:Nat),l.all isC=true->VRL X (q 0) k (l.map Q7) l:=by
        intro l;induction l with
        | nil=>intro k _;trivial
        | cons a l ih=>
          intro k hl;simp only [List.all_cons,Bool.and_eq_true] at hl;refine ⟨?_,ih (k+1) hl.2⟩;cases a<;>first | rfl | cases hl.1
       exact this cs 0 hc
     . exact (h rfl).elim
   | c u=>exact (rfl:HV.c u=.c u)
   | nils=>exact (rfl:HV.nils=.nils)
   | lbox ek u=>exact (h rfl).elim
   | _=>exact (show o9 _=false from rfl)
theorem rd_c {X:Cx} {w:WFr} {fr:Fr} (f:FrR X w fr) {x:Opd} {a:CV} (h:w.rd x=.c a):fr.opd x=.c a:=by
 have:=rdR f Pl.tmp x (by rw [h];simp);rw [h] at this;exact this
theorem uC {v:WV} (h:okW v=true):v≠.gone:=by intro e;subst e;cases h
theorem SR.put {X:Cx} {w:WFr} {W:q8} {fr:Fr} (s:SR X w W fr) {dst:Option Nat} {v:WV} {a:HV} {q:Nat->Nat->Pl} (hv:VR X q v a) (ho:y7 v=false):SR X (w.put dst v) W (fr.put dst a):=
 ⟨s.ok,s.fr.put hv ho,s.hp,s.ht⟩
theorem SR.putc {X:Cx} {w:WFr} {W:q8} {fr:Fr} (s:SR X w W fr) (dst:Option Nat) (v:CV):SR X (w.put dst (.c v)) W (fr.put dst (.c v)):=
 s.put (q:=Pl.tmp) (rfl:HV.c v=.c v) (by cases v<;>rfl)
def WSim (o:IOp) (dst:Option Nat) (X:Cx) (w:WFr) (W:q8) (fr:Fr) (w':WFr) (W':q8):Prop:=
 ∃ Y fr',q9 o dst fr X.H=some (fr',Y.H)/\SR Y w' W' fr'/\WStp X Y
theorem WSim.here {o:IOp} {dst:Option Nat} {X:Cx} {w:WFr} {W:q8} {fr:Fr} {w':WFr} {W':q8} {fr':Fr} (h:q9 o dst fr X.H=some (fr',X.H)) (s:SR X w' W' fr'):WSim o dst X w W fr w' W':=
 ⟨X,fr',h,s,WStp.refl X⟩
theorem SR.link {X:Cx} {w:WFr} {W:q8} {fr:Fr} (s:SR X w W fr) (dst:Option Nat) (b off:Nat):SR X (w.link dst b off) W (fr.link dst b off):=by
 cases dst with
 | none=>exact s
 | some d=>
   refine ⟨s.ok,⟨by simp only [WFr.link,Fr.link,s.fr.al],?_⟩,s.hp,s.ht⟩;intro t;simp only [WFr.link,Fr.link,upd];by_cases h:t=d
   . rw [if_pos h,if_pos h];exact (rfl:o9 .undef=false)
   . rw [if_neg h,if_neg h];exact s.fr.env t
theorem U9 {dst:Option Nat} {w:WFr} {W:q8} {v:Option WV} {r:WFr×q8} (h:J4 dst w W v=some r):∃ u,v=some u/\r=(w.put dst u,W):=by
 cases v with
 | none=>cases h
 | some u=>injection h with h;exact ⟨u,rfl,h.symm⟩
theorem gI {dst:Option Nat} {X:Cx} {w w':WFr} {W W':q8} {fr:Fr} (s:SR X w W fr) {b off:Nat} (h:qP dst b off w W=some (w',W')) :
 N6 dst b off fr X.H=some (fr.link dst b off,X.H)/\SR X w' W' (fr.link dst b off):=by
 unfold qP at h;split at h
 . cases h
 . rename_i hd;injection h with h;injection h with h1 h2;subst h1;subst h2;exact ⟨by unfold N6;rw [if_neg hd],s.link dst b off⟩
theorem tZ (w:WFr) (x:Opd):∀ ek v,w.rd x≠.lbox ek v:=by
 intro ek v h;cases x with
 | t i=>
   simp only [WFr.rd] at h;revert h
   cases w.env i<;>simp [O9,peek,i7,A0]
 | k u=>
   cases u with
   | agg cs=>
     simp only [WFr.rd,wT] at h;split at h<;>cases h
   | _=>cases h
theorem qY {v:WV} {w:WFr} {W:q8} {r:WV×WFr×q8} (h:Lz.take v w W=some r):(u4 v).Nodup/\r=(s4 v,b8 (inK (u4 v)) false w,c6 false (u4 v) W):=by
 unfold Lz.take at h;split at h
 . rename_i hn;rw [zC] at h;injection h with h;exact ⟨hn,h.symm⟩
 . cases h
theorem z49 {x:Opd} {dst:Option Nat} {X:Cx} {w w':WFr} {W W':q8} {fr:Fr} (s:SR X w W fr) (h:j4 (.mv x) dst w W=some (w',W')):WSim (.mv x) dst X w W fr w' W':=by
 simp only [j4] at h;rw [P9 s.fr] at h;cases hp:fr.place x with
 | some p=>
   obtain ⟨b,off⟩:=p;rw [hp] at h;obtain ⟨h1,h2⟩:=gI s h;exact .here (by simp only [q9,hp];exact h1) h2
 | none=>
   rw [hp] at h;simp only at h;have d0:q9 (.mv x) dst fr X.H=some (fr.put dst (fr.opd x),X.H):=by simp only [q9,hp]
   split at h
   . rename_i hok;have r:=rdR s.fr Pl.tmp x (uC hok);have ho:=M4 w x;have plain:SR X (w.put dst (w.rd x)) W (fr.put dst (fr.opd x)):=s.put r ho;split at h
     . rename_i d t;split at h
       . unfold wE at h;split at h
         . injection h with h;injection h with h1 h2;subst h1;subst h2;exact .here d0 plain
         . split at h
           . cases ht:Lz.take (w.rd (.t t)) w W with
             | none=>rw [ht] at h;cases h
             | some p=>
               obtain ⟨hn,hr⟩:=qY ht;subst hr;rw [ht] at h;simp only at h;injection h with h;injection h with h1 h2;subst h1;subst h2;obtain ⟨Y,hY,st,hH,_⟩:=s.take r ho (tZ w _) hn;obtain ⟨Z,hZ,st',hH'⟩:=hY.putD d;exact ⟨Z,_,by rw [d0,hH',hH],hZ,st.trans st'⟩
           . injection h with h;injection h with h1 h2;subst h1;subst h2;exact .here d0 plain
       . injection h with h;injection h with h1 h2;subst h1;subst h2;exact .here d0 plain
     . injection h with h;injection h with h1 h2;subst h1;subst h2;exact .here d0 plain
   . cases h
theorem eT {op:UnOp} {x:Opd} {dst:Option Nat} {X:Cx} {w w':WFr} {W W':q8} {fr:Fr} (s:SR X w W fr) (h:j4 (.un op x) dst w W=some (w',W')):WSim (.un op x) dst X w W fr w' W':=by
 simp only [j4] at h;split at h
 . rename_i a ha;obtain ⟨u,h1,h2⟩:=U9 h;cases hu:unC op a with
   | none=>rw [hu] at h1;cases h1
   | some v=>
     rw [hu] at h1;injection h1 with h1;subst h1;injection h2 with h2 h3;subst h2;subst h3;exact .here (by simp only [q9,rd_c s.fr ha,hu]) (s.putc dst v)
 . cases h
theorem zo5 {op:BinOp} {x y:Opd} {dst:Option Nat} {X:Cx} {w w':WFr} {W W':q8} {fr:Fr} (s:SR X w W fr) (h:j4 (.bin op x y) dst w W=some (w',W')):WSim (.bin op x y) dst X w W fr w' W':=by
 simp only [j4] at h;split at h
 . rename_i a b ha hb;obtain ⟨u,h1,h2⟩:=U9 h;cases hu:K5 op a b with
   | none=>rw [hu] at h1;cases h1
   | some v=>
     rw [hu] at h1;injection h1 with h1;subst h1;injection h2 with h2 h3;subst h2;subst h3;exact .here (by simp only [q9,rd_c s.fr ha,rd_c s.fr hb,hu]) (s.putc dst v)
 . cases h
theorem z64 {neg:Bool} {ks:List Nat} {x y:Opd} {dst:Option Nat} {X:Cx} {w w':WFr} {W W':q8} {fr:Fr} (s:SR X w W fr) (h:j4 (.eqs neg ks x y) dst w W=some (w',W')):WSim (.eqs neg ks x y) dst X w W fr w' W':=by
 simp only [j4] at h;split at h
 . rename_i a b ha hb;obtain ⟨u,h1,h2⟩:=U9 h;cases hu:eqL ks a b with
   | none=>rw [hu] at h1;cases h1
   | some v=>
     rw [hu] at h1;injection h1 with h1;subst h1;injection h2 with h2 h3;subst h2;subst h3;exact .here (by simp only [q9,rd_c s.fr ha,rd_c s.fr hb,hu]) (s.putc dst _)
 . cases h
theorem zd6 {neg:Bool} {x y:Opd} {dst:Option Nat} {X:Cx} {w w':WFr} {W W':q8} {fr:Fr} (s:SR X w W fr) (h:j4 (.eqb neg x y) dst w W=some (w',W')):WSim (.eqb neg x y) dst X w W fr w' W':=by
 simp only [j4] at h;split at h
 . rename_i a b ha hb;injection h with h;injection h with h1 h2;subst h1;subst h2;exact .here (by simp only [q9,rd_c s.fr ha,rd_c s.fr hb]) (s.putc dst _)
 . cases h
theorem z16 {c a b:Opd} {dst:Option Nat} {X:Cx} {w w':WFr} {W W':q8} {fr:Fr} (s:SR X w W fr) (h:j4 (.pick c a b) dst w W=some (w',W')):WSim (.pick c a b) dst X w W fr w' W':=by
 simp only [j4] at h;split at h
 . rename_i t ht;cases t with
   | true=>
     simp only [if_true] at h;split at h
     . rename_i hok;injection h with h;injection h with h1 h2;subst h1;subst h2;exact .here (by simp only [q9,rd_c s.fr ht];rfl) (s.put (rdR s.fr Pl.tmp a (uC hok)) (M4 w a))
     . cases h
   | false=>
     simp only [Bool.false_eq_true,if_false] at h;split at h
     . rename_i hok;injection h with h;injection h with h1 h2;subst h1;subst h2;exact .here (by simp only [q9,rd_c s.fr ht];rfl) (s.put (rdR s.fr Pl.tmp b (uC hok)) (M4 w b))
     . cases h
 . cases h
theorem zh4 {x:Opd} {dst:Option Nat} {X:Cx} {w w':WFr} {W W':q8} {fr:Fr} (s:SR X w W fr) (h:j4 (.cvs x) dst w W=some (w',W')):WSim (.cvs x) dst X w W fr w' W':=by
 simp only [j4] at h;split at h
 . rename_i a ha;injection h with h;injection h with h1 h2;subst h1;subst h2;exact .here (by simp only [q9,rd_c s.fr ha]) (s.putc dst _)
 . cases h
theorem zk9 {ek:Option Nat} {x:Opd} {dst:Option Nat} {X:Cx} {w w':WFr} {W W':q8} {fr:Fr} (s:SR X w W fr) (h:j4 (.fbox ek x) dst w W=some (w',W')):WSim (.fbox ek x) dst X w W fr w' W':=by
 simp only [j4] at h;split at h
 . rename_i a ha;split at h
   . rename_i hf;injection h with h;injection h with h1 h2;subst h1;subst h2;exact .here (by simp only [q9,rd_c s.fr ha,hf,if_true]) (s.putc dst _)
   . cases h
 . cases h
theorem zf8 {k:IntKind} {x:Opd} {dst:Option Nat} {X:Cx} {w w':WFr} {W W':q8} {fr:Fr} (s:SR X w W fr) (h:j4 (.cvt k x) dst w W=some (w',W')):WSim (.cvt k x) dst X w W fr w' W':=by
 simp only [j4] at h;split at h
 . rename_i k' n ha;injection h with h;injection h with h1 h2;subst h1;subst h2;exact .here (by simp only [q9,rd_c s.fr ha]) (s.putc dst _)
 . cases h
theorem za9 {m:Bool} {x y:Opd} {dst:Option Nat} {X:Cx} {w w':WFr} {W W':q8} {fr:Fr} (s:SR X w W fr) (h:j4 (.mx m x y) dst w W=some (w',W')):WSim (.mx m x y) dst X w W fr w' W':=by
 simp only [j4] at h;split at h
 . rename_i k a k' b ha hb;injection h with h;injection h with h1 h2;subst h1;subst h2;exact .here (by simp only [q9,rd_c s.fr ha,rd_c s.fr hb]) (s.putc dst _)
 . cases h
theorem bA {X:Cx} {w:WFr} {fr:Fr} (f:FrR X w fr) {x:Opd} {n:Int} (h:U4 (w.rd x)=some n):K8 (fr.opd x)=some n:=by
 cases hv:w.rd x with
 | c a=>rw [hv] at h;rw [rd_c f hv];cases a<;>first | exact h | cases h
 | _=>rw [hv] at h;cases h
theorem zg3 {x i:Opd} {dst:Option Nat} {X:Cx} {w w':WFr} {W W':q8} {fr:Fr} (s:SR X w W fr) (h:j4 (.six x i) dst w W=some (w',W')):WSim (.six x i) dst X w W fr w' W':=by
 simp only [j4] at h;split at h
 . rename_i t n ha hb;split at h
   . rename_i hn;split at h
     . rename_i b hb';injection h with h;injection h with h1 h2;subst h1;subst h2;exact .here (by simp only [q9,rd_c s.fr ha,bA s.fr hb,if_pos hn,hb']) (s.putc dst _)
     . cases h
   . cases h
 . cases h
end Go.Proofs.Lz
namespace Go.Proofs.Lz
theorem zj3 {X:Cx} {pl:Pl} {q:Nat->Nat->Pl} {v:WV} {h:HV} (r:VR1 X pl v h) (ho:d5 v=false):VR X q v h/\y7 v=false:=by
 cases v with
 | own=>cases ho
 | agg=>exact r.elim
 | tup=>exact r.elim
 | lbox=>exact r.elim
 | undef=>exact r.elim
 | _=>exact ⟨r,rfl⟩
theorem nZ {X:Cx} {q:Nat->Pl}:∀ (l:List CV) (k:Nat),VRL X q k (l.map .c) (l.map .c):=by
 intro l;induction l with
 | nil=>intro k;trivial
 | cons a l ih=>intro k;exact ⟨rfl,ih _⟩
theorem VRL.drop {X:Cx} {q:Nat->Pl}:∀ (n:Nat) {l:List WV} {k:Nat} {s:List HV},VRL X q k l s->VRL X q (k+n) (l.drop n) (s.drop n):=by
 intro n;induction n with
 | zero=>intro l k s h;exact h
 | succ n ih=>
   intro l k s h;cases l with
   | nil=>cases s with
     | nil=>trivial
     | cons=>exact h.elim
   | cons v l=>cases s with
     | nil=>exact h.elim
     | cons a s=>have:=ih h.2;rw [show k+(n+1)=k+1+n by omega];exact this
theorem VRL.take {X:Cx} {q:Nat->Pl}:∀ (n:Nat) {l:List WV} {k:Nat} {s:List HV},VRL X q k l s->VRL X q k (l.take n) (s.take n):=by
 intro n;induction n with
 | zero=>intro l k s h;trivial
 | succ n ih=>
   intro l k s h;cases l with
   | nil=>cases s with
     | nil=>trivial
     | cons=>exact h.elim
   | cons v l=>cases s with
     | nil=>exact h.elim
     | cons a s=>exact ⟨h.1,ih h.2⟩
theorem VRL.len {X:Cx} {q:Nat->Pl}:∀ {l:List WV} {k:Nat} {s:List HV},VRL X q k l s->l.length=s.length:=by
 intro l;induction l with
 | nil=>intro k s h;cases s with
   | nil=>rfl
   | cons=>exact h.elim
 | cons v l ih=>intro k s h;cases s with
   | nil=>exact h.elim
   | cons a s=>simp only [List.length_cons,ih h.2]
theorem VRL.append {X:Cx} {q:Nat->Pl}:∀ {l:List WV} {k:Nat} {s:List HV} {l':List WV} {s':List HV},VRL X q k l s->VRL X q (k+l.length) l' s'->VRL X q k (l++l') (s++s'):=by
 intro l;induction l with
 | nil=>intro k s l' s' h h';cases s with
   | nil=>exact h'
   | cons=>exact h.elim
 | cons v l ih=>intro k s l' s' h h';cases s with
   | nil=>exact h.elim
   | cons a s=>exact ⟨h.1,ih h.2 (by rw [List.length_cons] at h';rw [show k+1+l.length=k+(l.length+1) by omega];exact h')⟩
theorem kQ {α:Type} {f:α->Bool} {l:List α} (n:Nat) (h:l.any f=false):(l.drop n).any f=false:=by
 rw [List.any_eq_false] at h ⊢;exact fun x hx=>h x (List.mem_of_mem_drop hx)
theorem fL {α:Type} {f:α->Bool} {l:List α} (n:Nat) (h:l.any f=false):(l.take n).any f=false:=by
 rw [List.any_eq_false] at h ⊢;exact fun x hx=>h x (List.mem_of_mem_take hx)
theorem VR1.notC {X:Cx} {pl:Pl} {v:WV} {h:HV} (r:VR1 X pl v h) (hv:∀ u,v≠.c u):∀ u,h≠.c u:=by
 intro u hu;subst hu;cases v with
 | c u=>exact hv u rfl
 | nils=>cases r
 | own=>cases r.1
 | view=>cases r.1
 | imm=>obtain ⟨_,_,_,r1,_⟩:=r;cases r1
 | ptr=>cases r.1
 | eptr=>cases r.1
 | iptr=>obtain ⟨_,_,_,r1,_⟩:=r;cases r1
 | fn=>obtain ⟨_,_,r1,_⟩:=r;cases r1
 | skipv=>cases r
 | gone=>exact r.2 u rfl
 | _=>exact r.elim
theorem nW {X:Cx} {q:Nat->Pl}:∀ {l:List WV} {k:Nat} {s:List HV},VRL X q k l s->B7 l=d6 s:=by
 intro l;induction l with
 | nil=>intro k s h;cases s with
   | nil=>rfl
   | cons=>exact h.elim
 | cons v l ih=>intro k s h;cases s with
   | nil=>exact h.elim
   | cons a s=>
     have hv:=h.1;by_cases hc:∃ u,v=.c u
     . obtain ⟨u,rfl⟩:=hc;have:a=.c u:=hv;subst this;simp only [B7,d6,ih h.2];cases d6 s<;>rfl
     . have n:=hv.notC (fun u e=>hc ⟨u,e⟩);have e1:B7 (v::l)=none:=by
        cases v with
        | c u=>exact (hc ⟨u,rfl⟩).elim
        | _=>rfl
       have e2:d6 (a::s)=none:=by
        cases a with
        | c u=>exact (n u rfl).elim
        | _=>rfl
       rw [e1,e2]
theorem bY {X:Cx} {q q':Nat->Pl} {l:List WV} {k:Nat} {s:List HV} (r:VRL X q k l s) (ho:l.any d5=false):VRC X q' (O7 l) (I1 s)/\y7 (O7 l)=false:=by
 unfold O7 I1;rw [nW r];cases d6 s with
 | some l=>exact ⟨rfl,rfl⟩
 | none=>exact ⟨⟨s,rfl,r.any ho⟩,ho⟩
theorem wG {X:Cx} {q:Nat->Pl} {q':Nat->Nat->Pl} {ek:Option Nat} {cs:List WV} {hs:List HV} {off k:Nat} {v:WV} (r:VRL X q k cs hs) (ho:cs.any d5=false) (h:S6 ek cs off=some v) :
 ∃ a,D1 ek hs off=some a/\VR X q' v a/\y7 v=false:=by
 cases ek with
 | none=>
   obtain ⟨a,h1,h2⟩:=r.get (show cs[off]?=some v from h);exact ⟨a,h1,zj3 h2 (pR ho h)⟩
 | some n=>
   simp only [S6] at h;split at h
   . rename_i hl;injection h with h;subst h;refine ⟨_,by simp only [D1];rw [<-r.len,if_pos hl],?_⟩;have:=bY (q':=q' 0) ((r.drop off).take n) (fL n (kQ off ho));exact ⟨N9 this.1,this.2⟩
   . cases h
theorem mN {X:Cx} (hx:XOk X) {q:Nat->Nat->Pl} {ek:Option Nat} {v:WV} {h:HV} (r:VR X q v h) {l:List CV} (he:qT ek v=some l):J8 ek h X.H=some l:=by
 cases v with
 | nils=>have r':h=.nils:=r;subst r';exact he
 | c u=>
   have r':h=.c u:=r;subst r';cases u with
   | frz ek' xs=>cases xs<;>exact he
   | _=>cases he
 | view p b off e ek' xs=>
   obtain ⟨rfl,b',ys,r2,r3,r4,r5⟩:=r;simp only [qT] at he;split at he
   . rename_i hek;injection he with he;subst he;subst hek;obtain ⟨zs,z1,z2,z3,z4⟩:=hx.own p _ _ _ _ r2;simp only [J8,z1];rw [if_pos ⟨trivial,trivial,by omega⟩];rw [<-r4,<-z3,List.drop_take,List.take_take,List.drop_drop];congr 2;simp only [List.length_take,List.length_drop];omega
   . cases he
 | imm fz ek' xs=>
   obtain ⟨id,ver,off,rfl,fb,e,ys,r1,r2,r3,r4,r5⟩:=r;simp only [qT] at he;split at he
   . rename_i hek;injection he with he;subst he;subst hek;simp only [J8,r1];rw [if_pos ⟨trivial,trivial,r2⟩,r3]
   . cases he
 | _=>cases he
theorem zh1 {X:Cx} (hx:XOk X) {q:Nat->Nat->Pl} {ek:Option Nat} {v:WV} {h:HV} (r:VR X q v h) {l:List CV} (he:bT ek v=some l):zH ek h X.H=some l:=by
 unfold bT at he;split at he
 . have r':h=.c (.str _):=r;subst r';exact he
 . have:=mN hx r he;unfold zH;split
   . cases this
   . exact this
theorem iP {X:Cx} {q:Nat->Nat->Pl} {k:Nat} {v:WV} {h:HV} (r:VR X q v h) {b:Bool} (he:aE k v=some b):yK k h=some b:=by
 cases v with
 | nils=>have r':h=.nils:=r;subst r';exact he
 | c u=>have r':h=.c u:=r;subst r';exact he
 | view p b off e ek' xs=>
   obtain ⟨rfl,_⟩:=r;exact he
 | imm fz ek' xs=>
   obtain ⟨id,ver,off,rfl,_⟩:=r;exact he
 | ptr id off=>
   have r':=r;first|(have r':h=.ptr _ _:=r;subst r';exact he)|(obtain ⟨rfl,_⟩:=r;exact he)|(obtain ⟨_,rfl,_⟩:=r;exact he)
 | fn f first cap=>
   first|(obtain ⟨_,_,rfl,_⟩:=r;exact he)|(obtain ⟨_,_,_,rfl,_⟩:=r;exact he)
 | _=>cases he
theorem zq6 {neg:Bool} {k:Nat} {x:Opd} {dst:Option Nat} {X:Cx} {w w':WFr} {W W':q8} {fr:Fr} (s:SR X w W fr) (h:j4 (.isn neg k x) dst w W=some (w',W')):WSim (.isn neg k x) dst X w W fr w' W':=by
 simp only [j4] at h;split at h
 . rename_i b hb;injection h with h;injection h with h1 h2;subst h1;subst h2;have r:=rdR s.fr Pl.tmp x (by intro e;rw [e] at hb;cases hb);exact .here (by simp only [q9,iP r hb]) (s.putc dst _)
 . cases h
theorem z47 {T n:Nat} {x:Opd} {dst:Option Nat} {X:Cx} {w w':WFr} {W W':q8} {fr:Fr} (s:SR X w W fr) (h:j4 (.tyck T n x) dst w W=some (w',W')):WSim (.tyck T n x) dst X w W fr w' W':=by
 simp only [j4] at h;split at h
 . rename_i id hx;split at h
   . rename_i ek cs hid;split at h
     . rename_i hT;injection h with h;injection h with h1 h2;subst h1;subst h2;have r:=rdR s.fr Pl.tmp x (by rw [hx];simp);rw [hx] at r;obtain ⟨rfl',hlt⟩:=r;obtain ⟨⟨hs,c1,c2⟩,_⟩:=s.hp.cells id ek cs hid;have hT':R1 ek=some T/\hs.length=n:=⟨hT.1,by rw [<-c2.len];exact hT.2⟩;exact .here (fr':=fr.put dst (.ptr (X.rho id) 0)) (by simp only [q9,rfl',c1,if_pos hT']) (s.put (q:=Pl.tmp) (v:=.ptr id 0) ⟨rfl,hlt⟩ rfl)
     . cases h
   . cases h
 . cases h
theorem zm0 {e:Nat} {x:Opd} {dst:Option Nat} {X:Cx} {w w':WFr} {W W':q8} {fr:Fr} (s:SR X w W fr) (h:j4 (.rowck e x) dst w W=some (w',W')):WSim (.rowck e x) dst X w W fr w' W':=by
 simp only [j4] at h;split at h
 . rename_i hx;injection h with h;injection h with h1 h2;subst h1;subst h2;have r:=rdR s.fr Pl.tmp x (by rw [hx];simp);rw [hx] at r;have r':fr.opd x=.nils:=r;exact .here (by simp only [q9,r']) (s.putc dst _)
 . rename_i pl e' xs hx;split at h
   . rename_i hc;injection h with h;injection h with h1 h2;subst h1;subst h2;obtain ⟨rfl,hc1,hc2⟩:=hc;have r:=rdR s.fr Pl.tmp x (by rw [hx];simp);rw [hx] at r;obtain ⟨r1,b',ys,r2,r3,r4,r5⟩:=r;obtain ⟨hb',_⟩:=r5 rfl;obtain ⟨zs,z1,z2,z3,z4⟩:=s.ok.own pl _ _ _ _ r2;have z0:=z4 hb';rw [z0] at r1 z2 z3;simp only [Nat.zero_add,List.drop_zero,Nat.add_zero] at r1 r3 r4 z2 z3;have ht:zs.take xs.length=xs:=by rw [<-r4,<-z3,List.take_take];congr 1;simp only [List.length_take];omega
     exact .here (by simp only [q9,r1,z1];rw [if_pos ⟨trivial,trivial,hc1,by omega,by rw [ht];exact hc2⟩]) (s.putc dst _)
   . cases h
 . cases h
theorem zi2 {x y:Opd} {dst:Option Nat} {X:Cx} {w w':WFr} {W W':q8} {fr:Fr} (s:SR X w W fr) (h:j4 (.peq x y) dst w W=some (w',W')):WSim (.peq x y) dst X w W fr w' W':=by
 simp only [j4] at h;split at h
 . rename_i i a j b hx hy;injection h with h;injection h with h1 h2;subst h1;subst h2;have r:=rdR s.fr Pl.tmp x (by rw [hx];simp);have r':=rdR s.fr Pl.tmp y (by rw [hy];simp);rw [hx] at r;rw [hy] at r';obtain ⟨e1,l1⟩:=r;obtain ⟨e2,l2⟩:=r';have he:decide (i=j/\a=b)=decide (X.rho i=X.rho j/\a=b):=by
    apply decide_eq_decide.2;constructor
    . rintro ⟨rfl,rfl⟩;exact ⟨rfl,rfl⟩
    . rintro ⟨q,rfl⟩;exact ⟨s.ok.rinj i j l1 l2 q,rfl⟩
   rw [he];exact .here (by simp only [q9,e1,e2]) (s.putc dst _)
 . cases h
theorem ze5 {st:Bool} {x:Opd} {dst:Option Nat} {X:Cx} {w w':WFr} {W W':q8} {fr:Fr} (s:SR X w W fr) (h:j4 (.len st x) dst w W=some (w',W')):WSim (.len st x) dst X w W fr w' W':=by
 simp only [j4] at h;split at h
 . rename_i n hn;injection h with h;injection h with h1 h2;subst h1;subst h2;have key:jC st (fr.opd x)=some n:=by
    have r:=rdR s.fr Pl.tmp x (by intro e;rw [e] at hn;cases hn);cases hv:w.rd x with
    | c u=>rw [rd_c s.fr hv];rw [hv] at hn;cases u<;>first | exact hn | cases hn
    | nils=>rw [hv] at hn r;have:fr.opd x=.nils:=r;rw [this];exact hn
    | view p b off e ek xs=>rw [hv] at hn r;rw [r.1];exact hn
    | imm fz ek xs=>rw [hv] at hn r;obtain ⟨id,ver,off,r1,_⟩:=r;rw [r1];exact hn
    | _=>rw [hv] at hn;cases hn
   exact .here (by simp only [q9,key]) (s.putc dst _)
 . cases h
theorem Y6 {α:Type} {ys xs:List α} {off:Nat} (h:(ys.drop off).take xs.length=xs) {i:Nat} {x:α} (hi:xs[i]?=some x):ys[off+i]?=some x:=by
 rw [<-h] at hi;rw [List.getElem?_take] at hi;split at hi
 . rw [List.getElem?_drop] at hi;exact hi
 . cases hi
theorem zr7 {ek:Option Nat} {x i:Opd} {dst:Option Nat} {X:Cx} {w w':WFr} {W W':q8} {fr:Fr} (s:SR X w W fr) (h:j4 (.ix ek x i) dst w W=some (w',W')):WSim (.ix ek x i) dst X w W fr w' W':=by
 simp only [j4] at h;split at h
 . rename_i n hn;obtain ⟨u,h1,h2⟩:=U9 h;injection h2 with h2 h3;subst h2;subst h3;have key:∃ a,ixH ek (fr.opd x) n X.H=some a/\VR X Pl.tmp u a/\y7 u=false:=by
    have r:=rdR s.fr Pl.tmp x (by intro e;rw [e] at h1;cases h1);cases hv:w.rd x with
    | c v=>
      rw [rd_c s.fr hv];rw [hv] at h1;cases v with
      | frz ek' xs=>
        simp only [ixW] at h1;split at h1
        . rename_i hc;split at h1
          . rename_i v hx;injection h1 with h1;subst h1;exact ⟨_,by simp only [ixH];rw [if_pos hc,hx],rfl,rfl⟩
          . cases h1
        . cases h1
      | _=>cases h1
    | view p b off e ek' xs=>
      rw [hv] at h1 r;obtain ⟨r1,b',ys,r2,r3,r4,r5⟩:=r;simp only [ixW] at h1;split at h1
      . rename_i hc;split at h1
        . rename_i v hx;injection h1 with h1;subst h1;obtain ⟨hc1,hc2⟩:=hc;subst hc1;obtain ⟨zs,z1,z2,z3,z4⟩:=s.ok.own p _ _ _ _ r2;have hlt:=(gEs hx).1;refine ⟨.eptr (X.th p).1 (X.th p).2.1 ((X.th p).2.2+off+n.toNat) 0,?_,⟨by rw [Nat.add_assoc],b',e,ys,r2,Y6 r4 hx⟩,rfl⟩;rw [r1];simp only [ixH,z1];rw [if_pos ⟨trivial,trivial,hc2,by omega⟩]
        . cases h1
      . cases h1
    | imm fz ek' xs=>
      rw [hv] at h1 r;obtain ⟨id,ver,off,r1,fb,e,ys,r2,r3,r4,r5⟩:=r;simp only [ixW] at h1;split at h1
      . rename_i hc;split at h1
        . rename_i v hx;injection h1 with h1;subst h1;obtain ⟨hc1,hc2⟩:=hc;subst hc1;have hlt:=(gEs hx).1;refine ⟨.eptr id ver (off+n.toNat) 0,?_,⟨id,ver,off+n.toNat,rfl,fb,e,ys,r2,Y6 r4 hx,r5⟩,rfl⟩;rw [r1];simp only [ixH,r2];rw [if_pos ⟨trivial,trivial,hc2,by omega⟩]
        . cases h1
      . cases h1
    | _=>rw [hv] at h1;cases h1
   obtain ⟨a,k1,k2,k3⟩:=key;exact .here (by simp only [q9,bA s.fr hn,k1]) (s.put k2 k3)
 . cases h
theorem cZ {X:Cx} {w:WFr} {fr:Fr} (f:FrR X w fr) {o:Option Opd} {n:Option Int} (h:Q9 w o=some n):C0 fr o=some n:=by
 cases o with
 | none=>exact h
 | some x=>
   simp only [Q9] at h;split at h
   . rename_i i hi;simp only [C0,bA f hi];exact h
   . cases h
theorem yP {α:Type} (ys xs:List α) (off l n:Nat) (h:(ys.drop off).take xs.length=xs) (hl:l+n<=xs.length):(ys.drop (off+l)).take n=(xs.drop l).take n:=by
 rw [<-h,List.drop_take,List.take_take,List.drop_drop];congr 1;omega
theorem q04 {st:Bool} {ek:Option Nat} {x:Opd} {lo hi:Option Opd} {dst:Option Nat} {X:Cx} {w w':WFr} {W W':q8} {fr:Fr} (s:SR X w W fr) (h:j4 (.slc st ek x lo hi) dst w W=some (w',W')):WSim (.slc st ek x lo hi) dst X w W fr w' W':=by
 simp only [j4] at h;split at h
 . rename_i l n hl hn;obtain ⟨u,h1,h2⟩:=U9 h;injection h2 with h2 h3;subst h2;subst h3;have key:∃ a,I0 st ek (fr.opd x) l n X.H=some a/\VR X Pl.tmp u a/\y7 u=false:=by
    have r:=rdR s.fr Pl.tmp x (by intro e;rw [e] at h1;cases h1);cases hv:w.rd x with
    | c v=>
      rw [rd_c s.fr hv];rw [hv] at h1;cases v with
      | frz ek' xs=>
        simp only [W4] at h1;split at h1
        . rename_i hc;injection h1 with h1;subst h1;exact ⟨_,by simp only [I0];rw [if_pos hc],rfl,rfl⟩
        . cases h1
      | str t=>
        simp only [W4] at h1;split at h1
        . rename_i hc;injection h1 with h1;subst h1;exact ⟨_,by simp only [I0];rw [if_pos hc],rfl,rfl⟩
        . cases h1
      | _=>cases h1
    | nils=>
      rw [hv] at h1 r;have:fr.opd x=.nils:=r;rw [this];simp only [W4] at h1;split at h1
      . rename_i hc;injection h1 with h1;subst h1;exact ⟨_,by simp only [I0];rw [if_pos hc],rfl,rfl⟩
      . cases h1
    | view p b off e ek' xs=>
      rw [hv] at h1 r;obtain ⟨r1,b',ys,r2,r3,r4,r5⟩:=r;simp only [W4] at h1;split at h1
      . rename_i hc;injection h1 with h1;subst h1;obtain ⟨hc1,hc2,hc3,hc4,hc5⟩:=hc;subst hc1;obtain ⟨zs,z1,z2,z3,z4⟩:=s.ok.own p _ _ _ _ r2;have e1:((xs.drop (l.getD 0).toNat).take ((n.getD xs.length).toNat - (l.getD 0).toNat)).length=(n.getD xs.length).toNat - (l.getD 0).toNat:=by
         simp only [List.length_take,List.length_drop];omega
        refine ⟨.sl (X.th p).1 (X.th p).2.1 ((X.th p).2.2+off+(l.getD 0).toNat) ((n.getD xs.length).toNat - (l.getD 0).toNat),?_,⟨by rw [e1,Nat.add_assoc],b',ys,r2,by rw [e1];omega,?_,?_⟩,rfl⟩
        . rw [r1];simp only [I0,z1];rw [if_pos ⟨trivial,trivial⟩,if_pos ⟨hc2,hc3,hc4,hc5⟩]
        . rw [e1];exact yP ys xs off _ _ r4 (by omega)
        . intro hb;simp only [Bool.and_eq_true,decide_eq_true_eq] at hb;obtain ⟨q1,q2⟩:=r5 hb.1;exact ⟨q1,by rw [q2,hb.2];rfl⟩
      . cases h1
    | imm fz ek' xs=>
      rw [hv] at h1 r;obtain ⟨id,ver,off,r1,fb,e,ys,r2,r3,r4,r5⟩:=r;simp only [W4] at h1;split at h1
      . rename_i hc;injection h1 with h1;subst h1;obtain ⟨hc1,hc2,hc3,hc4,hc5⟩:=hc;subst hc1;have e1:((xs.drop (l.getD 0).toNat).take ((n.getD xs.length).toNat - (l.getD 0).toNat)).length=(n.getD xs.length).toNat - (l.getD 0).toNat:=by
         simp only [List.length_take,List.length_drop];omega
        refine ⟨.sl id ver (off+(l.getD 0).toNat) ((n.getD xs.length).toNat - (l.getD 0).toNat),?_,⟨id,ver,off+(l.getD 0).toNat,by rw [e1],fb,e,ys,r2,by rw [e1];omega,?_,r5⟩,rfl⟩
        . rw [r1];simp only [I0,r2];rw [if_pos ⟨trivial,trivial⟩,if_pos ⟨hc2,hc3,hc4,hc5⟩]
        . rw [e1];exact yP ys xs off _ _ r4 (by omega)
      . cases h1
    | _=>rw [hv] at h1;cases h1
   obtain ⟨a,k1,k2,k3⟩:=key;exact .here (by simp only [q9,cZ s.fr hl,cZ s.fr hn,k1]) (s.put k2 k3)
 . cases h
theorem eC {x:Opd} {dst:Option Nat} {X:Cx} {w w':WFr} {W W':q8} {fr:Fr} (s:SR X w W fr) (h:j4 (.b2s x) dst w W=some (w',W')):WSim (.b2s x) dst X w W fr w' W':=by
 simp only [j4] at h;split at h
 . rename_i l hl;injection h with h;injection h with h1 h2;subst h1;subst h2;obtain ⟨t,h1,h2⟩:=Option.bind_eq_some_iff.1 hl;have r:=rdR s.fr Pl.tmp x (by intro e;rw [e] at h1;cases h1);have he:=mN s.ok r h1;exact .here (by simp only [q9,he,Option.bind_some,h2]) (s.putc dst _)
 . cases h
theorem zm5 {ek:Option Nat} {off:Nat} {x:Opd} {dst:Option Nat} {X:Cx} {w w':WFr} {W W':q8} {fr:Fr} (s:SR X w W fr) (h:j4 (.fld ek off x) dst w W=some (w',W')):WSim (.fld ek off x) dst X w W fr w' W':=by
 simp only [j4] at h;split at h
 . rename_i cs hcs;obtain ⟨u,h1,h2⟩:=U9 h;injection h2 with h2 h3;subst h2;subst h3;have r:=rdR s.fr Pl.tmp x (by intro e;rw [e] at hcs;cases hcs);have ho:=M4 w x;cases hv:w.rd x with
   | c v=>
     rw [hv] at hcs;cases v with
     | agg l=>
       injection hcs with hcs;subst hcs;obtain ⟨a,k1,k2,k3⟩:=wG (q':=Pl.tmp) (nZ (X:=X) (q:=Pl.tmp 0) l 0) (by simp [d5]) h1;exact .here (by simp only [q9,rd_c s.fr hv,J7,k1]) (s.put k2 k3)
     | _=>cases hcs
   | agg l=>
     rw [hv] at hcs r ho;injection hcs with hcs;subst hcs;obtain ⟨hs,r1,r2⟩:=r;obtain ⟨a,k1,k2,k3⟩:=wG (q':=Pl.tmp) r2 ho h1;exact .here (by simp only [q9,r1,J7,k1]) (s.put k2 k3)
   | _=>rw [hv] at hcs;cases hcs
 . cases h
theorem H7 {X:Cx} {w:WFr} {fr:Fr} (f:FrR X w fr) {x:Opd} {v:WV} (h:w.rd x=v) (hg:v≠.gone):VR X Pl.tmp v (fr.opd x):=by
 have:=rdR f Pl.tmp x (by rw [h];exact hg);rw [h] at this;exact this
theorem za3 {n:Nat} {a:Opd} {dst:Option Nat} {X:Cx} {w w':WFr} {W W':q8} {fr:Fr} (s:SR X w W fr) (h:j4 (.faddr n a) dst w W=some (w',W')):WSim (.faddr n a) dst X w W fr w' W':=by
 simp only [j4] at h;rw [P9 s.fr] at h;cases hp:fr.place a with
 | some p=>
   obtain ⟨b,off⟩:=p;rw [hp] at h;obtain ⟨h1,h2⟩:=gI s h;exact .here (by simp only [q9,hp];exact h1) h2
 | none=>
   rw [hp] at h;simp only at h;split at h
   . rename_i id off hv;injection h with h;injection h with h1 h2;subst h1;subst h2;have r:=H7 s.fr hv (by simp);exact .here (by simp only [q9,hp];rw [r.1]) (s.put (q:=Pl.tmp) ⟨rfl,r.2⟩ rfl)
   . rename_i pl i off ek x hv;injection h with h;injection h with h1 h2;subst h1;subst h2;have r:=H7 s.fr hv (by simp);exact .here (by simp only [q9,hp];rw [r.1]) (s.put (q:=Pl.tmp) ⟨rfl,r.2⟩ rfl)
   . rename_i fz ek x off hv;injection h with h;injection h with h1 h2;subst h1;subst h2;obtain ⟨id,ver,i,r1,r2⟩:=H7 s.fr hv (by simp);exact .here (by simp only [q9,hp];rw [r1]) (s.put (q:=Pl.tmp) ⟨id,ver,i,rfl,r2⟩ rfl)
   . rename_i ek x off hv;injection h with h;injection h with h1 h2;subst h1;subst h2;exact .here (by simp only [q9,hp,rd_c s.fr hv]) (s.putc dst _)
   . cases h
theorem zf2 {a:Opd} {dst:Option Nat} {X:Cx} {w w':WFr} {W W':q8} {fr:Fr} (s:SR X w W fr) (h:j4 (.nck a) dst w W=some (w',W')):WSim (.nck a) dst X w W fr w' W':=by
 simp only [j4] at h;rw [P9 s.fr] at h;cases hp:fr.place a with
 | some p=>
   obtain ⟨b,off⟩:=p;rw [hp] at h;obtain ⟨h1,h2⟩:=gI s h;exact .here (by simp only [q9,hp];exact h1) h2
 | none=>
   rw [hp] at h;simp only at h;split at h
   . rename_i id off hv;injection h with h;injection h with h1 h2;subst h1;subst h2;have r:=H7 s.fr hv (by simp);exact .here (by simp only [q9,hp];rw [r.1]) (s.put (q:=Pl.tmp) ⟨rfl,r.2⟩ rfl)
   . rename_i pl i off ek x hv;injection h with h;injection h with h1 h2;subst h1;subst h2;have r:=H7 s.fr hv (by simp);exact .here (by simp only [q9,hp];rw [r.1]) (s.put (q:=Pl.tmp) ⟨rfl,r.2⟩ rfl)
   . rename_i fz ek x off hv;injection h with h;injection h with h1 h2;subst h1;subst h2;obtain ⟨id,ver,i,r1,r2⟩:=H7 s.fr hv (by simp);exact .here (by simp only [q9,hp];rw [r1]) (s.put (q:=Pl.tmp) ⟨id,ver,i,rfl,r2⟩ rfl)
   . rename_i ek x off hv;injection h with h;injection h with h1 h2;subst h1;subst h2;exact .here (by simp only [q9,hp,rd_c s.fr hv]) (s.putc dst _)
   . cases h
theorem X1 {X:Cx} {q:Nat->Pl} {v:WV} {h:HV} (r:VRC X q v h) (h1:v≠.undef) (h2:v≠.gone):VRL X q 0 v.flat h.flat:=by
 cases v with
 | agg cs=>obtain ⟨hs,rfl,r2⟩:=r;exact r2
 | undef=>exact (h1 rfl).elim
 | gone=>exact (h2 rfl).elim
 | tup=>exact r.elim
 | lbox=>exact r.elim
 | c u=>
   have r':h=.c u:=r;subst r';cases u<;>first | exact nZ _ 0 | exact ⟨rfl,trivial⟩
 | nils=>have r':h=.nils:=r;subst r';exact ⟨rfl,trivial⟩
 | skipv=>have r':h=.skipv:=r;subst r';exact ⟨rfl,trivial⟩
 | own b e ek xs=>have r':=r;obtain ⟨rfl,_⟩:=r;exact ⟨r',trivial⟩
 | view p b off e ek xs=>have r':=r;obtain ⟨rfl,_⟩:=r;exact ⟨r',trivial⟩
 | imm fz ek xs=>have r':=r;obtain ⟨id,ver,off,rfl,_⟩:=r;exact ⟨r',trivial⟩
 | ptr id off=>have r':=r;obtain ⟨rfl,_⟩:=r;exact ⟨r',trivial⟩
 | eptr p i off ek x=>have r':=r;obtain ⟨rfl,_⟩:=r;exact ⟨r',trivial⟩
 | iptr fz ek x off=>have r':=r;obtain ⟨id,ver,i,rfl,_⟩:=r;exact ⟨r',trivial⟩
 | fn f a b=>have r':=r;obtain ⟨a',b',rfl,_⟩:=r;exact ⟨r',trivial⟩
theorem pW {v:WV} (h:c8 v=false):v.flat.any d5=false:=by
 cases v with
 | agg cs=>exact h
 | own=>cases h
 | c u=>cases u<;>simp [WV.flat,d5]
 | _=>rfl
theorem zb7 {ek:Option Nat} {a:Opd} {dst:Option Nat} {X:Cx} {w w':WFr} {W W':q8} {fr:Fr} (s:SR X w W fr) (h:j4 (.load ek a) dst w W=some (w',W')):WSim (.load ek a) dst X w W fr w' W':=by
 simp only [j4] at h;rw [P9 s.fr] at h;cases hp:fr.place a with
 | some p=>
   obtain ⟨b,off⟩:=p;rw [hp] at h;simp only at h;split at h
   . rename_i ek' x hb;obtain ⟨u,h1,h2⟩:=U9 h;injection h2 with h2 h3;subst h2;subst h3;have r:=s.fr.env b;rw [hb] at r;obtain ⟨x1,r1,r2⟩:=r;have r3:VRC X (Pl.tmp 0) (i7 (Pl.sl b 0) x) x1:=r2.peek;have ho:=xI (Pl.sl b 0) x;have key:∃ y,(if off=0/\ek'=ek then some x1 else D1 ek x1.flat off)=some y/\VR X Pl.tmp u y/\y7 u=false:=by
      split at h1
      . rename_i hc;injection h1 with h1;subst h1;refine ⟨x1,by rw [if_pos hc],N9 r3,?_⟩;revert ho
        cases x with
        | tup=>exact r2.elim
        | lbox=>exact r2.elim
        | _=>exact fun x=>x
      . rename_i hc;rw [if_neg hc];by_cases hu:i7 (Pl.sl b 0) x=.undef\/i7 (Pl.sl b 0) x=.gone
        . have e:(i7 (Pl.sl b 0) x).flat=[]:=by rcases hu with hu | hu<;>rw [hu]<;>rfl
          rw [e] at h1;cases ek with
          | none=>simp [S6] at h1
          | some n=>
            have h2:off+n<=0:=by
             simp only [S6,List.length_nil] at h1;by_cases hh:off+n<=0
             . exact hh
             . rw [if_neg hh] at h1;cases h1
            have e1:off=0:=by omega
            have e2:n=0:=by omega
            subst e1;subst e2;have h3:u=.c (.agg []):=by
             simp [S6,O7,B7] at h1;exact h1.symm
            subst h3;exact ⟨.c (.agg []),by simp [D1,I1,d6],rfl,rfl⟩
        . exact wG (X1 r3 (fun e=>hu (.inl e)) (fun e=>hu (.inr e))) (pW ho) h1
     obtain ⟨y,k1,k2,k3⟩:=key;exact .here (by simp only [q9,hp,r1,k1]) (s.put k2 k3)
   . cases h
 | none=>
   rw [hp] at h;simp only at h;obtain ⟨u,h1,h2⟩:=U9 h;injection h2 with h2 h3;subst h2;subst h3;have key:∃ y,m9 ek (fr.opd a) X.H=some y/\VR X Pl.tmp u y/\y7 u=false:=by
    cases hv:w.rd a with
    | c v=>
      rw [rd_c s.fr hv];rw [hv] at h1;cases v with
      | fptr ek' x off=>
        simp only [J6] at h1;cases hr:I9 ek' ek x off with
        | none=>rw [hr] at h1;cases h1
        | some z=>
          rw [hr] at h1;injection h1 with h1;subst h1;exact ⟨_,by simp only [m9,hr];rfl,rfl,rfl⟩
      | _=>cases h1
    | ptr id off=>
      have r:=H7 s.fr hv (by simp);rw [hv] at h1;simp only [J6] at h1;cases hw:W'[id]? with
      | none=>rw [hw] at h1;cases h1
      | some o=>
        obtain ⟨ek',cs⟩:=o;rw [hw] at h1;simp only at h1;obtain ⟨⟨hs,c1,c2⟩,c3⟩:=s.hp.cells id ek' cs hw;obtain ⟨y,k1,k2,k3⟩:=wG (q':=Pl.tmp) (c2.peek (q':=Pl.tmp 0) (k':=0)) (vS _ cs 0) h1;exact ⟨y,by rw [r.1];simp only [m9,c1,k1],k2,k3⟩
    | eptr p i off ek' x=>
      have r:=H7 s.fr hv (by simp);rw [hv] at h1;obtain ⟨r1,b',e,ys,r2,r3⟩:=r;simp only [J6] at h1;cases hr:I9 ek' ek x off with
      | none=>rw [hr] at h1;cases h1
      | some z=>
        rw [hr] at h1;injection h1 with h1;subst h1;obtain ⟨zs,z1,z2,z3,z4⟩:=s.ok.own p _ _ _ _ r2;have hz:=Y6 z3 r3;exact ⟨_,by rw [r1];simp only [m9,z1,if_true,hz,hr];rfl,rfl,rfl⟩
    | iptr fz ek' x off=>
      obtain ⟨id,ver,i,r1,fb,e,ys,r2,r3,r4⟩:=H7 s.fr hv (by simp);rw [hv] at h1;simp only [J6] at h1;cases hr:I9 ek' ek x off with
      | none=>rw [hr] at h1;cases h1
      | some z=>
        rw [hr] at h1;injection h1 with h1;subst h1;exact ⟨_,by rw [r1];simp only [m9,r2,if_true,r3,hr];rfl,rfl,rfl⟩
    | _=>rw [hv] at h1;cases h1
   obtain ⟨y,k1,k2,k3⟩:=key;exact .here (by simp only [q9,hp,k1]) (s.put k2 k3)
end Go.Proofs.Lz
