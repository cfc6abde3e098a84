/- Each operation of the model does what the evaluator says: those that leave memory alone. -/
import Derived.Test.YtlimfobeoodkjaaGreatDoorLzFrame
import Derived.Laws.StructEq
import Derived.Laws.Entries
set_option linter.unusedVariables false
set_option linter.unusedSimpArgs false
set_option linter.unusedSectionVars false
namespace Go.Proofs.Lz
variable [GlobTab]
theorem rh_c {w:World} {F:Nat->Prop} {H:q7} {m:j7} {v:CV} {u:Value}:RH w F H m (.c v) u↔RC w F v u:=by unfold RH;exact Iff.rfl
theorem rc_bool {w:World} {F:Nat->Prop} {b:Bool} {u:Value}:RC w F (.bool b) u↔u=.bool b:=by unfold RC;exact Iff.rfl
theorem m7 {w:World} {F:Nat->Prop} {k:IntKind} {n:Int} {u:Value}:RC w F (.int k n) u↔u=.int k n:=by unfold RC;exact Iff.rfl
theorem a6 {w:World} {F:Nat->Prop} {s:List UInt8} {u:Value}:RC w F (.str s) u↔u=.string ⟨s.toArray⟩:=by unfold RC;exact Iff.rfl
structure RS (fb N:Nat) (w:World) (F:Nat->Prop) (H:q7) (m:j7) (lb:Nat->Nat) (fr:Fr) (a:Act):Prop where
 heap:RHeap w F H m
 fr:RFr fb N w F H m lb fr a
 fb:fb<=w.heap.size
def Next (fb N:Nat) (w:World) (F:Nat->Prop) (H:q7) (m:j7) (fr':Fr) (H':q7) (K:Act->World->Prop):Prop:=
 ∀ (F':Nat->Prop) (m':j7) (lb':Nat->Nat) (a':Act) (w':World),Stp fb F F' H H' m m' w w'->RS fb N w' F' H' m' lb' fr' a'->K a' w'
section
variable {P:Program} {fb N:Nat} {w:World} {F:Nat->Prop} {H:q7} {m:j7} {lb:Nat->Nat} {fr:Fr} {a:Act} {o:Oper}
variable {K:Act->World->Prop} {Q:Exit->Act->World->Prop}
theorem x7 (hs:RS fb N w F H m lb fr a) (hN:∀ d,o.dst=some d->d<N) {v:HV} {u:Value} (hv:RH w F H m v u) (hb:∀ ek x,v≠.lbox ek x)
 (h:Next fb N w F H m (fr.put o.dst v) H K) (hrun:(execOp a.eval o).run P w=.ok (.value u) w):o.wp P a w K Q:=by
 unfold Oper.wp;rw [hrun];exact h F m lb _ w (Stp.refl ..) ⟨hs.heap,hs.fr.put o.dst hN hv hb,hs.fb⟩
theorem O4 (hs:RS fb N w F H m lb fr a) (hN:∀ d,o.dst=some d->d<N) {F':Nat->Prop} {H':q7} {m':j7} {w':World} (st:Stp w.heap.size F F' H H' m m' w w') (hh:RHeap w' F' H' m') {v:HV} {u:Value} (hv:RH w' F' H' m' v u) (hb:∀ ek x,v≠.lbox ek x)
 (h:Next fb N w F H m (fr.put o.dst v) H' K) (hrun:(execOp a.eval o).run P w=.ok (.value u) w'):o.wp P a w K Q:=by
 unfold Oper.wp;rw [hrun];exact h F' m' lb _ w' (st.mono hs.fb) ⟨hh,(hs.fr.step st).put o.dst hN hv hb,Nat.le_trans hs.fb st.size⟩
theorem kU (hs:RS fb N w F H m lb fr a) (hN:∀ d,o.dst=some d->d<N) {b off:Nat} {fr':Fr} {H':q7} (hd:N6 o.dst b off fr H=some (fr',H')) {u:Value}
 (hu:∀ ek x,fr.env b=.lbox ek x->u=.pointer (some ⟨lb b,off,none⟩)) (h:Next fb N w F H m fr' H' K) (hrun:(execOp a.eval o).run P w=.ok (.value u) w):o.wp P a w K Q:=by
 unfold N6 at hd;split at hd
 . cases hd
 . rename_i hne;injection hd with hd;injection hd with q1 q2;subst q1;subst q2;unfold Oper.wp;rw [hrun];exact h F m lb _ w (Stp.refl ..) ⟨hs.heap,hs.fr.link' o.dst hN hne hu,hs.fb⟩
theorem G0 (v:CV):∀ ek x,HV.c v≠.lbox ek x:=fun _ _=>by simp
theorem cE {x:Operand} {ix:Opd} (ho:o.op=.move x\/o.op=.assign x) (hx:j5 x=some ix) (hs:RS fb N w F H m lb fr a) (hN:∀ d,o.dst=some d->d<N)
 {fr':Fr} {H':q7} (hd:q9 (.mv ix) o.dst fr H=some (fr',H')) (h:Next fb N w F H m fr' H' K):o.wp P a w K Q:=by
 have hrun:(execOp a.eval o).run P w=.ok (.value (a.eval x)) w:=by
  rcases ho with ho | ho<;>simp [execOp,ho]
 unfold q9 at hd;dsimp only at hd;cases hp:fr.place ix with
 | some p=>
   obtain ⟨b,off⟩:=p;rw [hp] at hd;exact kU hs hN hd (fun ek y hy=>(jT hs.fr hx hp).2) h hrun
 | none=>
   rw [hp] at hd;injection hd with hd;injection hd with q1 q2;subst q1;subst q2;obtain ⟨h1,h2⟩:=j9 hs.fr hx;exact x7 hs hN h1 h2 h hrun
theorem zo1 {op:UnOp} {xt:TypeId} {x:Operand} {ix:Opd} (ho:o.op=.unOp op xt x) (hx:j5 x=some ix) (hs:RS fb N w F H m lb fr a) (hN:∀ d,o.dst=some d->d<N)
 {fr':Fr} {H':q7} (hd:q9 (.un op ix) o.dst fr H=some (fr',H')) (h:Next fb N w F H m fr' H' K):o.wp P a w K Q:=by
 obtain ⟨h1,h2⟩:=j9 hs.fr hx;unfold q9 at hd;dsimp only at hd;generalize fr.opd ix=vx at hd h1 h2;cases vx with
 | c v=>
   dsimp only at hd;cases hu:unC op v with
   | none=>rw [hu] at hd;cases hd
   | some r=>
     rw [hu] at hd;injection hd with hd;injection hd with q1 q2;subst q1;subst q2;rw [rh_c] at h1;cases op<;>cases v<;>simp only [unC] at hu<;>try (cases hu)
     . rw [m7] at h1;refine x7 hs hN (u:=?_) (by rw [rh_c,m7]) (G0 _) h ?_;simp [execOp,ho,h1,Op.unary,Op.intArith]
     . rw [rc_bool] at h1;refine x7 hs hN (u:=?_) (by rw [rh_c,rc_bool]) (G0 _) h ?_;simp [execOp,ho,h1,Op.unary]
 | _=>cases hd
theorem gP (op:BinOp) (t:TypeId) (x y:Operand) {v u:Value} (hv:v.oneCell'=true) (hi:v≠.nilIface):(eqGuard op t x y v u).run P w=.ok () w:=by
 cases v<;>first | exact absurd rfl hi | (cases op<;>rfl) | cases hv
theorem bytes_beq (x y:List UInt8):((⟨x.toArray⟩:ByteArray).toList==(⟨y.toArray⟩:ByteArray).toList)=(x==y):=by
 have h:∀ z:List UInt8,(⟨z.toArray⟩:ByteArray).toList=z:=by
  intro z;simp [ByteArray.toList_eq]
 rw [h,h]
theorem wM {op:BinOp} {xt yt:TypeId} {x y:Operand} {ix iy:Opd} (ho:o.op=.binOp op xt x y yt) (hx:j5 x=some ix) (hy:j5 y=some iy) (hs:RS fb N w F H m lb fr a) (hN:∀ d,o.dst=some d->d<N)
 {fr':Fr} {H':q7} (hd:q9 (.bin op ix iy) o.dst fr H=some (fr',H')) (h:Next fb N w F H m fr' H' K):o.wp P a w K Q:=by
 obtain ⟨h1,h2⟩:=j9 hs.fr hx;obtain ⟨h3,h4⟩:=j9 hs.fr hy;unfold q9 at hd;dsimp only at hd;generalize fr.opd ix=vx at hd h1 h2;generalize fr.opd iy=vy at hd h3 h4;cases vx with
 | c v=>
   cases vy with
   | c u=>
     dsimp only at hd;cases hu:K5 op v u with
     | none=>rw [hu] at hd;cases hd
     | some r=>
       rw [hu] at hd;injection hd with hd;injection hd with q1 q2;subst q1;subst q2;rw [rh_c] at h1 h3;cases v with
       | int k p=>
         rw [m7] at h1;cases u with
         | int k' q=>
           rw [m7] at h3;have hg:=fun op=>gP (P:=P) (w:=w) op xt x y (v:=.int k p) (u:=.int k' q) rfl (by simp);cases op<;>simp only [K5] at hu<;>first
            | (cases hu;done)
            | (split at hu
               . rename_i hk;injection hu with hu;subst hu;first
                  | (have hk':¬ q<0:=Int.not_lt.2 hk
                     refine x7 hs hN (u:=?_) (by rw [rh_c,m7]) (G0 _) h ?_;simp [execOp,ho,h1,h3,hg,binOp,Op.shift,hk',hk];done)
                  | (obtain ⟨hk,hz⟩:=hk
                     subst hk;refine x7 hs hN (u:=?_) (by rw [rh_c,m7]) (G0 _) h ?_;simp [execOp,ho,h1,h3,hg,binOp,Op.intArith,Op.intDiv,Op.intCmp,hz])
                  | (subst hk
                     first
                      | (refine x7 hs hN (u:=?_) (by rw [rh_c,m7]) (G0 _) h ?_
                         simp [execOp,ho,h1,h3,hg,binOp,Op.intArith,Op.intDiv,Op.intCmp,Op.intBits];done)
                      | (refine x7 hs hN (u:=?_) (by rw [rh_c,rc_bool]) (G0 _) h ?_
                         simp [execOp,ho,h1,h3,hg,binOp,Op.intArith,Op.intDiv,Op.intCmp]))
               . cases hu)
         | _=>simp [K5] at hu
       | str p=>
         rw [a6] at h1;cases u with
         | str q=>
           rw [a6] at h3;have hg:=fun op=>gP (P:=P) (w:=w) op xt x y (v:=.string ⟨p.toArray⟩) (u:=.string ⟨q.toArray⟩) rfl (by simp);have hb:=bytes_beq p q;have e1:(⟨p.toArray⟩:ByteArray).toList=p:=by simp [ByteArray.toList_eq]
           have e2:(⟨q.toArray⟩:ByteArray).toList=q:=by simp [ByteArray.toList_eq]
           cases op<;>simp only [K5] at hu<;>first
            | (cases hu;done)
            | (split at hu
               . rename_i hk;injection hu with hu;subst hu;refine x7 hs hN (u:=?_) (by rw [rh_c,a6]) (G0 _) h ?_;have hsz:¬ (((⟨p.toArray⟩:ByteArray).size+(⟨q.toArray⟩:ByteArray).size:Nat):Int) > IntKind.i64.max:=by
                  have:IntKind.i64.max=9223372036854775807:=by decide
                  rw [this];have h5:(⟨p.toArray⟩:ByteArray).size=p.length:=by simp [ByteArray.size]
                  have h6:(⟨q.toArray⟩:ByteArray).size=q.length:=by simp [ByteArray.size]
                  rw [h5,h6];omega
                 have hap:(⟨p.toArray⟩:ByteArray)++⟨q.toArray⟩=⟨(p++q).toArray⟩:=by
                  apply ByteArray.ext;simp
                 simp only [execOp,ho,h1,h3,binOp,Op.stringOp,Sem.run_bind,hg,Result.andThen_ok,if_neg hsz,Sem.run_pure,hap]
               . cases hu)
            | (injection hu with hu;subst hu
               refine x7 hs hN (u:=?_) (by rw [rh_c,rc_bool]) (G0 _) h ?_;simp [execOp,ho,h1,h3,hg,binOp,Op.stringOp,e1,e2])
         | _=>simp [K5] at hu
       | _=>simp [K5] at hu
   | _=>cases hd
 | _=>cases hd
theorem bX {op:BinOp} {xt yt:TypeId} {x y:Operand} {ix iy:Opd} (ho:o.op=.binOp op xt x y yt) (hop:op=.eql\/op=.neq) (ht:P.underlying xt=some .bool) (hx:j5 x=some ix) (hy:j5 y=some iy) (hs:RS fb N w F H m lb fr a) (hN:∀ d,o.dst=some d->d<N)
 {fr':Fr} {H':q7} (hd:q9 (.eqb (op matches .neq) ix iy) o.dst fr H=some (fr',H')) (h:Next fb N w F H m fr' H' K):o.wp P a w K Q:=by
 obtain ⟨h1,h2⟩:=j9 hs.fr hx;obtain ⟨h3,h4⟩:=j9 hs.fr hy;unfold q9 at hd;dsimp only at hd;split at hd
 . rename_i p q e1 e2;injection hd with hd;injection hd with q1 q2;subst q1;subst q2;rw [e1,rh_c,rc_bool] at h1;rw [e2,rh_c,rc_bool] at h3;have hg:=fun op=>gP (P:=P) (w:=w) op xt x y (v:=.bool p) (u:=.bool q) rfl (by simp);have he:=run_equalIn_bool' (P:=P) w 9999 xt p q ht;rcases hop with rfl | rfl
   . refine x7 hs hN (u:=.bool (p==q)) (by rw [rh_c,rc_bool];rfl) (G0 _) h ?_;simp [execOp,ho,h1,h3,hg,binOp,Op.equal,Op.maxDepth,he]
   . refine x7 hs hN (u:=.bool (!(p==q))) (by rw [rh_c,rc_bool];rfl) (G0 _) h ?_;simp [execOp,ho,h1,h3,hg,binOp,Op.equal,Op.maxDepth,he]
 . cases hd
theorem dN {t:TypeId} {cs:List Value} {off:Nat} {v:Value} (hu:∃ d,P.underlying t=some d/\(∀ fs,d≠.struct fs)/\∀ n e,d≠.array n e) (hc:cs[off]?=some v):(part t cs.toArray off).run P w=.ok v w:=by
 obtain ⟨d,hd,h1,h2⟩:=hu;have hagg:(isAgg t).run P w=.ok false w:=by
  unfold isAgg;rw [Sem.run_bind,run_underlying hd w];cases d<;>first | rfl | exact absurd rfl (h1 _) | exact absurd rfl (h2 _ _)
 unfold part;simp [Sem.run_bind,hagg,hc]
theorem cC {t:TypeId} {cs:List Value} {off:Nat} {d:TypeDesc} (hu:P.underlying t=some d) (hd:d.isRow=true:=by rfl):(part t cs.toArray off).run P w=.ok (.agg ((cs.drop off).take (P.cellsOf t)).toArray) w:=by
 have hagg:(isAgg t).run P w=.ok true w:=by
  unfold isAgg;rw [Sem.run_bind,run_underlying hu w];cases d<;>simp_all
 unfold part;cases hi:P.info? t with
 | none=>simp [Program.underlying,hi] at hu
 | some i=>
   simp [Sem.run_bind,hagg,sizeOf,typeInfo,hi,Program.cellsOf,List.extract_eq_take_drop]
theorem rcs_cons {c:CV} {r:List CV} {vs:List Value}:RCs w F (c::r) vs↔∃ v us,vs=v::us/\RC w F c v/\RCs w F r us:=by
 constructor
 . intro h;unfold RCs at h;exact h
 . intro h;unfold RCs;exact h
theorem rcs_nil {vs:List Value}:RCs w F [] vs↔vs=[]:=by
 constructor
 . intro h;unfold RCs at h;exact h
 . intro h;unfold RCs;exact h
theorem R9 {cs:List CV}:∀ {vs:List Value},RCs w F cs vs->vs.length=cs.length:=by
 induction cs with
 | nil=>intro vs h;rw [rcs_nil] at h;simp [h]
 | cons c cs ih=>intro vs h;rw [rcs_cons] at h;obtain ⟨v,us,rfl,_,h⟩:=h;simp [ih h]
theorem yY {cs:List CV}:∀ {vs:List Value} (n:Nat),RCs w F cs vs->RCs w F (cs.take n) (vs.take n):=by
 induction cs with
 | nil=>intro vs n h;rw [rcs_nil] at h;subst h;simp [rcs_nil]
 | cons c cs ih=>
   intro vs n h;rw [rcs_cons] at h;obtain ⟨v,us,rfl,h1,h2⟩:=h;cases n with
   | zero=>simp [rcs_nil]
   | succ n=>simp only [List.take_succ_cons];rw [rcs_cons];exact ⟨v,us.take n,rfl,h1,ih n h2⟩
theorem yR {cs:List CV}:∀ {vs:List Value} (n:Nat),RCs w F cs vs->RCs w F (cs.drop n) (vs.drop n):=by
 induction cs with
 | nil=>intro vs n h;rw [rcs_nil] at h;subst h;simp [rcs_nil]
 | cons c cs ih=>
   intro vs n h;have h0:=h;rw [rcs_cons] at h;obtain ⟨v,us,rfl,h1,h2⟩:=h;cases n with
   | zero=>simpa using h0
   | succ n=>simp only [List.drop_succ_cons];exact ih n h2
theorem cK {cs:List CV}:∀ {vs:List Value} {i:Nat} {c:CV},RCs w F cs vs->cs[i]?=some c->∃ v,vs[i]?=some v/\RC w F c v:=by
 induction cs with
 | nil=>intro vs i c h hc;simp at hc
 | cons c0 cs ih=>
   intro vs i c h hc;rw [rcs_cons] at h;obtain ⟨v,us,rfl,h1,h2⟩:=h;cases i with
   | zero=>simp at hc;subst hc;exact ⟨v,by simp,h1⟩
   | succ i=>simp only [List.getElem?_cons_succ] at hc ⊢;exact ih h2 hc
theorem q28 {ks:List Nat}:∀ {a b:List CV} {r:Bool},eqL ks a b=some r->a.length=ks.length/\b.length=ks.length:=by
 induction ks with
 | nil=>
   intro a b r h;cases a<;>cases b<;>simp [eqL] at h ⊢
 | cons k ks ih=>
   intro a b r h;unfold eqL at h;split at h
   . rename_i hk;simp at hk
   . rename_i ks0 p a' q b' hk;injection hk with h1 h2;subst h2;cases hh:eqL ks a' b' with
     | none=>rw [hh] at h;cases h
     | some x=>obtain ⟨h3,h4⟩:=ih hh;simp [h3,h4]
   . rename_i ks0 k1 p a' k2 q b' hk;injection hk with h1 h2;subst h2;split at h
     . cases hh:eqL ks a' b' with
       | none=>rw [hh] at h;cases h
       | some x=>obtain ⟨h3,h4⟩:=ih hh;simp [h3,h4]
     . cases h
   . rename_i ks0 p a' q b' hk;injection hk with h1 h2;subst h2;cases hh:eqL ks a' b' with
     | none=>rw [hh] at h;cases h
     | some x=>obtain ⟨h3,h4⟩:=ih hh;simp [h3,h4]
   . cases h
theorem zf3 {k1 k2:List Nat}:∀ {a b:List CV} {r:Bool},eqL (k1++k2) a b=some r->∃ r1 r2,eqL k1 (a.take k1.length) (b.take k1.length)=some r1/\eqL k2 (a.drop k1.length) (b.drop k1.length)=some r2/\r=(r1&&r2):=by
 induction k1 with
 | nil=>intro a b r h;exact ⟨true,r,by simp [eqL],by simpa using h,by simp⟩
 | cons k k1 ih=>
   intro a b r h;simp only [List.cons_append] at h;unfold eqL at h;split at h
   . rename_i hk;simp at hk
   . rename_i ks0 p a' q b' hk;injection hk with h1 h2;subst h2;subst h1;cases hh:eqL (k1++k2) a' b' with
     | none=>rw [hh] at h;cases h
     | some x=>
       rw [hh] at h;injection h with h;obtain ⟨r1,r2,e1,e2,e3⟩:=ih hh;refine ⟨p==q&&r1,r2,?_,by simpa using e2,?_⟩
       . simp only [List.length_cons,List.take_succ_cons,eqL,e1]
       . rw [<-h,e3,Bool.and_assoc]
   . rename_i ks0 kk p a' kk' q b' hk;injection hk with h1 h2;subst h2;subst h1;split at h
     . rename_i hkk;cases hh:eqL (k1++k2) a' b' with
       | none=>rw [hh] at h;cases h
       | some x=>
         rw [hh] at h;injection h with h;obtain ⟨r1,r2,e1,e2,e3⟩:=ih hh;refine ⟨p==q&&r1,r2,?_,by simpa using e2,?_⟩
         . simp only [List.length_cons,List.take_succ_cons,eqL,e1,if_pos hkk]
         . rw [<-h,e3,Bool.and_assoc]
     . cases h
   . rename_i ks0 p a' q b' hk;injection hk with h1 h2;subst h2;subst h1;cases hh:eqL (k1++k2) a' b' with
     | none=>rw [hh] at h;cases h
     | some x=>
       rw [hh] at h;injection h with h;obtain ⟨r1,r2,e1,e2,e3⟩:=ih hh;refine ⟨p==q&&r1,r2,?_,by simpa using e2,?_⟩
       . simp only [List.length_cons,List.take_succ_cons,eqL,e1]
       . rw [<-h,e3,Bool.and_assoc]
   . cases h
def valOf (P:Program) (t:TypeId) (vs:List Value):Value:=
 match P.underlying t with
 | some (.struct _)=>.agg vs.toArray
 | _=>vs.headD undef
theorem mS {t:TypeId} {vs xs:List Value} {off:Nat} (h:(∃ fs,P.underlying t=some (.struct fs))\/(∃ dd,P.underlying t=some dd/\(∀ fs,dd≠.struct fs)/\(∀ n e,dd≠.array n e)/\vs.length=1)) (hx:(xs.drop off).take (P.cellsOf t)=vs) (hl:vs.length=P.cellsOf t) :
 (part t xs.toArray off).run P w=.ok (valOf P t vs) w:=by
 rcases h with ⟨fs,hf⟩ | ⟨dd,hd,h1,h2,h3⟩
 . rw [cC hf,hx];unfold valOf;rw [hf]
 . have hv:valOf P t vs=vs.headD undef:=by
    unfold valOf;rw [hd];cases dd<;>first | rfl | exact absurd rfl (h1 _)
   rw [hv];refine dN ⟨dd,hd,h1,h2⟩ ?_;rw [h3] at hl;rw [<-hl] at hx;subst hx;cases hq:xs.drop off with
   | nil=>rw [hq] at h3;simp at h3
   | cons y ys=>
     have:xs[off]?=some y:=by
      have:=congrArg (fun l=>l[0]?) hq;simpa using this
     simp [this]
theorem iJ {d:Nat} {t:TypeId} {ks:List Nat} (h:O5 P d t=some ks):(∃ fs,P.underlying t=some (.struct fs))\/(∃ dd,P.underlying t=some dd/\(∀ fs,dd≠.struct fs)/\(∀ n e,dd≠.array n e)/\ks.length=1):=by
 cases d with
 | zero=>cases h
 | succ d=>
   unfold O5 at h;split at h
   . rename_i hu;injection h with h;subst h;exact .inr ⟨_,hu,by simp,by simp,rfl⟩
   . rename_i k hu;injection h with h;subst h;exact .inr ⟨_,hu,by simp,by simp,rfl⟩
   . rename_i hu;injection h with h;subst h;exact .inr ⟨_,hu,by simp,by simp,rfl⟩
   . rename_i fs hu;exact .inl ⟨fs,hu⟩
   . cases h
theorem zi7 {d dd:Nat} (ih:∀ t ks,O5 P d t=some ks->∀ (a b:List CV) (r:Bool) (vs us:List Value),eqL ks a b=some r->RCs w F a vs->RCs w F b us->(Op.equalIn dd t (valOf P t vs) (valOf P t us)).run P w=.ok r w) :
 ∀ (fs:List Field) (off:Nat) (ks:List Nat),zW (O5 P d) P off fs=some ks->∀ (a b:List CV) (r:Bool) (xs ys:List Value),eqL ks a b=some r->RCs w F a (xs.drop off)->RCs w F b (ys.drop off) ->
  (Op.eqFields dd xs.toArray ys.toArray fs).run P w=.ok r w:=by
 intro fs;induction fs with
 | nil=>
   intro off ks hk a b r xs ys he ha hb;simp [zW] at hk;subst hk;cases a<;>cases b<;>simp [eqL] at he
   subst he;simp [Op.eqFields]
 | cons f fs ihf=>
   intro off ks hk a b r xs ys he ha hb;unfold zW at hk;split at hk
   . rename_i hf;obtain ⟨hoff,hname⟩:=hf;cases h1:O5 P d f.type with
     | none=>rw [h1] at hk;cases hk
     | some k1=>
       cases h2:zW (O5 P d) P (off+P.cellsOf f.type) fs with
       | none=>rw [h1,h2] at hk;cases hk
       | some k2=>
         rw [h1,h2] at hk;dsimp only at hk;split at hk
         . rename_i hlen;injection hk with hk;subst hk;obtain ⟨r1,r2,e1,e2,e3⟩:=zf3 he;obtain ⟨l1,l2⟩:=q28 e1;have ha1:=yY (w:=w) (F:=F) k1.length ha;have hb1:=yY (w:=w) (F:=F) k1.length hb;have ha2:=yR (w:=w) (F:=F) k1.length ha;have hb2:=yR (w:=w) (F:=F) k1.length hb;rw [List.drop_drop] at ha2 hb2;have la:((xs.drop off).take k1.length).length=k1.length:=by rw [R9 ha1,l1]
           have lb':((ys.drop off).take k1.length).length=k1.length:=by rw [R9 hb1,l2]
           have hfm:=iJ h1;have pa:(part f.type xs.toArray f.offset).run P w=.ok (valOf P f.type ((xs.drop off).take k1.length)) w:=by
            refine mS ?_ (by rw [hoff,hlen]) (by rw [la,hlen]);rcases hfm with h | ⟨q,q1,q2,q3,q4⟩
            . exact .inl h
            . exact .inr ⟨q,q1,q2,q3,by rw [la,q4]⟩
           have pb:(part f.type ys.toArray f.offset).run P w=.ok (valOf P f.type ((ys.drop off).take k1.length)) w:=by
            refine mS ?_ (by rw [hoff,hlen]) (by rw [lb',hlen]);rcases hfm with h | ⟨q,q1,q2,q3,q4⟩
            . exact .inl h
            . exact .inr ⟨q,q1,q2,q3,by rw [lb',q4]⟩
           have heq:=ih f.type k1 h1 _ _ r1 _ _ e1 ha1 hb1;have hrest:=ihf (off+P.cellsOf f.type) k2 h2 _ _ r2 xs ys e2 (by rw [<-hlen];exact ha2) (by rw [<-hlen];exact hb2);simp only [Op.eqFields,if_pos hname,Sem.run_bind,pa,pb,heq,Result.andThen_ok];subst e3;cases r1
           . simp
           . simpa using hrest
         . cases hk
   . cases hk
theorem q18:∀ (d:Nat) (dd:Nat),d<=dd->∀ t ks,O5 P d t=some ks->∀ (a b:List CV) (r:Bool) (vs us:List Value),eqL ks a b=some r->RCs w F a vs->RCs w F b us->(Op.equalIn dd t (valOf P t vs) (valOf P t us)).run P w=.ok r w:=by
 intro d;induction d with
 | zero=>intro dd _ t ks h;cases h
 | succ d ih=>
   intro dd hdd t ks h a b r vs us he ha hb;obtain ⟨dd,rfl⟩:∃ q,dd=q+1:=⟨dd - 1,by omega⟩;unfold O5 at h;split at h
   . rename_i hu;injection h with h;subst h;unfold valOf;rw [hu];dsimp only;unfold eqL at he;split at he<;>rename_i hk<;>first
      | (cases hk;done)
      | (injection hk with h1 h2;cases h1;done)
      | (cases he;done)
      | skip
     rename_i p a' q b';injection hk with h1 h2;subst h2;rw [rcs_cons] at ha hb;obtain ⟨v,vs',rfl,hv,_⟩:=ha;obtain ⟨u,us',rfl,hu',_⟩:=hb;rw [rc_bool] at hv hu';subst hv;subst hu';cases a'<;>cases b'<;>simp [eqL] at he
     subst he;simpa using run_equalIn_bool' (P:=P) w dd t p q hu
   . rename_i k hu;injection h with h;subst h;unfold valOf;rw [hu];dsimp only;unfold eqL at he;split at he<;>rename_i hk<;>first
      | (cases hk;done)
      | (injection hk with h1 h2;cases h1;done)
      | (cases he;done)
      | skip
     rename_i kk p a' kk' q b';injection hk with h1 h2;subst h2;split at he
     . rename_i hkk;rw [rcs_cons] at ha hb;obtain ⟨v,vs',rfl,hv,_⟩:=ha;obtain ⟨u,us',rfl,hu',_⟩:=hb;rw [m7] at hv hu';subst hv;subst hu';subst hkk;cases a'<;>cases b'<;>simp [eqL] at he
       subst he;simpa using run_equalIn_int (P:=P) w dd t kk k p q hu
     . cases he
   . rename_i hu;injection h with h;subst h;unfold valOf;rw [hu];dsimp only;unfold eqL at he;split at he<;>rename_i hk<;>first
      | (cases hk;done)
      | (injection hk with h1 h2;cases h1;done)
      | (cases he;done)
      | skip
     rename_i p a' q b';injection hk with h1 h2;subst h2;rw [rcs_cons] at ha hb;obtain ⟨v,vs',rfl,hv,_⟩:=ha;obtain ⟨u,us',rfl,hu',_⟩:=hb;rw [a6] at hv hu';subst hv;subst hu';cases a'<;>cases b'<;>simp [eqL] at he
     subst he;have:=run_equalIn_string (P:=P) w dd t ⟨p.toArray⟩ ⟨q.toArray⟩ hu;rw [bytes_beq] at this;simpa using this
   . rename_i fs hu;split at h
     . cases h
     . rename_i hp;have hf:P.fieldsOf t=fs:=by simp [Program.fieldsOf,hu]
       have hv:∀ l:List Value,valOf P t l=.agg l.toArray:=fun l=>by unfold valOf;rw [hu]
       rw [hv,hv,run_equalIn_struct (P:=P) w dd t _ _ (by rw [hf];exact hu) (by simpa using hp),hf];exact zi7 (d:=d) (ih dd (by omega)) fs.toList 0 ks h a b r vs us he (by simpa using ha) (by simpa using hb)
   . cases h
theorem dC {op:BinOp} {xt yt:TypeId} {x y:Operand} {ix iy:Opd} {ks:List Nat} {fs:Array Field} (ho:o.op=.binOp op xt x y yt) (hop:op=.eql\/op=.neq) (ht:P.underlying xt=some (.struct fs)) (hg:P.eqGuardType P.depth xt=false) (hk:O5 P 100 xt=some ks)
 (hx:j5 x=some ix) (hy:j5 y=some iy) (hs:RS fb N w F H m lb fr a) (hN:∀ d,o.dst=some d->d<N)
 {fr':Fr} {H':q7} (hd:q9 (.eqs (op matches .neq) ks ix iy) o.dst fr H=some (fr',H')) (h:Next fb N w F H m fr' H' K):o.wp P a w K Q:=by
 obtain ⟨h1,h2⟩:=j9 hs.fr hx;obtain ⟨h3,h4⟩:=j9 hs.fr hy;unfold q9 at hd;dsimp only at hd;split at hd
 . rename_i p q e1 e2;cases he:eqL ks p q with
   | none=>rw [he] at hd;cases hd
   | some r=>
     rw [he] at hd;injection hd with hd;injection hd with q1 q2;subst q1;subst q2;rw [e1,rh_c] at h1;rw [e2,rh_c] at h3;unfold RC at h1 h3;obtain ⟨vs,h1,hvs,_⟩:=h1;obtain ⟨us,h3,hus,_⟩:=h3;have hq:=q18 (P:=P) (w:=w) (F:=F) 100 10000 (by omega) xt ks hk p q r vs us he hvs hus;have hv:∀ l:List Value,valOf P xt l=.agg l.toArray:=fun l=>by unfold valOf;rw [ht]
     rw [hv,hv] at hq;rcases hop with rfl | rfl
     . refine x7 hs hN (u:=.bool r) (by rw [rh_c,rc_bool];rfl) (G0 _) h ?_;simp [execOp,ho,h1,h3,eqGuard,hg,binOp,Op.equal,Op.maxDepth,hq]
     . refine x7 hs hN (u:=.bool (!r)) (by rw [rh_c,rc_bool];rfl) (G0 _) h ?_;simp [execOp,ho,h1,h3,eqGuard,hg,binOp,Op.equal,Op.maxDepth,hq]
 . cases hd
end
end Go.Proofs.Lz
