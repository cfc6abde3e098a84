/- More operations that leave memory alone: addresses, parts, indexes, slices, lengths, tuples, conversions, functions. -/
import Derived.Test.YtlimfobeoodkjaaGreatDoorLzOps2
import Derived.Laws.Slices
import Derived.Laws.Strings
import Derived.Laws.Small
set_option linter.unusedVariables false
set_option linter.unusedSimpArgs false
set_option linter.unusedSectionVars false
namespace Go.Proofs.Lz
variable [GlobTab]
section
variable {P:Program} {fb N:Nat} {w:World} {F:Nat->Prop} {H:q7} {m:j7} {lb:Nat->Nat} {fr:Fr} {a:Act} {o:Oper}
variable {K:Act->World->Prop} {Q:Exit->Act->World->Prop}
theorem eI {c x y:Operand} {ic ix iy:Opd} (ho:o.op=.pick c x y) (hc:j5 c=some ic) (hx:j5 x=some ix) (hy:j5 y=some iy) (hs:RS fb N w F H m lb fr a) (hN:∀ d,o.dst=some d->d<N)
 {fr':Fr} {H':q7} (hd:q9 (.pick ic ix iy) o.dst fr H=some (fr',H')) (h:Next fb N w F H m fr' H' K):o.wp P a w K Q:=by
 obtain ⟨h1,_⟩:=j9 hs.fr hc;obtain ⟨h3,h4⟩:=j9 hs.fr hx;obtain ⟨h5,h6⟩:=j9 hs.fr hy;unfold q9 at hd;dsimp only at hd;split at hd
 . rename_i t e;rw [e,rh_c,rc_bool] at h1;injection hd with hd;injection hd with q1 q2;subst q1;subst q2;cases t with
   | true=>refine x7 hs hN (u:=a.eval x) h3 h4 h ?_;simp [execOp,ho,h1,asBool]
   | false=>refine x7 hs hN (u:=a.eval y) h5 h6 h ?_;simp [execOp,ho,h1,asBool]
 . cases hd
theorem T9 {t:TypeId} {ek:Option Nat} (h:x5 P t=some ek):(P.info? t).map (·.size)=some (j0 ek)/\0<j0 ek:=by
 cases ek with
 | none=>exact ⟨(uQ h).2,by decide⟩
 | some n=>obtain ⟨_,h1,h2⟩:=pG h;exact ⟨h1,h2⟩
theorem run_sizeOf {t:TypeId} {ek:Option Nat} (h:x5 P t=some ek):(sizeOf t).run P w=.ok (j0 ek) w:=by
 obtain ⟨h1,_⟩:=T9 h;cases hi:P.info? t with
 | none=>simp [hi] at h1
 | some i=>simp [hi] at h1;simp [sizeOf,typeInfo,hi,h1]
theorem xK {s:TypeId} {fs:Array Field} {f:Nat} {fd:Field} {ek:Option Nat} (hu:P.underlying s=some (.struct fs)) (hf:fs[f]?=some fd) (he:x5 P fd.type=some ek) (ad:Addr) :
 (Instr.fieldAt s (.pointer (some ad)) f).run P w=.ok (.pointer (some (ad.add fd.offset))) w:=by
 have h1:=run_sizeOf (w:=w) he;have h2:=(T9 he).2;unfold Instr.fieldAt;simp only [Sem.run_bind,run_underlying hu,Result.andThen_ok,hf,Instr.sureAddr,Sem.run_pure,fieldPlace,h1];rw [if_neg (by omega)];simp
theorem zu1 {s:TypeId} {x:Operand} {f:Nat} {fs:Array Field} {fd:Field} {ek:Option Nat} {ix:Opd} (ho:o.op=.fieldAddr s x f) (hu:P.underlying s=some (.struct fs)) (hf:fs[f]?=some fd) (he:x5 P fd.type=some ek)
 (hx:j5 x=some ix) (hs:RS fb N w F H m lb fr a) (hN:∀ d,o.dst=some d->d<N)
 {fr':Fr} {H':q7} (hd:q9 (.faddr fd.offset ix) o.dst fr H=some (fr',H')) (h:Next fb N w F H m fr' H' K):o.wp P a w K Q:=by
 unfold q9 at hd;dsimp only at hd;cases hp:fr.place ix with
 | some p=>
   obtain ⟨b,off⟩:=p;rw [hp] at hd;obtain ⟨_,hpl⟩:=jT hs.fr hx hp;refine kU hs hN hd (u:=.pointer (some ⟨lb b,off+fd.offset,none⟩)) (fun _ _ _=>rfl) h ?_;simp [execOp,ho,hpl,xK hu hf he,Addr.add_mid]
 | none=>
   rw [hp] at hd;dsimp only at hd;obtain ⟨h1,_⟩:=j9 hs.fr hx;split at hd
   . rename_i id off e;injection hd with hd;injection hd with q1 q2;subst q1;subst q2;rw [e] at h1;unfold RH at h1;obtain ⟨h1,h2⟩:=h1;refine x7 hs hN (u:=.pointer (some ⟨(m id).blk,off+fd.offset,none⟩)) (by unfold RH;exact ⟨rfl,h2⟩) (by simp) h ?_;simp [execOp,ho,h1,xK hu hf he,Addr.add_mid]
   . rename_i id ver i off e;injection hd with hd;injection hd with q1 q2;subst q1;subst q2;rw [e] at h1;unfold RH at h1;obtain ⟨ad,h1,h2,h3⟩:=h1;refine x7 hs hN (u:=.pointer (some (ad.add fd.offset))) (by
      unfold RH;refine ⟨_,rfl,h2,fun fz e ek xs hH=>?_⟩;rw [h3 fz e ek xs hH,Addr.add_mid,Nat.add_assoc]) (by simp) h ?_
     simp [execOp,ho,h1,xK hu hf he]
   . rename_i ek' y off e;injection hd with hd;injection hd with q1 q2;subst q1;subst q2;rw [e,rh_c] at h1;unfold RC at h1;obtain ⟨b,q,u,h1,h2,h3,h4,h5⟩:=h1;refine x7 hs hN (u:=.pointer (some ⟨b,q+off+fd.offset,none⟩)) (by rw [rh_c];unfold RC;exact ⟨b,q,u,by rw [Nat.add_assoc],h2,h3,h4,h5⟩) (by simp) h ?_;simp [execOp,ho,h1,xK hu hf he,Addr.add_mid]
   . cases hd
theorem zh7 {x:Operand} {ix:Opd} (ho:o.op=.nilCheck x) (hx:j5 x=some ix) (hs:RS fb N w F H m lb fr a) (hN:∀ d,o.dst=some d->d<N)
 {fr':Fr} {H':q7} (hd:q9 (.nck ix) o.dst fr H=some (fr',H')) (h:Next fb N w F H m fr' H' K):o.wp P a w K Q:=by
 unfold q9 at hd;dsimp only at hd;cases hp:fr.place ix with
 | some p=>
   obtain ⟨b,off⟩:=p;rw [hp] at hd;obtain ⟨_,hpl⟩:=jT hs.fr hx hp;refine kU hs hN hd (u:=.pointer (some ⟨lb b,off,none⟩)) (fun _ _ _=>rfl) h ?_;simp [execOp,ho,hpl]
 | none=>
   rw [hp] at hd;dsimp only at hd;obtain ⟨h1,_⟩:=j9 hs.fr hx;split at hd
   . rename_i id off e;injection hd with hd;injection hd with q1 q2;subst q1;subst q2;rw [e] at h1;have h0:=h1;unfold RH at h1;obtain ⟨h1,h2⟩:=h1;refine x7 hs hN h0 (by simp) h ?_;simp [execOp,ho,h1]
   . rename_i id ver i off e;injection hd with hd;injection hd with q1 q2;subst q1;subst q2;rw [e] at h1;have h0:=h1;unfold RH at h1;obtain ⟨ad,h1,h2,h3⟩:=h1;refine x7 hs hN h0 (by simp) h ?_;simp [execOp,ho,h1]
   . rename_i ek' y off e;injection hd with hd;injection hd with q1 q2;subst q1;subst q2;rw [e] at h1;have h0:=h1;rw [rh_c] at h1;unfold RC at h1;obtain ⟨b,q,u,h1,h2,h3,h4,h5⟩:=h1;refine x7 hs hN h0 (by simp) h ?_;simp [execOp,ho,h1]
   . cases hd
theorem aC {t:TypeId} {ek:Option Nat} (he:x5 P t=some ek) {cs:List Value} {off:Nat} {u:Value} (hs:Shape ek u) (hsub:SubAt u.cells.toList cs off):(part t cs.toArray off).run P w=.ok u w:=by
 cases ek with
 | none=>
   obtain ⟨hu,_⟩:=uQ he;have hc:u.cells.toList=[u]:=by cases u<;>first | rfl | cases hs
   rw [hc] at hsub;exact dN hu (by simpa using hsub 0 u rfl)
 | some n=>
   obtain ⟨⟨fs,hu,hrow⟩,hi,_⟩:=pG he;obtain ⟨vs,rfl,hl,_⟩:=hs;simp only [Value.cells] at hsub;have hn:P.cellsOf t=n:=by simp [Program.cellsOf,hi]
   rw [cC hu hrow,hn];congr 2;congr 1;apply List.ext_getElem?;intro j;rw [List.getElem?_take];by_cases hj:j<n
   . rw [if_pos hj,List.getElem?_drop];have hj':j<vs.length:=by omega
     have:=hsub j vs[j] (gEg hj');rw [this,gEg hj']
   . rw [if_neg hj,List.getElem?_eq_none (by omega)]
theorem nH {x:HV} {v:Value} {cs:List HV} (ha:J7 x=some cs) (h:RH w F H m x v):∃ vs:List Value,v=.agg vs.toArray/\RHs w F H m cs vs/\∀ u∈vs,u.oneCell'=true:=by
 cases x with
 | agg l=>simp [J7] at ha;subst ha;unfold RH at h;exact h
 | c y=>
   cases y with
   | agg l=>
     simp [J7] at ha;subst ha;rw [rh_c] at h;unfold RC at h;obtain ⟨vs,h1,h2,h3⟩:=h;exact ⟨vs,h1,zN h2,h3⟩
   | _=>simp [J7] at ha
 | _=>simp [J7] at ha
theorem zj6 {s:TypeId} {x:Operand} {f:Nat} {fs:Array Field} {fd:Field} {ek:Option Nat} {ix:Opd} (ho:o.op=.field s x f) (hu:P.underlying s=some (.struct fs)) (hf:fs[f]?=some fd) (he:x5 P fd.type=some ek)
 (hx:j5 x=some ix) (hs:RS fb N w F H m lb fr a) (hN:∀ d,o.dst=some d->d<N)
 {fr':Fr} {H':q7} (hd:q9 (.fld ek fd.offset ix) o.dst fr H=some (fr',H')) (h:Next fb N w F H m fr' H' K):o.wp P a w K Q:=by
 unfold q9 at hd;dsimp only at hd;obtain ⟨h1,_⟩:=j9 hs.fr hx;cases ha:J7 (fr.opd ix) with
 | none=>rw [ha] at hd;cases hd
 | some cs=>
   rw [ha] at hd;dsimp only at hd;cases hp:D1 ek cs fd.offset with
   | none=>rw [hp] at hd;cases hd
   | some y=>
     rw [hp] at hd;injection hd with hd;injection hd with q1 q2;subst q1;subst q2;obtain ⟨vs,e,h2,h3⟩:=nH ha h1;obtain ⟨u,h4,h5,h6,h7⟩:=yJ h2 h3 hp;refine x7 hs hN h4 h7 h ?_;simp [execOp,ho,e,Instr.field,Sem.run_bind,run_underlying hu,hf,asAgg,aC he h5 h6]
theorem wX {x:HV} {v:Value} {n:Int} (hg:K8 x=some n) (h:RH w F H m x v):∃ k,v=.int k n:=by
 unfold K8 at hg;split at hg
 . injection hg with hg;subst hg;rw [rh_c,m7] at h;exact ⟨_,h⟩
 . cases hg
theorem dD {t e:TypeId} {ek:Option Nat} (hu:P.underlying t=some (.slice e)) (he:x5 P e=some ek) (ad:Addr) (len cap:Nat) (k:IntKind) (i:Int) (h0:0<=i) (h1:i<len) :
 (Instr.indexAt t (.slice (some ad) len cap) (.int k i)).run P w=.ok (.pointer (some (ad.add (i.toNat * j0 ek)))) w:=by
 have hs:=run_sizeOf (w:=w) he;unfold Instr.indexAt;simp [Sem.run_bind,asIntOf,run_underlying hu,h0,h1,hs]
theorem z35 {t e:TypeId} {x i:Operand} {ek:Option Nat} {ix ii:Opd} (ho:o.op=.indexAddr t x i) (hu:P.underlying t=some (.slice e)) (he:x5 P e=some ek) (hx:j5 x=some ix) (hi:j5 i=some ii)
 (hs:RS fb N w F H m lb fr a) (hN:∀ d,o.dst=some d->d<N)
 {fr':Fr} {H':q7} (hd:q9 (.ix ek ix ii) o.dst fr H=some (fr',H')) (h:Next fb N w F H m fr' H' K):o.wp P a w K Q:=by
 unfold q9 at hd;dsimp only at hd;obtain ⟨h1,_⟩:=j9 hs.fr hx;obtain ⟨h2,_⟩:=j9 hs.fr hi;cases hg:K8 (fr.opd ii) with
 | none=>rw [hg] at hd;cases hd
 | some n=>
   rw [hg] at hd;dsimp only at hd;obtain ⟨k,h2⟩:=wX hg h2;generalize fr.opd ix=vx at hd h1;cases vx with
   | c v=>
     cases v with
     | frz ek' xs=>
       simp only [ixH] at hd;by_cases hc:ek'=ek/\0<=n
       . rw [if_pos hc] at hd;obtain ⟨rfl,h0⟩:=hc;cases hv:xs[n.toNat]? with
         | none=>rw [hv] at hd;cases hd
         | some v=>
           rw [hv] at hd;injection hd with hd;injection hd with q1 q2;subst q1;subst q2;rw [rh_c] at h1;unfold RC at h1;obtain ⟨ad,cap,h1,_,hne⟩:=h1;have hlt:=(gEs hv).1;obtain ⟨b,off,vs,rfl,hF,hr,hrow⟩:=hne (by intro e;subst e;simp at hlt);obtain ⟨u,h3,h4,h5⟩:=gC hrow hv;refine x7 hs hN (u:=.pointer (some ⟨b,off+n.toNat * j0 ek',none⟩)) (by
            rw [rh_c];unfold RC;exact ⟨b,off+n.toNat * j0 ek',u,by simp,hF,h4,h5.range hr,h3⟩) (by simp) h ?_
           simp [execOp,ho,h1,h2,dD hu he ⟨b,off,none⟩ xs.length cap k n h0 (by omega),Addr.add_mid]
       . rw [if_neg hc] at hd;cases hd
     | _=>simp [ixH] at hd
   | sl id ver off len=>
     simp only [ixH] at hd;split at hd
     . rename_i fr'' hix;split at hix
       . rename_i fz e' ek' ver' xs hH;split at hix
         . rename_i hc;obtain ⟨rfl,rfl,h0,hlt⟩:=hc;injection hix with hix;subst hix;injection hd with hd;injection hd with q1 q2;subst q1;subst q2;unfold RH at h1;obtain ⟨ad,cap,h1,h3,h4⟩:=h1;obtain ⟨h5,h6,h7,h8⟩:=h4 _ _ _ _ hH;have had:=h8 (.inl (by omega));refine x7 hs hN (u:=.pointer (some (ad.add (n.toNat * j0 ek')))) (by
            unfold RH;refine ⟨_,rfl,h3,fun fz2 e2 ek2 xs2 hH2=>?_⟩;rw [hH] at hH2;injection hH2 with hH2;injection hH2 with z1 z2 z3 z4 z5;subst z3;rw [had,Addr.add_mid,Nat.add_zero,Nat.add_mul]) (by simp) h ?_
           simp [execOp,ho,h1,h2,dD hu he ad len cap k n h0 hlt]
         . cases hix
       . cases hix
     . cases hd
   | _=>simp [ixH] at hd
theorem zn7 {t:TypeId} {x i:Operand} {ix ii:Opd} (ho:o.op=.index t x i) (hu:P.underlying t=some .string) (hx:j5 x=some ix) (hi:j5 i=some ii)
 (hs:RS fb N w F H m lb fr a) (hN:∀ d,o.dst=some d->d<N)
 {fr':Fr} {H':q7} (hd:q9 (.six ix ii) o.dst fr H=some (fr',H')) (h:Next fb N w F H m fr' H' K):o.wp P a w K Q:=by
 unfold q9 at hd;dsimp only at hd;obtain ⟨h1,_⟩:=j9 hs.fr hx;obtain ⟨h2,_⟩:=j9 hs.fr hi;split at hd
 . rename_i s n e1 e2;obtain ⟨k,h2⟩:=wX e2 h2;rw [e1,rh_c,a6] at h1;split at hd
   . rename_i h0;cases hv:s[n.toNat]? with
     | none=>rw [hv] at hd;cases hd
     | some c=>
       rw [hv] at hd;injection hd with hd;injection hd with q1 q2;subst q1;subst q2;have hlt:=(gEs hv).1;have hget:(⟨s.toArray⟩:ByteArray)[n.toNat]?=some c:=by
        have hsz:n.toNat<(⟨s.toArray⟩:ByteArray).size:=by simpa [ByteArray.size] using hlt
        rw [getElem?_pos (⟨s.toArray⟩:ByteArray) n.toNat hsz];have:=(gEs hv).2;simp [ByteArray.getElem_eq_getElem_data,this]
       refine x7 hs hN (u:=.int .u8 c.toNat) (by rw [rh_c,m7]) (by simp) h ?_;simp [execOp,ho,h1,h2,Instr.index,Sem.run_bind,asIntOf,run_underlying hu,h0,hget]
   . cases hd
 . cases hd
theorem rX {t ty:TypeId} {st:Bool} {x:Operand} {ix:Opd} (ho:o.op=.call { callee:=.builtin .len,args:=#[x],argTypes:=#[t] }) (hu:(st=true/\P.underlying t=some .string)\/(st=false/\∃ e,P.underlying t=some (.slice e))) (hx:j5 x=some ix)
 (hs:RS fb N w F H m lb fr a) (hN:∀ d,o.dst=some d->d<N)
 {fr':Fr} {H':q7} (hd:q9 (.len st ix) o.dst fr H=some (fr',H')) (h:Next fb N w F H m fr' H' K):o.wp P a w K Q:=by
 unfold q9 at hd;dsimp only at hd;obtain ⟨h1,_⟩:=j9 hs.fr hx;cases hl:jC st (fr.opd ix) with
 | none=>rw [hl] at hd;cases hd
 | some n=>
   rw [hl] at hd;injection hd with hd;injection hd with q1 q2;subst q1;subst q2;refine x7 hs hN (u:=.int .i64 n) (by rw [rh_c,m7]) (by simp) h ?_;have key:(Builtin.len_ #[t] o.type #[a.eval x]).run P w=.ok (.int .i64 n) w:=by
    generalize fr.opd ix=vx at hl h1;unfold jC at hl;split at hl
    . rename_i s;rw [rh_c,a6] at h1;split at hl
      . injection hl with hl;subst hl;rcases hu with ⟨_,hu⟩ | ⟨hst,_⟩
        . have hz:(⟨s.toArray⟩:ByteArray).size=s.length:=by simp [ByteArray.size]
          rw [h1,<-hz];exact run_len_string (P:=P) w t o.type ⟨s.toArray⟩ hu
        . subst hst;simp_all
      . cases hl
    . rename_i ek xs;rw [rh_c] at h1;unfold RC at h1;obtain ⟨ad,cap,h1,_⟩:=h1;split at hl
      . cases hl
      . injection hl with hl;subst hl;rcases hu with ⟨hst,_⟩ | ⟨_,e,hu⟩
        . subst hst;simp_all
        . rw [h1];simp [Builtin.len_,Sem.run_bind,run_underlying hu,goInt]
    . unfold RH at h1;split at hl
      . cases hl
      . injection hl with hl;subst hl;rcases hu with ⟨hst,_⟩ | ⟨_,e,hu⟩
        . subst hst;simp_all
        . rw [h1];simp [Builtin.len_,Sem.run_bind,run_underlying hu,goInt]
    . unfold RH at h1;obtain ⟨ad,cap,h1,_⟩:=h1;split at hl
      . cases hl
      . injection hl with hl;subst hl;rcases hu with ⟨hst,_⟩ | ⟨_,e,hu⟩
        . subst hst;simp_all
        . rw [h1];simp [Builtin.len_,Sem.run_bind,run_underlying hu,goInt]
    . cases hl
   simp [execOp,ho,resolve,invoke,builtin,Sem.run_bind,key]
theorem zl2 {x:Operand} {i:Nat} {ix:Opd} (ho:o.op=.extract x i) (hx:j5 x=some ix) (hs:RS fb N w F H m lb fr a) (hN:∀ d,o.dst=some d->d<N)
 {fr':Fr} {H':q7} (hd:q9 (.ext ix i) o.dst fr H=some (fr',H')) (h:Next fb N w F H m fr' H' K):o.wp P a w K Q:=by
 unfold q9 at hd;dsimp only at hd;obtain ⟨h1,_⟩:=j9 hs.fr hx;split at hd
 . rename_i vs e;rw [e] at h1;unfold RH at h1;obtain ⟨us,h1,h2⟩:=h1;cases hv:vs[i]? with
   | none=>rw [hv] at hd;cases hd
   | some v=>
     rw [hv] at hd;injection hd with hd;injection hd with q1 q2;subst q1;subst q2;obtain ⟨u,h3,h4⟩:=jK h2 hv;refine x7 hs hN h4 (by intro ek y hh;subst hh;unfold RH at h4;exact h4) h ?_;simp [execOp,ho,h1,Instr.extract,h3]
 . cases hd
theorem zr1 {s d:TypeId} {k' k:IntKind} {x:Operand} {ix:Opd} (ho:o.op=.convert s d x) (h1':P.underlying s=some (.int k')) (h2':P.underlying d=some (.int k)) (hx:j5 x=some ix) (hs:RS fb N w F H m lb fr a) (hN:∀ d,o.dst=some d->d<N)
 {fr':Fr} {H':q7} (hd:q9 (.cvt k ix) o.dst fr H=some (fr',H')) (h:Next fb N w F H m fr' H' K):o.wp P a w K Q:=by
 unfold q9 at hd;dsimp only at hd;obtain ⟨h1,_⟩:=j9 hs.fr hx;split at hd
 . rename_i kk n e;rw [e,rh_c,m7] at h1;injection hd with hd;injection hd with q1 q2;subst q1;subst q2;refine x7 hs hN (u:=.int k (k.wrap n)) (by rw [rh_c,m7]) (by simp) h ?_;simp [execOp,ho,h1,convert,Sem.run_bind,run_underlying h1',run_underlying h2',Conv.intToInt]
 . cases hd
theorem P7 {op:BinOp} {xt yt:TypeId} {x y:Operand} {ix:Opd} {k:Nat} {d:TypeDesc} (ho:o.op=.binOp op xt x y yt) (hop:op=.eql\/op=.neq) (ht:P.underlying xt=some d) (hk:(k=0/\∃ e,d=.pointer e)\/(k=1/\∃ e,d=.interface e)\/(k=2/\∃ e f g,d=.func e f g)\/(k=3/\∃ e,d=.slice e)\/(k=4/\∃ e f,d=.map e f))
 (hn:isNil k y=true) (hx:j5 x=some ix) (hs:RS fb N w F H m lb fr a) (hN:∀ d,o.dst=some d->d<N)
 {fr':Fr} {H':q7} (hd:q9 (.isn (op matches .neq) k ix) o.dst fr H=some (fr',H')) (h:Next fb N w F H m fr' H' K):o.wp P a w K Q:=by
 obtain ⟨h1,_⟩:=j9 hs.fr hx;unfold q9 at hd;dsimp only at hd;cases hb:yK k (fr.opd ix) with
 | none=>rw [hb] at hd;cases hd
 | some b=>
   rw [hb] at hd;injection hd with hd;injection hd with q1 q2;subst q1;subst q2;obtain ⟨u,hu,hy⟩:∃ u,y=.const u/\((k=0/\u=.pointer none)\/(k=1/\u=.nilIface)\/(k=2/\u=.nilFunc)\/(k=3/\∃ n c,u=.slice none n c)\/(k=4/\u=.map none)):=by
    unfold isNil at hn;split at hn<;>simp only [beq_iff_eq,Bool.false_eq_true] at hn<;>exact ⟨_,rfl,by simp [hn]⟩
   subst hu;have key:(∀ dd,(Op.equalIn (dd+1) xt (a.eval x) u).run P w=.ok b w)/\(eqGuard op xt x (.const u) (a.eval x) u).run P w=.ok () w:=by
    generalize a.eval x=v at h1;generalize fr.opd ix=hv at h1 hb;unfold yK at hb;split at hb
    . rename_i c;rw [rh_c] at h1;unfold kF at hb;split at hb<;>first
       | (cases hb;done)
       | (split at hb<;>first
           | (cases hb;done)
           | (rename_i hkk
              subst hkk;injection hb with hb;subst hb;rcases hk with ⟨e0,hk⟩ | ⟨e0,hk⟩ | ⟨e0,hk⟩ | ⟨e0,hk⟩ | ⟨e0,hk⟩<;>try (exact absurd e0 (by decide))
              rcases hy with ⟨e1,hy⟩ | ⟨e1,hy⟩ | ⟨e1,hy⟩ | ⟨e1,hy⟩ | ⟨e1,hy⟩<;>try (exact absurd e1 (by decide))
              obtain ⟨e,rfl⟩:=hk;subst hy;unfold RC at h1;constructor
              . first|(subst h1;intro dd;simp [Op.equalIn,run_underlying ht];done)|(obtain ⟨_,_,_,rfl,_⟩:=h1;intro dd;simp [Op.equalIn,run_underlying ht];done)|(obtain ⟨_,rfl,_⟩:=h1;intro dd;simp [Op.equalIn,run_underlying ht];done)
              . first
                 | (subst h1;unfold eqGuard;cases op<;>simp;done)
                 | (obtain ⟨_,_,_,rfl,_⟩:=h1;unfold eqGuard;cases op<;>simp;done)
                 | (obtain ⟨_,rfl,_⟩:=h1;unfold eqGuard;cases op<;>simp;done))
           | (rename_i hkk
              subst hkk;injection hb with hb;subst hb;rcases hk with ⟨e0,hk⟩ | ⟨e0,hk⟩ | ⟨e0,hk⟩ | ⟨e0,hk⟩ | ⟨e0,hk⟩<;>try (exact absurd e0 (by decide))
              rcases hy with ⟨e1,hy⟩ | ⟨e1,hy⟩ | ⟨e1,hy⟩ | ⟨e1,hy⟩ | ⟨e1,hy⟩<;>try (exact absurd e1 (by decide))
              obtain ⟨e,rfl⟩:=hk;obtain ⟨n,c,rfl⟩:=hy;unfold RC at h1;first
               | (obtain ⟨ad,cap,rfl⟩:=h1
                  exact ⟨fun dd=>by simp [Op.equalIn,run_underlying ht],by unfold eqGuard;cases op<;>simp⟩)
               | (obtain ⟨cap,rfl⟩:=h1
                  exact ⟨fun dd=>by simp [Op.equalIn,run_underlying ht],by unfold eqGuard;cases op<;>simp⟩))
           | (rename_i hkk
              subst hkk;injection hb with hb;subst hb;rcases hk with ⟨e0,hk⟩ | ⟨e0,hk⟩ | ⟨e0,hk⟩ | ⟨e0,hk⟩ | ⟨e0,hk⟩<;>try (exact absurd e0 (by decide))
              rcases hy with ⟨e1,hy⟩ | ⟨e1,hy⟩ | ⟨e1,hy⟩ | ⟨e1,hy⟩ | ⟨e1,hy⟩<;>try (exact absurd e1 (by decide))
              obtain ⟨e,f,rfl⟩:=hk;subst hy;unfold RC at h1;subst h1;exact ⟨fun dd=>by simp [Op.equalIn,run_underlying ht],by unfold eqGuard;cases op<;>simp⟩)
           | (rename_i hkk
              subst hkk;injection hb with hb;subst hb;rcases hk with ⟨e0,hk⟩ | ⟨e0,hk⟩ | ⟨e0,hk⟩ | ⟨e0,hk⟩ | ⟨e0,hk⟩<;>try (exact absurd e0 (by decide))
              rcases hy with ⟨e1,hy⟩ | ⟨e1,hy⟩ | ⟨e1,hy⟩ | ⟨e1,hy⟩ | ⟨e1,hy⟩<;>try (exact absurd e1 (by decide))
              obtain ⟨e,f,g,rfl⟩:=hk;subst hy;unfold RC at h1;constructor
              . first|(subst h1;intro dd;simp [Op.equalIn,run_underlying ht];done)|(obtain ⟨_,_,rfl,_⟩:=h1;intro dd;simp [Op.equalIn,run_underlying ht];done)
              . first
                 | (subst h1;unfold eqGuard;cases op<;>simp;done)
                 | (obtain ⟨_,_,rfl,_⟩:=h1;unfold eqGuard;cases op<;>simp;done))
           | (rename_i hkk
              subst hkk;injection hb with hb;subst hb;rcases hk with ⟨e0,hk⟩ | ⟨e0,hk⟩ | ⟨e0,hk⟩ | ⟨e0,hk⟩ | ⟨e0,hk⟩<;>try (exact absurd e0 (by decide))
              rcases hy with ⟨e1,hy⟩ | ⟨e1,hy⟩ | ⟨e1,hy⟩ | ⟨e1,hy⟩ | ⟨e1,hy⟩<;>try (exact absurd e1 (by decide))
              obtain ⟨e,rfl⟩:=hk;obtain ⟨n,c,rfl⟩:=hy;unfold RC at h1;obtain ⟨ad,cap,rfl,_,h2⟩:=h1;obtain ⟨_,_,_,rfl,_⟩:=h2 (by simp);constructor
              . intro dd;simp [Op.equalIn,run_underlying ht]
              . unfold eqGuard;cases op<;>simp))
    all_goals first
     | (cases hb;done)
     | (split at hb<;>first
         | (cases hb;done)
         | (rename_i hkk
            subst hkk;injection hb with hb;subst hb;rcases hk with ⟨e0,hk⟩ | ⟨e0,hk⟩ | ⟨e0,hk⟩ | ⟨e0,hk⟩ | ⟨e0,hk⟩<;>try (exact absurd e0 (by decide))
            rcases hy with ⟨e1,hy⟩ | ⟨e1,hy⟩ | ⟨e1,hy⟩ | ⟨e1,hy⟩ | ⟨e1,hy⟩<;>try (exact absurd e1 (by decide))
            unfold RH at h1;first
             | (obtain ⟨e,f,rfl⟩:=hk
                subst hy;obtain ⟨rfl,_⟩:=h1;exact ⟨fun dd=>by simp [Op.equalIn,run_underlying ht],by unfold eqGuard;cases op<;>simp⟩)
             | (obtain ⟨e,rfl⟩:=hk
                subst hy;obtain ⟨rfl,_⟩:=h1;exact ⟨fun dd=>by simp [Op.equalIn,run_underlying ht],by unfold eqGuard;cases op<;>simp⟩)
             | (obtain ⟨e,rfl⟩:=hk
                subst hy;obtain ⟨_,rfl,_⟩:=h1;exact ⟨fun dd=>by simp [Op.equalIn,run_underlying ht],by unfold eqGuard;cases op<;>simp⟩)
             | (obtain ⟨e,f,g,rfl⟩:=hk
                subst hy;obtain ⟨_,_,rfl,_⟩:=h1;exact ⟨fun dd=>by simp [Op.equalIn,run_underlying ht],by unfold eqGuard;cases op<;>simp⟩)
             | (obtain ⟨e,rfl⟩:=hk
                obtain ⟨n,c,rfl⟩:=hy;subst h1;exact ⟨fun dd=>by simp [Op.equalIn,run_underlying ht],by unfold eqGuard;cases op<;>simp⟩)
             | (obtain ⟨e,rfl⟩:=hk
                obtain ⟨n,c,rfl⟩:=hy;obtain ⟨_,_,rfl,_⟩:=h1;exact ⟨fun dd=>by simp [Op.equalIn,run_underlying ht],by unfold eqGuard;cases op<;>simp⟩)))
   obtain ⟨k1,k2⟩:=key;have k1:=k1 9999;have hnot:∀ v,(binOp .eql xt v u).run P w=(Op.equal xt v u >>= fun r=>pure (.bool r):Sem Value).run P w/\(binOp .neq xt v u).run P w=(Op.equal xt v u >>= fun r=>pure (.bool (!r)):Sem Value).run P w:=by
    intro v;rcases hy with ⟨_,rfl⟩ | ⟨_,rfl⟩ | ⟨_,rfl⟩ | ⟨_,n,c,rfl⟩ | ⟨_,rfl⟩<;>cases v<;>exact ⟨rfl,rfl⟩
   have hyu:a.eval (.const u)=u:=rfl;rcases hop with rfl | rfl
   . refine x7 hs hN (u:=.bool b) (by rw [rh_c,rc_bool];rfl) (G0 _) h ?_;simp [execOp,ho,hyu,k2,(hnot _).1,Op.equal,Op.maxDepth,k1]
   . refine x7 hs hN (u:=.bool (!b)) (by rw [rh_c,rc_bool];rfl) (G0 _) h ?_;simp [execOp,ho,hyu,k2,(hnot _).2,Op.equal,Op.maxDepth,k1]
theorem zt0 {s d:TypeId} {x:Operand} {ix:Opd} (ho:o.op=.convert s d x) (h1':P.underlying s=some .string) (h2':P.underlying d=some .string) (hx:j5 x=some ix) (hs:RS fb N w F H m lb fr a) (hN:∀ d,o.dst=some d->d<N)
 {fr':Fr} {H':q7} (hd:q9 (.cvs ix) o.dst fr H=some (fr',H')) (h:Next fb N w F H m fr' H' K):o.wp P a w K Q:=by
 unfold q9 at hd;dsimp only at hd;obtain ⟨h1,_⟩:=j9 hs.fr hx;split at hd
 . rename_i n e;rw [e,rh_c,a6] at h1;injection hd with hd;injection hd with q1 q2;subst q1;subst q2;refine x7 hs hN (u:=.string ⟨n.toArray⟩) (by rw [rh_c,a6]) (by simp) h ?_;simp [execOp,ho,h1,convert,Sem.run_bind,run_underlying h1',run_underlying h2']
 . cases hd
theorem aI {isMax:Bool} {ts:Array TypeId} {x y:Operand} {ix iy:Opd} (ho:o.op=.call { callee:=.builtin (if isMax then .max else .min),args:=#[x,y],argTypes:=ts }) (hx:j5 x=some ix) (hy:j5 y=some iy) (hs:RS fb N w F H m lb fr a) (hN:∀ d,o.dst=some d->d<N)
 {fr':Fr} {H':q7} (hd:q9 (.mx isMax ix iy) o.dst fr H=some (fr',H')) (h:Next fb N w F H m fr' H' K):o.wp P a w K Q:=by
 unfold q9 at hd;dsimp only at hd;obtain ⟨h1,_⟩:=j9 hs.fr hx;obtain ⟨h2,_⟩:=j9 hs.fr hy;split at hd
 . rename_i k p k' q e1 e2;rw [e1,rh_c,m7] at h1;rw [e2,rh_c,m7] at h2;injection hd with hd;injection hd with q1 q2;subst q1;subst q2;refine x7 hs hN (u:=.int k (if isMax then max p q else min p q)) (by rw [rh_c,m7]) (by simp) h ?_;cases isMax with
   | true=>
     have:(if q > p then q else p)=max p q:=by split<;>omega
     simp [execOp,ho,h1,h2,resolve,invoke,builtin,Sem.run_bind,Builtin.max_,Builtin.max2,this]
   | false=>
     have:(if q<p then q else p)=min p q:=by split<;>omega
     simp [execOp,ho,h1,h2,resolve,invoke,builtin,Sem.run_bind,Builtin.min_,Builtin.min2,this]
 . cases hd
theorem z56 {f:FuncId} {first cap:Array Operand} {i1 i2:List Opd} (ho:o.op=.makeFunc (.func f) first cap) (h1':G2 first.toList=some i1) (h2':G2 cap.toList=some i2) (hs:RS fb N w F H m lb fr a) (hN:∀ d,o.dst=some d->d<N)
 {fr':Fr} {H':q7} (hd:q9 (.mkf f i1 i2) o.dst fr H=some (fr',H')) (h:Next fb N w F H m fr' H' K):o.wp P a w K Q:=by
 unfold q9 at hd;dsimp only at hd;have h1:=jY hs.fr h1';have h2:=jY hs.fr h2';injection hd with hd;injection hd with q1 q2;subst q1;subst q2;have hrun:(execOp a.eval o).run P w=.ok (.value (.func (.func f) ((first.toList.map a.eval).toArray) ((cap.toList.map a.eval).toArray))) w:=by
  have e:∀ l:Array Operand,l.map a.eval=(l.toList.map a.eval).toArray:=by intro l;apply Array.ext';simp
  simp [execOp,ho,Instr.makeFunc,e]
 split at h
 . rename_i l1 l2 e1 e2;refine x7 hs hN ?_ (by simp) h hrun;rw [rh_c];unfold RC;exact ⟨_,_,rfl,bB e1 h1,bB e2 h2⟩
 . refine x7 hs hN ?_ (by simp) h hrun;unfold RH;exact ⟨_,_,rfl,h1,h2⟩
end
end Go.Proofs.Lz
