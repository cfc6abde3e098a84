/- Slices of slices and strings, structs built, bytes made a string. -/
import Derived.Test.YtlimfobeoodkjaaGreatDoorLzOps3
import Derived.Laws.Tables
import Derived.Great.FillDense
import Derived.Great.BuildSlice
set_option linter.unusedVariables false
set_option linter.unusedSimpArgs false
set_option linter.unusedSectionVars false
namespace Go.Proofs.Lz
variable [GlobTab]
section
variable {P:Program} {fb N:Nat} {w:World} {F:Nat->Prop} {H:q7} {m:j7} {lb:Nat->Nat} {fr:Fr} {a:Act} {o:Oper}
variable {K:Act->World->Prop} {Q:Exit->Act->World->Prop}
def U7 (b:Option Int) (v:Option Value):Prop:=
 match b with
 | none=>v=none
 | some i=>∃ k,v=some (.int k i)
theorem lY (h:RFr fb N w F H m lb fr a) {lo:Option Operand} {il:Option Opd} (hl:Z5 lo=some il) {l:Option Int} (hi:C0 fr il=some l):U7 l (lo.map a.eval):=by
 cases lo with
 | none=>
   simp [Z5] at hl;subst hl;simp [C0] at hi;subst hi;exact rfl
 | some x=>
   simp only [Z5,Option.map_eq_some_iff] at hl;obtain ⟨ix,hx,rfl⟩:=hl;unfold C0 at hi;dsimp only at hi;cases hg:K8 (fr.opd ix) with
   | none=>rw [hg] at hi;cases hi
   | some n=>
     rw [hg] at hi;injection hi with hi;subst hi;obtain ⟨k,hk⟩:=wX hg (j9 h hx).1;exact ⟨k,by simp [hk]⟩
theorem lO (isS:Bool) (len cap:Nat) {l h:Option Int} {lv hv:Option Value} (hl:U7 l lv) (hh:U7 h hv) (h0:0<=l.getD 0) (h1:l.getD 0<=h.getD len) (h2:h.getD len<=cap) (h3:len<=cap) :
 (Instr.sliceBounds isS len cap lv hv none).run P w=.ok ((l.getD 0).toNat,(h.getD len).toNat,cap) w:=by
 unfold Instr.sliceBounds;cases h with
 | none=>
   simp only [U7] at hh;subst hh;simp only [Option.getD_none] at h1 h2;cases l with
   | none=>simp only [U7] at hl;subst hl;simp
   | some i=>
     obtain ⟨k,rfl⟩:=hl;simp only [Option.getD_some] at h0 h1;have:=fun c=>run_sliceBound (P:=P) w k i len c h0 h1;simp [Sem.run_bind,this]
 | some j=>
   obtain ⟨k',rfl⟩:=hh;simp only [Option.getD_some] at h1 h2;have hb:=fun c=>run_sliceBound (P:=P) w k' j cap c (by omega) h2;cases l with
   | none=>simp only [U7] at hl;subst hl;simp [Sem.run_bind,hb]
   | some i=>
     obtain ⟨k,rfl⟩:=hl;simp only [Option.getD_some] at h0 h1;have:=fun c=>run_sliceBound (P:=P) w k i j.toNat c h0 (by omega);simp [Sem.run_bind,hb,this]
theorem E6 {ek:Option Nat} {v:Value} (hv:Shape ek v):v.cells.toList.length=j0 ek:=by
 cases ek with
 | none=>cases v<;>first | rfl | cases hv
 | some n=>obtain ⟨l,rfl,hl,_⟩:=hv;simpa [Value.cells,j0] using hl
theorem X6 {ek:Option Nat} {xs:List CV}:∀ {vs:List Value},RRow w F ek xs vs->vs.length=xs.length * j0 ek:=by
 induction xs with
 | nil=>intro vs h;unfold RRow at h;subst h;simp
 | cons c cs ih=>
   intro vs h;unfold RRow at h;obtain ⟨v,us,rfl,h1,h2,h3⟩:=h;rw [List.length_append,E6 h1,ih h3,List.length_cons,Nat.succ_mul];omega
theorem iY {ek:Option Nat} {xs:List CV}:∀ {vs:List Value} (l:Nat),RRow w F ek xs vs->RRow w F ek (xs.drop l) (vs.drop (l * j0 ek)):=by
 induction xs with
 | nil=>intro vs l h;unfold RRow at h;subst h;simp [RRow]
 | cons c cs ih=>
   intro vs l h;cases l with
   | zero=>simpa using h
   | succ l=>
     unfold RRow at h;obtain ⟨v,us,rfl,h1,h2,h3⟩:=h;simp only [List.drop_succ_cons];have e:(l+1) * j0 ek=v.cells.toList.length+l * j0 ek:=by rw [E6 h1,Nat.succ_mul];omega
     rw [e,<-List.drop_drop,List.drop_left];exact ih l h3
theorem aB {ek:Option Nat} {xs:List CV}:∀ {vs:List Value} (l:Nat),RRow w F ek xs vs->RRow w F ek (xs.take l) (vs.take (l * j0 ek)):=by
 induction xs with
 | nil=>intro vs l h;unfold RRow at h;subst h;simp [RRow]
 | cons c cs ih=>
   intro vs l h;cases l with
   | zero=>simp [RRow]
   | succ l=>
     unfold RRow at h;obtain ⟨v,us,rfl,h1,h2,h3⟩:=h;simp only [List.take_succ_cons];have e:(l+1) * j0 ek=v.cells.toList.length+l * j0 ek:=by rw [E6 h1,Nat.succ_mul];omega
     rw [e,List.take_length_add_append];unfold RRow;exact ⟨v,_,rfl,h1,h2,ih l h3⟩
theorem run_sliceAt_slice {t e:TypeId} {ek:Option Nat} (hu:P.underlying t=some (.slice e)) (he:x5 P e=some ek) (ad:Option Addr) (len cap:Nat) {l h:Option Int} {lv hv:Option Value} (hl:U7 l lv) (hh:U7 h hv)
 (h0:0<=l.getD 0) (h1:l.getD 0<=h.getD len) (h2:h.getD len<=cap) (h3:len<=cap) :
 (Instr.sliceAt t (.slice ad len cap) lv hv none).run P w=.ok (.slice (if cap=(l.getD 0).toNat then ad else ad.map (·.add ((l.getD 0).toNat * j0 ek))) ((h.getD len).toNat - (l.getD 0).toNat) (cap - (l.getD 0).toNat)) w:=by
 have hb:=lO (P:=P) (w:=w) true len cap hl hh h0 h1 h2 h3;have hs:=run_sizeOf (w:=w) he;unfold Instr.sliceAt Instr.slice;simp only [Sem.run_bind,run_underlying hu,Result.andThen_ok,hb,hs,Sem.run_pure]
theorem vU {t:TypeId} {x:Operand} {lo hi:Option Operand} {v u:Value} (ho:o.op=.slice t x lo hi none) (hx:a.eval x=v) (hr:(Instr.sliceAt t v (lo.map a.eval) (hi.map a.eval) none).run P w=.ok u w):(execOp a.eval o).run P w=.ok (.value u) w:=by
 simp only [execOp,ho,hx,Option.map_none,Sem.run_bind,hr,Result.andThen_ok,Sem.run_pure]
theorem z98 (s:List UInt8) (l h:Nat):(⟨s.toArray⟩:ByteArray).extract l h=⟨((s.drop l).take (h - l)).toArray⟩:=by
 apply ByteArray.ext;simp [List.extract_eq_take_drop]
theorem uU {ek:Option Nat} {b off:Nat} {xs:List CV} {vs:List Value} (hr:w.rangeAt b off vs) (hrow:RRow w F ek xs vs) (l n:Nat) :
 ∃ us,w.rangeAt b (off+l * j0 ek) us/\RRow w F ek ((xs.drop l).take n) us:=by
 refine ⟨_,?_,aB n (iY l hrow)⟩;intro j v hv;rw [List.getElem?_take] at hv;split at hv
 . rw [List.getElem?_drop] at hv;have:=hr _ _ hv;rw [<-Nat.add_assoc] at this;exact this
 . cases hv
theorem rR {t:TypeId} {st:Bool} {ek:Option Nat} {x:Operand} {lo hi:Option Operand} {ix:Opd} {il ih:Option Opd} (ho:o.op=.slice t x lo hi none) (hu:(st=true/\P.underlying t=some .string)\/(st=false/\∃ e,P.underlying t=some (.slice e)/\x5 P e=some ek))
 (hx:j5 x=some ix) (hlo:Z5 lo=some il) (hhi:Z5 hi=some ih)
 (hs:RS fb N w F H m lb fr a) (hN:∀ d,o.dst=some d->d<N)
 {fr':Fr} {H':q7} (hd:q9 (.slc st ek ix il ih) o.dst fr H=some (fr',H')) (h:Next fb N w F H m fr' H' K):o.wp P a w K Q:=by
 unfold q9 at hd;dsimp only at hd;obtain ⟨h1,_⟩:=j9 hs.fr hx;cases hl:C0 fr il with
 | none=>rw [hl] at hd;cases hd
 | some l=>
   cases hh:C0 fr ih with
   | none=>rw [hl,hh] at hd;cases hd
   | some hb=>
     rw [hl,hh] at hd;dsimp only at hd;have bl:=lY hs.fr hlo hl;have bh:=lY hs.fr hhi hh;cases hq:I0 st ek (fr.opd ix) l hb H with
     | none=>rw [hq] at hd;cases hd
     | some y=>
       rw [hq] at hd;injection hd with hd;injection hd with q1 q2;subst q1;subst q2;generalize fr.opd ix=vx at hq h1;unfold I0 at hq;split at hq
       . rename_i s;dsimp only at hq;split at hq
         . rename_i hc;obtain ⟨hst,c1,c2,c3⟩:=hc;injection hq with hq;subst hq;rcases hu with ⟨_,hu⟩ | ⟨hst',_⟩
           . rw [rh_c,a6] at h1;have hz:(⟨s.toArray⟩:ByteArray).size=s.length:=by simp [ByteArray.size]
             have hbd:=lO (P:=P) (w:=w) false s.length s.length bl bh c1 c2 c3 (Nat.le_refl _);refine x7 hs hN (u:=.string ⟨((s.drop (l.getD 0).toNat).take ((hb.getD s.length).toNat - (l.getD 0).toNat)).toArray⟩) (by rw [rh_c,a6]) (by simp) h ?_;simp only [execOp,ho,h1,Instr.sliceAt,Instr.slice,Sem.run_bind,run_underlying hu,Result.andThen_ok,Option.map_none,Option.isSome_none,Bool.false_eq_true,if_false,hz,hbd,Sem.run_pure,z98]
           . rw [hst] at hst';cases hst'
         . cases hq
       . rename_i ek' xs;dsimp only at hq;split at hq
         . rename_i hc;obtain ⟨hst,hek,c1,c2,c3⟩:=hc;injection hq with hq;subst hq;rcases hu with ⟨hst',_⟩ | ⟨_,e,hu,he⟩
           . rw [hst] at hst';cases hst'
           . rw [rh_c] at h1;unfold RC at h1;obtain ⟨ad,cap,h1,hcap,hne⟩:=h1;have hrun:=run_sliceAt_slice (P:=P) (w:=w) hu he ad xs.length cap bl bh c1 c2 (by omega) hcap;refine x7 hs hN ?_ (by simp) h (vU ho h1 hrun);rw [rh_c];unfold RC;have hlen:((xs.drop (l.getD 0).toNat).take ((hb.getD xs.length).toNat - (l.getD 0).toNat)).length=(hb.getD xs.length).toNat - (l.getD 0).toNat:=by
              rw [List.length_take,List.length_drop];omega
             refine ⟨_,_,by rw [hlen],by rw [hlen];omega,fun hne'=>?_⟩;have hpos:0<(hb.getD xs.length).toNat - (l.getD 0).toNat:=by
              rw [<-hlen];exact List.length_pos_iff.2 hne'
             have hxs:xs≠[]:=by intro e;subst e;simp at hne'
             obtain ⟨b,off,vs,rfl,hF,hr,hrow⟩:=hne hxs;have hek':ek'=ek:=by rcases hek with h | h;exact h;exact absurd h hxs
             subst hek';obtain ⟨us,hr',hrow'⟩:=uU hr hrow (l.getD 0).toNat ((hb.getD xs.length).toNat - (l.getD 0).toNat);rw [if_neg (by omega)];exact ⟨b,_,us,by simp [Addr.add_mid],hF,hr',hrow'⟩
         . cases hq
       . dsimp only at hq;split at hq
         . rename_i hc;obtain ⟨hst,c1,c2,c3⟩:=hc;injection hq with hq;subst hq;rcases hu with ⟨hst',_⟩ | ⟨_,e,hu,he⟩
           . rw [hst] at hst';cases hst'
           . unfold RH at h1;have e0:hb.getD ((0:Nat):Int)=hb.getD 0:=rfl;have hrun:=run_sliceAt_slice (P:=P) (w:=w) hu he none 0 0 bl bh c1 (by rw [e0];exact c2) (by rw [e0];omega) (Nat.le_refl _);have e1:(l.getD 0).toNat=0:=by omega
             have e2:(hb.getD ((0:Nat):Int)).toNat=0:=by rw [e0];omega
             rw [e1,e2] at hrun;refine x7 hs hN (u:=.slice none 0 0) (by unfold RH;rfl) (by simp) h ?_;exact vU ho h1 (by simpa using hrun)
         . cases hq
       . rename_i id ver off n;split at hq
         . rename_i fz e' ek' ver' xs hH;split at hq
           . rename_i hv;obtain ⟨hv,hek⟩:=hv;subst hv;subst hek;dsimp only at hq;split at hq
             . rename_i hc;obtain ⟨hst,c1,c2,c3⟩:=hc;injection hq with hq;subst hq;rcases hu with ⟨hst',_⟩ | ⟨_,e,hu,he⟩
               . rw [hst] at hst';cases hst'
               . unfold RH at h1;obtain ⟨ad,cap,h1,hex,hall⟩:=h1;obtain ⟨p1,p2,p3,p4⟩:=hall _ _ _ _ hH;have hrun:=run_sliceAt_slice (P:=P) (w:=w) hu he (some ad) n cap bl bh c1 c2 (by omega) p3;by_cases hcl:cap=(l.getD 0).toNat
                 . rw [if_pos hcl] at hrun;refine x7 hs hN ?_ (by simp) h (vU ho h1 hrun);unfold RH;refine ⟨ad,_,rfl,hex,fun fz2 e2 ek2 xs2 hH2=>?_⟩;rw [hH] at hH2;injection hH2 with hH2;injection hH2 with z1 z2 z3 z4 z5;subst z3;subst z5;refine ⟨by omega,by omega,by omega,fun hz=>?_⟩;have hoff:off=0/\(l.getD 0).toNat=0:=by omega
                   rw [hoff.1,hoff.2];have:=p4 (.inr hoff.1);rw [hoff.1] at this;simpa using this
                 . rw [if_neg hcl] at hrun;refine x7 hs hN ?_ (by simp) h (vU ho h1 hrun);unfold RH;refine ⟨_,_,rfl,hex,fun fz2 e2 ek2 xs2 hH2=>?_⟩;rw [hH] at hH2;injection hH2 with hH2;injection hH2 with z1 z2 z3 z4 z5;subst z3;subst z5;refine ⟨by omega,by omega,by omega,fun hz=>?_⟩;rw [p4 (.inl (by omega))];show (⟨(m id).blk,off * j0 ek',none⟩:Addr).add _=_;rw [Addr.add_mid,Nat.add_mul]
             . cases hq
           . cases hq
         . cases hq
       . cases hq
theorem zp7 (cs new:List HV) (off:Nat) (h:off+new.length<=cs.length):(f0 cs off new).length=cs.length:=by
 simp only [f0,List.length_append,List.length_take,List.length_drop];omega
theorem fP (off:Nat) (new:Array Value) (cs:Array Value) (h:off+new.size<=cs.size) :
 (new.zipIdx.foldl (fun cs (x:Value×Nat)=>cs.setIfInBounds (off+x.2) x.1) cs).toList=cs.toList.take off++new.toList++cs.toList.drop (off+new.size):=by
 rw [<-Array.foldl_toList,Array.toList_zipIdx];obtain ⟨h1,h2⟩:=Great.foldl_set off new.toList 0 cs;apply List.ext_getElem?;intro k;rw [Array.getElem?_toList,h2 k];simp only [Nat.add_zero,Array.length_toList];have hc:cs.toList.length=cs.size:=by simp
 have hn:new.toList.length=new.size:=by simp
 by_cases hk:k<off
 . rw [if_neg (by omega),List.append_assoc,List.getElem?_append_left (by rw [List.length_take];omega),List.getElem?_take,if_pos hk,Array.getElem?_toList]
 . by_cases hk2:k<off+new.size
   . rw [if_pos ⟨by omega,hk2,by omega⟩,List.append_assoc,List.getElem?_append_right (by rw [List.length_take];omega),List.length_take,List.getElem?_append_left (by omega)];congr 1;omega
   . rw [if_neg (by omega),List.append_assoc,List.getElem?_append_right (by rw [List.length_take];omega),List.length_take,List.getElem?_append_right (by omega),List.getElem?_drop,<-Array.getElem?_toList];congr 1;omega
theorem pS {cs new:List HV} {vs us:List Value} (h:RHs w F H m cs vs) (k:RHs w F H m new us) (off:Nat):RHs w F H m (f0 cs off new) (vs.take off++us++vs.drop (off+us.length)):=by
 unfold f0;rw [Q6 k];exact qV (qV (lM off h) k) (dL _ h)
theorem q14 {n:Nat} {x:HV} {v:Value} (hf:Y2 n x=true) (h:RH w F H m x v):v.cells.size=n/\RHs w F H m x.flat v.cells.toList/\∀ u∈v.cells.toList,u.oneCell'=true:=by
 unfold Y2 at hf;rw [Bool.or_eq_true] at hf;rcases hf with hf | hf
 . obtain ⟨h1,h2,h3⟩:=V2 hf h;refine ⟨?_,h2,h3⟩;have:=E6 h1;simpa [j0] using this
 . rw [Bool.and_eq_true] at hf;obtain ⟨hn,hf⟩:=hf;obtain ⟨h1,h2,h3⟩:=V2 hf h;refine ⟨?_,h2,h3⟩;have:=E6 h1;simp at hn;simpa [j0,hn] using this
theorem dS (pl:Nat->Option (Nat×Nat)):∀ {parts:List (Nat×Operand)} {ips:List (Nat×Nat×Opd)} {cs cs':List HV} {vs:List Value},RFr fb N w F H m lb fr a->partsOf pl parts=some ips->RHs w F H m cs vs->(∀ u∈vs,u.oneCell'=true) ->
 P4 cs (ips.map fun p=>(p.1,p.2.1,fr.opd p.2.2))=some cs'->∃ us:List Value,Instr.fill pl vs.toArray (parts.map fun (i,x)=>(i,a.eval x))=some us.toArray/\RHs w F H m cs' us/\(∀ u∈us,u.oneCell'=true):=by
 intro parts;induction parts with
 | nil=>
   intro ips cs cs' vs hf hp hr h1 hfill;simp [partsOf] at hp;subst hp;simp [P4] at hfill;subst hfill;exact ⟨vs,by simp [Instr.fill],hr,h1⟩
 | cons p parts ih=>
   intro ips cs cs' vs hf hp hr h1 hfill;obtain ⟨i,x⟩:=p;unfold partsOf at hp;cases e1:pl i with
   | none=>rw [e1] at hp;cases hp
   | some q=>
     obtain ⟨off,n⟩:=q;cases e2:j5 x with
     | none=>rw [e1,e2] at hp;cases hp
     | some ix=>
       cases e3:partsOf pl parts with
       | none=>rw [e1,e2,e3] at hp;cases hp
       | some rest=>
         rw [e1,e2,e3] at hp;injection hp with hp;subst hp;simp only [List.map_cons] at hfill ⊢;unfold P4 at hfill;split at hfill
         . rename_i hc;obtain ⟨hfit,hle⟩:=hc;have hle:off+n<=cs.length:=hle;obtain ⟨hx,_⟩:=j9 hf e2;obtain ⟨hsz,hfl,hone⟩:=q14 hfit hx;have hlen:=Q6 hr;have hle':off+(a.eval x).cells.size<=vs.toArray.size:=by simp;omega
           have hset:=pS hr hfl off;have hones:∀ u∈(vs.take off++(a.eval x).cells.toList++vs.drop (off+(a.eval x).cells.toList.length)),u.oneCell'=true:=by
            intro u hu;simp only [List.mem_append] at hu;rcases hu with (hu | hu) | hu
            . exact h1 u (List.mem_of_mem_take hu)
            . exact hone u hu
            . exact h1 u (List.mem_of_mem_drop hu)
           obtain ⟨us,k1,k2,k3⟩:=ih hf e3 hset hones hfill;refine ⟨us,?_,k2,k3⟩;unfold Instr.fill;simp only [e1];have hno:(decide ((a.eval x).cells.size≠n)||decide (off+(a.eval x).cells.size > vs.toArray.size))=false:=by
            rw [hsz,List.size_toArray,Bool.or_eq_false_iff];exact ⟨by simp,decide_eq_false (by omega)⟩
           rw [hno];simp only [Bool.false_eq_true,if_false];have hfl2:=fP off (a.eval x).cells vs.toArray hle';have:(a.eval x).cells.zipIdx.foldl (fun cs (x:Value×Nat)=>cs.setIfInBounds (off+x.2) x.1) vs.toArray=(vs.take off++(a.eval x).cells.toList++vs.drop (off+(a.eval x).cells.toList.length)).toArray:=by
            apply Array.ext';rw [hfl2];simp
           rw [<-k1];congr 1
         . cases hfill
theorem zs3 {t:TypeId} {parts:Array (Nat×Operand)} {fs:Array Field} {z:List HV} {pl:List (Nat×Nat)} {ips:List (Nat×Nat×Opd)} (ho:o.op=.build t parts) (hu:P.underlying t=some (.struct fs)) (hz:(zeroOf P t).bind (fun z=>Q0 z.cells.toList)=some z)
 (hpl:fs.toList.mapM (fun f=>(P.info? f.type).map fun i=>(f.offset,i.size))=some pl) (hp:partsOf (pl.toArray[·]?) parts.toList=some ips) (hs:RS fb N w F H m lb fr a) (hN:∀ d,o.dst=some d->d<N)
 {fr':Fr} {H':q7} (hd:q9 (.build z ips) o.dst fr H=some (fr',H')) (h:Next fb N w F H m fr' H' K):o.wp P a w K Q:=by
 unfold q9 at hd;dsimp only at hd;cases hf:P4 z (ips.map fun p=>(p.1,p.2.1,fr.opd p.2.2)) with
 | none=>rw [hf] at hd;cases hd
 | some cs=>
   rw [hf] at hd;injection hd with hd;injection hd with q1 q2;subst q1;subst q2;cases hit:P.info? t with
   | none=>simp [zeroOf,hit] at hz
   | some it=>
     cases hzz:it.zero with
     | none=>simp [zeroOf,hit,hzz] at hz
     | some zv=>
       simp only [zeroOf,hit,hzz,Option.bind_some] at hz;obtain ⟨hr,hone⟩:=uT (w:=w) (F:=F) (H:=H) (m:=m) hz;obtain ⟨us,k1,k2,k3⟩:=dS (pl.toArray[·]?) hs.fr hp hr hone hf;have hb:P.built t (parts.map fun (i,x)=>(i,a.eval x)).toList=some us.toArray:=by
        unfold Program.built;simp only [hit,hu,hzz,hpl];rw [<-k1];simp
       refine x7 hs hN (jI k2 k3) (vB _) h ?_;simp only [execOp,ho,Sem.run_bind,run_build (P:=P) w t _ _ hb,Result.andThen_ok,Sem.run_pure]
end
end Go.Proofs.Lz
