/- Operations that write memory: boxes and stores. -/
import Derived.Test.YtencoceemejcnaaGreatDoorLzOps3
import Derived.Laws.Tables
import Derived.Great.FillDense
import Derived.Great.BuildSlice
import Derived.Laws.CopyRow
set_option linter.unusedVariables false
set_option linter.unusedSimpArgs false
set_option linter.unusedSectionVars false
namespace Go.Proofs.Lz
variable [GlobTab]
section
variable {P:Program} {fb N:Nat} {w:World} {F:Nat->Prop} {H:j6} {m:a7} {lb:Nat->Nat} {fr:Fr} {a:Act} {o:Oper}
variable {K:Act->World->Prop} {Q:Exit->Act->World->Prop}
def wG (b:Option Int) (v:Option Value):Prop:=
 match b with
 | none=>v=none
 | some i=>∃ k,v=some (.int k i)
theorem eB (h:RFr fb N w F H m lb fr a) {lo:Option Operand} {il:Option Opd} (hl:vR lo=some il) {l:Option Int} (hi:N8 fr il=some l):wG l (lo.map a.eval):=by
 cases lo with
 | none=>
   simp [vR] at hl;subst hl;simp [N8] at hi;subst hi;exact rfl
 | some x=>
   simp only [vR,Option.map_eq_some_iff] at hl;obtain ⟨ix,hx,rfl⟩:=hl;unfold N8 at hi;dsimp only at hi;cases hg:qI (fr.opd ix) with
   | none=>rw [hg] at hi;cases hi
   | some n=>
     rw [hg] at hi;injection hi with hi;subst hi;obtain ⟨k,hk⟩:=cZ hg (B8 h hx).1;exact ⟨k,by simp [hk]⟩
theorem z17 (isS:Bool) (len cap:Nat) {l h:Option Int} {lv hv:Option Value} (hl:wG l lv) (hh:wG h hv) (h0:0<=l.getD 0) (h1:l.getD 0<=h.getD len) (h2:h.getD len<=cap) (h3:len<=cap) :
 (Instr.sliceBounds isS len cap lv hv none).run P w=.ok ((l.getD 0).toNat,(h.getD len).toNat,cap) w:=by
 unfold Instr.sliceBounds;cases h with
 | none=>
   simp only [wG] at hh;subst hh;simp only [Option.getD_none] at h1 h2;cases l with
   | none=>simp only [wG] at hl;subst hl;simp
   | some i=>
     obtain ⟨k,rfl⟩:=hl;simp only [Option.getD_some] at h0 h1;have:=fun c=>run_sliceBound (P:=P) w k i len c h0 h1;simp [Sem.run_bind,this]
 | some j=>
   obtain ⟨k',rfl⟩:=hh;simp only [Option.getD_some] at h1 h2;have hb:=fun c=>run_sliceBound (P:=P) w k' j cap c (by omega) h2;cases l with
   | none=>simp only [wG] at hl;subst hl;simp [Sem.run_bind,hb]
   | some i=>
     obtain ⟨k,rfl⟩:=hl;simp only [Option.getD_some] at h0 h1;have:=fun c=>run_sliceBound (P:=P) w k i j.toNat c h0 (by omega);simp [Sem.run_bind,hb,this]
theorem Q1 {ek:Option Nat} {v:Value} (hv:Shape ek v):v.cells.toList.length=g7 ek:=by
 cases ek with
 | none=>cases v<;>first | rfl | cases hv
 | some n=>obtain ⟨l,rfl,hl,_⟩:=hv;simpa [Value.cells,g7] using hl
theorem wZ {ek:Option Nat} {xs:List CV}:∀ {vs:List Value},RRow w F ek xs vs->vs.length=xs.length * g7 ek:=by
 induction xs with
 | nil=>intro vs h;unfold RRow at h;subst h;simp
 | cons c cs ih=>
   intro vs h;unfold RRow at h;obtain ⟨v,us,rfl,h1,h2,h3⟩:=h;rw [List.length_append,Q1 h1,ih h3,List.length_cons,Nat.succ_mul];omega
theorem zt5 {ek:Option Nat} {xs:List CV}:∀ {vs:List Value} (l:Nat),RRow w F ek xs vs->RRow w F ek (xs.drop l) (vs.drop (l * g7 ek)):=by
 induction xs with
 | nil=>intro vs l h;unfold RRow at h;subst h;simp [RRow]
 | cons c cs ih=>
   intro vs l h;cases l with
   | zero=>simpa using h
   | succ l=>
     unfold RRow at h;obtain ⟨v,us,rfl,h1,h2,h3⟩:=h;simp only [List.drop_succ_cons];have e:(l+1) * g7 ek=v.cells.toList.length+l * g7 ek:=by rw [Q1 h1,Nat.succ_mul];omega
     rw [e,<-List.drop_drop,List.drop_left];exact ih l h3
theorem tG {ek:Option Nat} {xs:List CV}:∀ {vs:List Value} (l:Nat),RRow w F ek xs vs->RRow w F ek (xs.take l) (vs.take (l * g7 ek)):=by
 induction xs with
 | nil=>intro vs l h;unfold RRow at h;subst h;simp [RRow]
 | cons c cs ih=>
   intro vs l h;cases l with
   | zero=>simp [RRow]
   | succ l=>
     unfold RRow at h;obtain ⟨v,us,rfl,h1,h2,h3⟩:=h;simp only [List.take_succ_cons];have e:(l+1) * g7 ek=v.cells.toList.length+l * g7 ek:=by rw [Q1 h1,Nat.succ_mul];omega
     rw [e,List.take_length_add_append];unfold RRow;exact ⟨v,_,rfl,h1,h2,ih l h3⟩
theorem run_sliceAt_slice {t e:TypeId} {ek:Option Nat} (hu:P.underlying t=some (.slice e)) (he:A0 P e=some ek) (ad:Option Addr) (len cap:Nat) {l h:Option Int} {lv hv:Option Value} (hl:wG l lv) (hh:wG h hv)
 (h0:0<=l.getD 0) (h1:l.getD 0<=h.getD len) (h2:h.getD len<=cap) (h3:len<=cap) :
 (Instr.sliceAt t (.slice ad len cap) lv hv none).run P w=.ok (.slice (if cap=(l.getD 0).toNat then ad else ad.map (·.add ((l.getD 0).toNat * g7 ek))) ((h.getD len).toNat - (l.getD 0).toNat) (cap - (l.getD 0).toNat)) w:=by
 have hb:=z17 (P:=P) (w:=w) true len cap hl hh h0 h1 h2 h3;have hs:=run_sizeOf (w:=w) he;unfold Instr.sliceAt Instr.slice;simp only [Sem.run_bind,run_underlying hu,Result.andThen_ok,hb,hs,Sem.run_pure]
theorem pP {t:TypeId} {x:Operand} {lo hi:Option Operand} {v u:Value} (ho:o.op=.slice t x lo hi none) (hx:a.eval x=v) (hr:(Instr.sliceAt t v (lo.map a.eval) (hi.map a.eval) none).run P w=.ok u w):(execOp a.eval o).run P w=.ok (.value u) w:=by
 simp only [execOp,ho,hx,Option.map_none,Sem.run_bind,hr,Result.andThen_ok,Sem.run_pure]
theorem q11 (s:List UInt8) (l h:Nat):(⟨s.toArray⟩:ByteArray).extract l h=⟨((s.drop l).take (h - l)).toArray⟩:=by
 apply ByteArray.ext;simp [List.extract_eq_take_drop]
theorem sK {ek:Option Nat} {b off:Nat} {xs:List CV} {vs:List Value} (hr:w.rangeAt b off vs) (hrow:RRow w F ek xs vs) (l n:Nat) :
 ∃ us,w.rangeAt b (off+l * g7 ek) us/\RRow w F ek ((xs.drop l).take n) us:=by
 refine ⟨_,?_,tG n (zt5 l hrow)⟩;intro j v hv;rw [List.getElem?_take] at hv;split at hv
 . rw [List.getElem?_drop] at hv;have:=hr _ _ hv;rw [<-Nat.add_assoc] at this;exact this
 . cases hv
theorem fY {t:TypeId} {st:Bool} {ek:Option Nat} {x:Operand} {lo hi:Option Operand} {ix:Opd} {il ih:Option Opd} (ho:o.op=.slice t x lo hi none) (hu:(st=true/\P.underlying t=some .string)\/(st=false/\∃ e,P.underlying t=some (.slice e)/\A0 P e=some ek))
 (hx:c7 x=some ix) (hlo:vR lo=some il) (hhi:vR hi=some ih)
 (hs:RS fb N w F H m lb fr a) (hN:∀ d,o.dst=some d->d<N)
 {fr':Fr} {H':j6} (hd:x4 (.slc st ek ix il ih) o.dst fr H=some (fr',H')) (h:Next fb N w F H m fr' H' K):o.wp P a w K Q:=by
 unfold x4 at hd;dsimp only at hd;obtain ⟨h1,_⟩:=B8 hs.fr hx;cases hl:N8 fr il with
 | none=>rw [hl] at hd;cases hd
 | some l=>
   cases hh:N8 fr ih with
   | none=>rw [hl,hh] at hd;cases hd
   | some hb=>
     rw [hl,hh] at hd;dsimp only at hd;have bl:=eB hs.fr hlo hl;have bh:=eB hs.fr hhi hh;cases hq:U9 st ek (fr.opd ix) l hb H with
     | none=>rw [hq] at hd;cases hd
     | some y=>
       rw [hq] at hd;injection hd with hd;injection hd with q1 q2;subst q1;subst q2;generalize fr.opd ix=vx at hq h1;unfold U9 at hq;split at hq
       . rename_i s;dsimp only at hq;split at hq
         . rename_i hc;obtain ⟨hst,c1,c2,c3⟩:=hc;injection hq with hq;subst hq;rcases hu with ⟨_,hu⟩ | ⟨hst',_⟩
           . rw [rh_c,I1] at h1;have hz:(⟨s.toArray⟩:ByteArray).size=s.length:=by simp [ByteArray.size]
             have hbd:=z17 (P:=P) (w:=w) false s.length s.length bl bh c1 c2 c3 (Nat.le_refl _);refine B0 hs hN (u:=.string ⟨((s.drop (l.getD 0).toNat).take ((hb.getD s.length).toNat - (l.getD 0).toNat)).toArray⟩) (by rw [rh_c,I1]) (by simp) h ?_;simp only [execOp,ho,h1,Instr.sliceAt,Instr.slice,Sem.run_bind,run_underlying hu,Result.andThen_ok,Option.map_none,Option.isSome_none,Bool.false_eq_true,if_false,hz,hbd,Sem.run_pure,q11]
           . rw [hst] at hst';cases hst'
         . cases hq
       . rename_i ek' xs;dsimp only at hq;split at hq
         . rename_i hc;obtain ⟨hst,hek,c1,c2,c3⟩:=hc;injection hq with hq;subst hq;rcases hu with ⟨hst',_⟩ | ⟨_,e,hu,he⟩
           . rw [hst] at hst';cases hst'
           . rw [rh_c] at h1;unfold RC at h1;obtain ⟨ad,cap,h1,hcap,hne⟩:=h1;have hrun:=run_sliceAt_slice (P:=P) (w:=w) hu he ad xs.length cap bl bh c1 c2 (by omega) hcap;refine B0 hs hN ?_ (by simp) h (pP ho h1 hrun);rw [rh_c];unfold RC;have hlen:((xs.drop (l.getD 0).toNat).take ((hb.getD xs.length).toNat - (l.getD 0).toNat)).length=(hb.getD xs.length).toNat - (l.getD 0).toNat:=by
              rw [List.length_take,List.length_drop];omega
             refine ⟨_,_,by rw [hlen],by rw [hlen];omega,fun hne'=>?_⟩;have hpos:0<(hb.getD xs.length).toNat - (l.getD 0).toNat:=by
              rw [<-hlen];exact List.length_pos_iff.2 hne'
             have hxs:xs≠[]:=by intro e;subst e;simp at hne'
             obtain ⟨b,off,vs,rfl,hF,hr,hrow⟩:=hne hxs;have hek':ek'=ek:=by rcases hek with h | h;exact h;exact absurd h hxs
             subst hek';obtain ⟨us,hr',hrow'⟩:=sK hr hrow (l.getD 0).toNat ((hb.getD xs.length).toNat - (l.getD 0).toNat);rw [if_neg (by omega)];exact ⟨b,_,us,by simp [Addr.add_mid],hF,hr',hrow'⟩
         . cases hq
       . dsimp only at hq;split at hq
         . rename_i hc;obtain ⟨hst,c1,c2,c3⟩:=hc;injection hq with hq;subst hq;rcases hu with ⟨hst',_⟩ | ⟨_,e,hu,he⟩
           . rw [hst] at hst';cases hst'
           . unfold RH at h1;have e0:hb.getD ((0:Nat):Int)=hb.getD 0:=rfl;have hrun:=run_sliceAt_slice (P:=P) (w:=w) hu he none 0 0 bl bh c1 (by rw [e0];exact c2) (by rw [e0];omega) (Nat.le_refl _);have e1:(l.getD 0).toNat=0:=by omega
             have e2:(hb.getD ((0:Nat):Int)).toNat=0:=by rw [e0];omega
             rw [e1,e2] at hrun;refine B0 hs hN (u:=.slice none 0 0) (by unfold RH;rfl) (by simp) h ?_;exact pP ho h1 (by simpa using hrun)
         . cases hq
       . rename_i id ver off n;split at hq
         . rename_i fz e' ek' ver' xs hH;split at hq
           . rename_i hv;obtain ⟨hv,hek⟩:=hv;subst hv;subst hek;dsimp only at hq;split at hq
             . rename_i hc;obtain ⟨hst,c1,c2,c3⟩:=hc;injection hq with hq;subst hq;rcases hu with ⟨hst',_⟩ | ⟨_,e,hu,he⟩
               . rw [hst] at hst';cases hst'
               . unfold RH at h1;obtain ⟨ad,cap,h1,hex,hall⟩:=h1;obtain ⟨p1,p2,p3,p4⟩:=hall _ _ _ _ hH;have hrun:=run_sliceAt_slice (P:=P) (w:=w) hu he (some ad) n cap bl bh c1 c2 (by omega) p3;by_cases hcl:cap=(l.getD 0).toNat
                 . rw [if_pos hcl] at hrun;refine B0 hs hN ?_ (by simp) h (pP ho h1 hrun);unfold RH;refine ⟨ad,_,rfl,hex,fun fz2 e2 ek2 xs2 hH2=>?_⟩;rw [hH] at hH2;injection hH2 with hH2;injection hH2 with z1 z2 z3 z4 z5;subst z3;subst z5;refine ⟨by omega,by omega,by omega,fun hz=>?_⟩;have hoff:off=0/\(l.getD 0).toNat=0:=by omega
                   rw [hoff.1,hoff.2];have:=p4 (.inr hoff.1);rw [hoff.1] at this;simpa using this
                 . rw [if_neg hcl] at hrun;refine B0 hs hN ?_ (by simp) h (pP ho h1 hrun);unfold RH;refine ⟨_,_,rfl,hex,fun fz2 e2 ek2 xs2 hH2=>?_⟩;rw [hH] at hH2;injection hH2 with hH2;injection hH2 with z1 z2 z3 z4 z5;subst z3;subst z5;refine ⟨by omega,by omega,by omega,fun hz=>?_⟩;rw [p4 (.inl (by omega))];show (⟨(m id).blk,off * g7 ek',none⟩:Addr).add _=_;rw [Addr.add_mid,Nat.add_mul]
             . cases hq
           . cases hq
         . cases hq
       . cases hq
theorem zz6 (cs new:List HV) (off:Nat) (h:off+new.length<=cs.length):(H9 cs off new).length=cs.length:=by
 simp only [H9,List.length_append,List.length_take,List.length_drop];omega
theorem zj8 (off:Nat) (new:Array Value) (cs:Array Value) (h:off+new.size<=cs.size) :
 (new.zipIdx.foldl (fun cs (x:Value×Nat)=>cs.setIfInBounds (off+x.2) x.1) cs).toList=cs.toList.take off++new.toList++cs.toList.drop (off+new.size):=by
 rw [<-Array.foldl_toList,Array.toList_zipIdx];obtain ⟨h1,h2⟩:=Great.foldl_set off new.toList 0 cs;apply List.ext_getElem?;intro k;rw [Array.getElem?_toList,h2 k];simp only [Nat.add_zero,Array.length_toList];have hc:cs.toList.length=cs.size:=by simp
 have hn:new.toList.length=new.size:=by simp
 by_cases hk:k<off
 . rw [if_neg (by omega),List.append_assoc,List.getElem?_append_left (by rw [List.length_take];omega),List.getElem?_take,if_pos hk,Array.getElem?_toList]
 . by_cases hk2:k<off+new.size
   . rw [if_pos ⟨by omega,hk2,by omega⟩,List.append_assoc,List.getElem?_append_right (by rw [List.length_take];omega),List.length_take,List.getElem?_append_left (by omega)];congr 1;omega
   . rw [if_neg (by omega),List.append_assoc,List.getElem?_append_right (by rw [List.length_take];omega),List.length_take,List.getElem?_append_right (by omega),List.getElem?_drop,<-Array.getElem?_toList];congr 1;omega
theorem lS {cs new:List HV} {vs us:List Value} (h:RHs w F H m cs vs) (k:RHs w F H m new us) (off:Nat):RHs w F H m (H9 cs off new) (vs.take off++us++vs.drop (off+us.length)):=by
 unfold H9;rw [qM k];exact uR (uR (eU off h) k) (zh1 _ h)
theorem q25 {n:Nat} {x:HV} {v:Value} (hf:xF n x=true) (h:RH w F H m x v):v.cells.size=n/\RHs w F H m x.flat v.cells.toList/\∀ u∈v.cells.toList,u.oneCell'=true:=by
 unfold xF at hf;rw [Bool.or_eq_true] at hf;rcases hf with hf | hf
 . obtain ⟨h1,h2,h3⟩:=wT hf h;refine ⟨?_,h2,h3⟩;have:=Q1 h1;simpa [g7] using this
 . rw [Bool.and_eq_true] at hf;obtain ⟨hn,hf⟩:=hf;obtain ⟨h1,h2,h3⟩:=wT hf h;refine ⟨?_,h2,h3⟩;have:=Q1 h1;simp at hn;simpa [g7,hn] using this
theorem q78 (pl:Nat->Option (Nat×Nat)):∀ {parts:List (Nat×Operand)} {ips:List (Nat×Nat×Opd)} {cs cs':List HV} {vs:List Value},RFr fb N w F H m lb fr a->partsOf pl parts=some ips->RHs w F H m cs vs->(∀ u∈vs,u.oneCell'=true) ->
 jH cs (ips.map fun p=>(p.1,p.2.1,fr.opd p.2.2))=some cs'->∃ us:List Value,Instr.fill pl vs.toArray (parts.map fun (i,x)=>(i,a.eval x))=some us.toArray/\RHs w F H m cs' us/\(∀ u∈us,u.oneCell'=true):=by
 intro parts;induction parts with
 | nil=>
   intro ips cs cs' vs hf hp hr h1 hfill;simp [partsOf] at hp;subst hp;simp [jH] at hfill;subst hfill;exact ⟨vs,by simp [Instr.fill],hr,h1⟩
 | cons p parts ih=>
   intro ips cs cs' vs hf hp hr h1 hfill;obtain ⟨i,x⟩:=p;unfold partsOf at hp;cases e1:pl i with
   | none=>rw [e1] at hp;cases hp
   | some q=>
     obtain ⟨off,n⟩:=q;cases e2:c7 x with
     | none=>rw [e1,e2] at hp;cases hp
     | some ix=>
       cases e3:partsOf pl parts with
       | none=>rw [e1,e2,e3] at hp;cases hp
       | some rest=>
         rw [e1,e2,e3] at hp;injection hp with hp;subst hp;simp only [List.map_cons] at hfill ⊢;unfold jH at hfill;split at hfill
         . rename_i hc;obtain ⟨hfit,hle⟩:=hc;have hle:off+n<=cs.length:=hle;obtain ⟨hx,_⟩:=B8 hf e2;obtain ⟨hsz,hfl,hone⟩:=q25 hfit hx;have hlen:=qM hr;have hle':off+(a.eval x).cells.size<=vs.toArray.size:=by simp;omega
           have hset:=lS hr hfl off;have hones:∀ u∈(vs.take off++(a.eval x).cells.toList++vs.drop (off+(a.eval x).cells.toList.length)),u.oneCell'=true:=by
            intro u hu;simp only [List.mem_append] at hu;rcases hu with (hu | hu) | hu
            . exact h1 u (List.mem_of_mem_take hu)
            . exact hone u hu
            . exact h1 u (List.mem_of_mem_drop hu)
           obtain ⟨us,k1,k2,k3⟩:=ih hf e3 hset hones hfill;refine ⟨us,?_,k2,k3⟩;unfold Instr.fill;simp only [e1];have hno:(decide ((a.eval x).cells.size≠n)||decide (off+(a.eval x).cells.size > vs.toArray.size))=false:=by
            rw [hsz,List.size_toArray,Bool.or_eq_false_iff];exact ⟨by simp,decide_eq_false (by omega)⟩
           rw [hno];simp only [Bool.false_eq_true,if_false];have hfl2:=zj8 off (a.eval x).cells vs.toArray hle';have:(a.eval x).cells.zipIdx.foldl (fun cs (x:Value×Nat)=>cs.setIfInBounds (off+x.2) x.1) vs.toArray=(vs.take off++(a.eval x).cells.toList++vs.drop (off+(a.eval x).cells.toList.length)).toArray:=by
            apply Array.ext';rw [hfl2];simp
           rw [<-k1];congr 1
         . cases hfill
theorem j50 {t:TypeId} {parts:Array (Nat×Operand)} {fs:Array Field} {z:List HV} {pl:List (Nat×Nat)} {ips:List (Nat×Nat×Opd)} (ho:o.op=.build t parts) (hu:P.underlying t=some (.struct fs)) (hz:(zeroOf P t).bind (fun z=>jF z.cells.toList)=some z)
 (hpl:fs.toList.mapM (fun f=>(P.info? f.type).map fun i=>(f.offset,i.size))=some pl) (hp:partsOf (pl.toArray[·]?) parts.toList=some ips) (hs:RS fb N w F H m lb fr a) (hN:∀ d,o.dst=some d->d<N)
 {fr':Fr} {H':j6} (hd:x4 (.build z ips) o.dst fr H=some (fr',H')) (h:Next fb N w F H m fr' H' K):o.wp P a w K Q:=by
 unfold x4 at hd;dsimp only at hd;cases hf:jH z (ips.map fun p=>(p.1,p.2.1,fr.opd p.2.2)) with
 | none=>rw [hf] at hd;cases hd
 | some cs=>
   rw [hf] at hd;injection hd with hd;injection hd with q1 q2;subst q1;subst q2;cases hit:P.info? t with
   | none=>simp [zeroOf,hit] at hz
   | some it=>
     cases hzz:it.zero with
     | none=>simp [zeroOf,hit,hzz] at hz
     | some zv=>
       simp only [zeroOf,hit,hzz,Option.bind_some] at hz;obtain ⟨hr,hone⟩:=zc4 (w:=w) (F:=F) (H:=H) (m:=m) hz;obtain ⟨us,k1,k2,k3⟩:=q78 (pl.toArray[·]?) hs.fr hp hr hone hf;have hb:P.built t (parts.map fun (i,x)=>(i,a.eval x)).toList=some us.toArray:=by
        unfold Program.built;simp only [hit,hu,hzz,hpl];rw [<-k1];simp
       refine B0 hs hN (bA k2 k3) (sR _) h ?_;simp only [execOp,ho,Sem.run_bind,run_build (P:=P) w t _ _ hb,Result.andThen_ok,Sem.run_pure]
end
end Go.Proofs.Lz
namespace Go.Proofs.Lz
variable [GlobTab]
section
variable {P:Program} {fb N:Nat} {w:World} {F:Nat->Prop} {H:j6} {m:a7} {lb:Nat->Nat} {fr:Fr} {a:Act} {o:Oper}
variable {K:Act->World->Prop} {Q:Exit->Act->World->Prop}
theorem RHeap.same {w':World} {F':Nat->Prop} {m':a7} (h:RHeap w F H m) (g:Grows F F' H H m m' w w') (hm:∀ id,id<H.length->m' id=m id) (hb:∀ id,id<H.length->w'.heap[(m id).blk]?=w.heap[(m id).blk]?) (hsz:w.heap.size<=w'.heap.size)
 (hF:∀ b,F' b->F b\/(b<w'.heap.size/\∀ id,id<H.length->(m id).blk≠b)):RHeap w' F' H m':=by
 have hlt:∀ (id:Nat) (o:HO),H[id]?=some o->id<H.length:=fun id o ho=>(gEs ho).1;refine ⟨?_,?_,?_,?_,?_,h.glob.keep g.keeps,?_⟩
 . intro id o ho;rw [hm id (hlt id o ho)];exact Nat.lt_of_lt_of_le (h.there id o ho) hsz
 . intro b hb';rcases hF b hb' with h1 | h1
   . exact Nat.lt_of_lt_of_le (h.fthere b h1) hsz
   . exact h1.1
 . intro id ek cs ho;have hl:=hlt id _ ho;obtain ⟨h1,vs,e,h2,h3,h4⟩:=h.var id ek cs ho;rw [hm id hl];refine ⟨fun hf=>?_,vs,e,(hb id hl).trans h2,RHs.grow g cs vs h3,h4⟩;rcases hF _ hf with h5 | h5
   . exact h1 h5
   . exact h5.2 id hl rfl
 . intro id ek cs T ho hT;have hl:=hlt id _ ho;rw [hm id hl];exact (h.ty id ek cs T ho hT).imp fun vs k=>(hb id hl).trans k
 . intro id fz e ek ver xs ho;have hl:=hlt id _ ho;obtain ⟨vs,rest,h1,h2,h3,h4,h5,h6,h7⟩:=h.row id fz e ek ver xs ho;rw [hm id hl];refine ⟨vs,rest,h1.imp fun q k=>⟨(hb id hl).trans k.1,k.2⟩,RRow.keep g.keeps ek xs vs h2,h3,h4,h5,fun hf=>g.keeps.1 _ (h6 hf),fun hf hF'=>?_⟩;rcases hF _ hF' with h8 | h8
   . exact h7 hf h8
   . exact h8.2 id hl rfl
 . intro id id' h1 h2 he;rw [hm id h1,hm id' h2] at he;exact h.inj id id' h1 h2 he
theorem P9 (o:Obj):(w.alloc o).heap.size=w.heap.size+1:=by
 show (w.heap.push o).size=_;simp
theorem aF (hF:∀ b,F b->b<w.heap.size) (o:Obj):Keeps F F w (w.alloc o):=Keeps.of (fun _ h=>h) (fun b hb=>heap_alloc_old w o b (hF b hb))
theorem aZ (hF:∀ b,F b->b<w.heap.size) (o:Obj):Grows F F H H m m w (w.alloc o):=
 ⟨aF hF o,fun _ _ cs h=>⟨rfl,cs,h,rfl⟩,fun _ fz e ek ver xs h=>⟨fz,ver,xs,h,Nat.le_refl _,fun _=>⟨rfl,rfl⟩⟩⟩
theorem qh2 (hF:∀ b,F b->b<w.heap.size) (o:Obj):Stp w.heap.size F F H H m m w (w.alloc o):=
 ⟨aZ hF o,by rw [P9];omega,rfl,rfl,rfl,fun b hb hid=>⟨heap_alloc_old w o b hb,hid,id⟩⟩
theorem jd4 (h:RHeap w F H m) (o:Obj):RHeap (w.alloc o) F H m:=
 h.same (aZ h.fthere o) (fun _ _=>rfl) (fun id hid=>heap_alloc_old w o _ (by
  obtain ⟨o',ho'⟩:∃ o',H[id]?=some o':=⟨H[id],gEg hid⟩;exact h.there id o' ho')) (by rw [P9];omega) (fun b hb=>.inl hb)
theorem z03 {t:TypeId} {ek:Option Nat} {ix:Opd} {v:Value} (hrun:(execOp a.eval o).run P w=.ok (.value (.pointer (some ⟨w.heap.size,0,none⟩))) (w.alloc (.cells v.cells t (0,0)))) (hv:RH w F H m (fr.opd ix) v)
 (hs:RS fb N w F H m lb fr a) (hN:∀ d,o.dst=some d->d<N)
 {fr':Fr} {H':j6} (hd:x4 (.lbox ek ix) o.dst fr H=some (fr',H')) (h:Next fb N w F H m fr' H' K):o.wp P a w K Q:=by
 unfold x4 at hd;dsimp only at hd;cases hdst:o.dst with
 | none=>rw [hdst] at hd;cases hd
 | some d=>
   rw [hdst] at hd;dsimp only at hd;split at hd
   . rename_i hft;injection hd with hd;injection hd with q1 q2;subst q1;subst q2;unfold Oper.wp;rw [hrun];show K (a.put o.dst _) _;rw [hdst];have hst:=qh2 (H:=H) (m:=m) hs.heap.fthere (.cells v.cells t (0,0));have hfr:=hs.fr.step hst;have hdN:=hN d hdst;have hds:d<a.tmps.size:=Nat.lt_of_lt_of_le hdN hs.fr.size;refine h F m (upd lb d w.heap.size) _ _ (hst.mono hs.fb) ⟨jd4 hs.heap _,?_,by rw [P9];have:=hs.fb;omega⟩;refine ⟨by simpa [Act.put] using hs.fr.size,hs.fr.defers,?_,?_,?_⟩
     . intro t' ht';simp only [upd,Act.put] at ht' ⊢;rw [qJ];by_cases e:t'=d
       . rw [if_pos e] at ht';exact absurd rfl (ht' _ _)
       . rw [if_neg e] at ht' ⊢;rw [if_neg (fun q=>e q.1)];exact hfr.val t' ht'
     . intro t' ek' x hx;simp only [upd,Act.put] at hx ⊢;rw [qJ];by_cases e:t'=d
       . rw [if_pos e] at hx;injection hx with z1 z2;subst z1;subst z2;rw [if_pos ⟨e,hds⟩,if_pos e];obtain ⟨hsh,_,_⟩:=wT hft hv;refine ⟨rfl,hs.fb,by rw [P9];omega,fun hf=>Nat.lt_irrefl _ (hs.heap.fthere _ hf),?_,?_,hft,v,t,heap_alloc_new w _,hsh,RH.grow hst.g _ _ hv⟩
         . intro id hid hb;obtain ⟨o',ho'⟩:∃ o',H[id]?=some o':=⟨H[id],gEg hid⟩;have:=hs.heap.there id o' ho';omega
         . intro t'' ek'' x'' hx'' hl;by_cases e':t''=d
           . rw [e',e]
           . exfalso;rw [if_neg e'] at hx'' hl;have:=(hs.fr.box t'' ek'' x'' hx'').2.2.1;omega
       . rw [if_neg e] at hx ⊢;rw [if_neg (fun q=>e q.1)];obtain ⟨h1,h2,h3,h4,h5,h6,h7⟩:=hfr.box t' ek' x hx;refine ⟨h1,h2,h3,h4,h5,?_,h7⟩;intro t'' ek'' x'' hx'' hl;by_cases e':t''=d
         . exfalso;rw [if_pos e'] at hl;have:=(hs.fr.box t' ek' x hx).2.2.1;omega
         . rw [if_neg e'] at hx'' hl;exact h6 t'' ek'' x'' hx'' hl
     . intro t' b off hl ek' x hx;simp only [unlink,upd,Act.put] at hl hx ⊢;rw [qJ];by_cases e:t'=d
       . rw [if_pos e] at hl;cases hl
       . rw [if_neg e] at hl;rw [if_neg (fun q=>e q.1)];cases ha:fr.al t' with
         | none=>rw [ha] at hl;cases hl
         | some p=>
           obtain ⟨b',off'⟩:=p;rw [ha] at hl;dsimp only at hl;split at hl
           . cases hl
           . rename_i hbd;injection hl with hl;injection hl with q1 q2;subst q1;subst q2;rw [if_neg hbd] at hx ⊢;exact hs.fr.link t' b' off' ha ek' x hx
   . cases hd
theorem getElem?_append_new {α:Type} (l:List α) (x:α) (i:Nat) (y:α) (h:(l++[x])[i]?=some y):(l[i]?=some y/\i<l.length)\/(i=l.length/\y=x):=by
 by_cases hi:i<l.length
 . rw [List.getElem?_append_left hi] at h;exact .inl ⟨h,hi⟩
 . rw [List.getElem?_append_right (by omega)] at h;have hz:i - l.length=0:=by
    cases hq:i - l.length with
    | zero=>rfl
    | succ n=>rw [hq] at h;simp at h
   rw [hz] at h;simp at h;exact .inr ⟨by omega,h.symm⟩
theorem dI (hh:RHeap w F H m) (ob:Obj) (ho:HO) (cap:Nat):Stp w.heap.size F F H (H++[ho]) m (upd m H.length ⟨w.heap.size,cap⟩) w (w.alloc ob):=by
 have hold:∀ id,id<H.length->upd m H.length ⟨w.heap.size,cap⟩ id=m id:=fun id hid=>by simp [upd,Nat.ne_of_lt hid]
 refine ⟨⟨aF hh.fthere ob,?_,?_⟩,by rw [P9];omega,rfl,rfl,rfl,?_⟩
 . intro id ek cs hc;have hl:=(gEs hc).1;exact ⟨by rw [hold id hl],cs,by rw [List.getElem?_append_left hl];exact hc,rfl⟩
 . intro id fz e ek ver xs hc;have hl:=(gEs hc).1;exact ⟨fz,ver,xs,by rw [List.getElem?_append_left hl];exact hc,Nat.le_refl _,fun _=>⟨hold id hl,rfl⟩⟩
 . intro b hb hid;refine ⟨heap_alloc_old w ob b hb,?_,id⟩;intro id hl;rw [List.length_append,List.length_singleton] at hl;by_cases hi:id<H.length
   . rw [hold id hi];exact hid id hi
   . have:id=H.length:=by omega
     subst this;simp only [upd,if_true];omega
theorem sG (hh:RHeap w F H m) {vs:List Value} {e:Nat} {ho:HO} {cap:Nat}
 (hv:∀ ek cs,ho=.var ek cs->(RHs (w.alloc (.cells vs.toArray e (0,0))) F (H++[ho]) (upd m H.length ⟨w.heap.size,cap⟩) cs vs/\∀ u∈vs,u.oneCell'=true)/\∀ T,S6 ek=some T->e=T)
 (hr:∀ fz e' ek ver xs,ho=.row fz e' ek ver xs->fz=false/\e'=e/\∃ us rest:List Value,vs=us++rest/\RRow (w.alloc (.cells vs.toArray e (0,0))) F ek xs us/\us.length+rest.length=cap * g7 ek/\cap<=maxLen/\0<g7 ek) :
 RHeap (w.alloc (.cells vs.toArray e (0,0))) F (H++[ho]) (upd m H.length ⟨w.heap.size,cap⟩):=by
 have hold:∀ id,id<H.length->upd m H.length ⟨w.heap.size,cap⟩ id=m id:=fun id hid=>by simp [upd,Nat.ne_of_lt hid]
 have hnew:upd m H.length (⟨w.heap.size,cap⟩:Loc) H.length=⟨w.heap.size,cap⟩:=by simp [upd]
 have hst:=dI hh (.cells vs.toArray e (0,0)) ho cap;have hlt:∀ id,id<H.length->(m id).blk<w.heap.size:=fun id hid=>hh.there id H[id] (gEg hid);refine ⟨?_,?_,?_,?_,?_,hh.glob.keep hst.g.keeps,?_⟩
 . intro id o' ho';rcases getElem?_append_new H ho id o' ho' with ⟨h1,h2⟩ | ⟨h1,h2⟩
   . rw [hold id h2,P9];have:=hlt id h2;omega
   . subst h1;rw [hnew,P9];show w.heap.size<_;omega
 . intro b hb;rw [P9];have:=hh.fthere b hb;omega
 . intro id ek cs ho';rcases getElem?_append_new H ho id _ ho' with ⟨h1,h2⟩ | ⟨h1,h2⟩
   . obtain ⟨k1,vs',e',k2,k3,k4⟩:=hh.var id ek cs h1;rw [hold id h2];exact ⟨k1,vs',e',(heap_alloc_old w _ _ (hlt id h2)).trans k2,RHs.grow hst.g _ _ k3,k4⟩
   . subst h1;obtain ⟨⟨k1,k2⟩,_⟩:=hv ek cs h2.symm;rw [hnew];exact ⟨fun hf=>Nat.lt_irrefl _ (hh.fthere _ hf),vs,e,heap_alloc_new w _,k1,k2⟩
 . intro id ek cs T ho' hT;rcases getElem?_append_new H ho id _ ho' with ⟨h1,h2⟩ | ⟨h1,h2⟩
   . rw [hold id h2];exact (hh.ty id ek cs T h1 hT).imp fun vs k=>(heap_alloc_old w _ _ (hlt id h2)).trans k
   . subst h1;obtain ⟨_,k⟩:=hv ek cs h2.symm;cases k T hT;rw [hnew];exact ⟨_,heap_alloc_new w _⟩
 . intro id fz e' ek ver xs ho';rcases getElem?_append_new H ho id _ ho' with ⟨h1,h2⟩ | ⟨h1,h2⟩
   . obtain ⟨us,rest,k1,k2,k3,k4,k5,k6,k7⟩:=hh.row id fz e' ek ver xs h1;rw [hold id h2];exact ⟨us,rest,k1.imp fun q k=>⟨(heap_alloc_old w _ _ (hlt id h2)).trans k.1,k.2⟩,RRow.keep hst.g.keeps _ _ _ k2,k3,k4,k5,k6,k7⟩
   . subst h1;obtain ⟨k0,k1,us,rest,k2,k3,k4,k5,k6⟩:=hr fz e' ek ver xs h2.symm;subst k0;subst k1;subst k2;rw [hnew];exact ⟨us,rest,⟨_,heap_alloc_new w _,fun _=>rfl⟩,k3,k4,k5,k6,(fun hf=>by cases hf),fun _ hf=>Nat.lt_irrefl _ (hh.fthere _ hf)⟩
 . intro id id' h1 h2 he;rw [List.length_append,List.length_singleton] at h1 h2;by_cases hi:id<H.length
   . by_cases hi':id'<H.length
     . rw [hold id hi,hold id' hi'] at he;exact hh.inj id id' hi hi' he
     . have:id'=H.length:=by omega
       subst this;rw [hold id hi,hnew] at he;have:=hlt id hi;simp only at he;omega
   . have:id=H.length:=by omega
     subst this;by_cases hi':id'<H.length
     . rw [hold id' hi',hnew] at he;have:=hlt id' hi';simp only at he;omega
     . omega
theorem zo3 {t:TypeId} {ek:Option Nat} {ix:Opd} {v:Value} (hrun:(execOp a.eval o).run P w=.ok (.value (.pointer (some ⟨w.heap.size,0,none⟩))) (w.alloc (.cells v.cells t (0,0)))) (hv:RH w F H m (fr.opd ix) v)
 (hty:∀ T,S6 ek=some T->t=T) (hs:RS fb N w F H m lb fr a) (hN:∀ d,o.dst=some d->d<N)
 {fr':Fr} {H':j6} (hd:x4 (.hbox ek ix) o.dst fr H=some (fr',H')) (h:Next fb N w F H m fr' H' K):o.wp P a w K Q:=by
 unfold x4 at hd;dsimp only at hd;split at hd
 . rename_i hft;injection hd with hd;injection hd with q1 q2;subst q1;subst q2;obtain ⟨_,hfl,hone⟩:=wT hft hv;have hst:=dI hs.heap (.cells v.cells t (0,0)) (.var ek (fr.opd ix).flat) 0;have e:v.cells=v.cells.toList.toArray:=by simp
   have hh:=sG hs.heap (vs:=v.cells.toList) (e:=t) (ho:=.var ek (fr.opd ix).flat) (cap:=0) (fun ek' cs he=>by
    injection he with z1 z2;subst z2;rw [<-e];exact ⟨⟨RHs.grow hst.g _ _ hfl,hone⟩,by subst z1;exact hty⟩) (fun fz e' ek' ver xs he=>by cases he)
   rw [<-e] at hh;refine jY hs hN hst hh (u:=.pointer (some ⟨w.heap.size,0,none⟩)) ?_ (by simp) h hrun;unfold RH;refine ⟨by simp [upd],ek,(fr.opd ix).flat,by simp⟩
 . cases hd
theorem qa1 {t:TypeId} {ek:Option Nat} {ix:Opd} {v:Value} (hrun:(execOp a.eval o).run P w=.ok (.value (.pointer (some ⟨w.heap.size,0,none⟩))) (w.alloc (.cells v.cells t (0,0)))) (hv:RH w F H m (fr.opd ix) v)
 (hs:RS fb N w F H m lb fr a) (hN:∀ d,o.dst=some d->d<N)
 {fr':Fr} {H':j6} (hd:x4 (.fbox ek ix) o.dst fr H=some (fr',H')) (h:Next fb N w F H m fr' H' K):o.wp P a w K Q:=by
 unfold x4 at hd;dsimp only at hd;split at hd
 . rename_i x hx;split at hd
   . rename_i hft;injection hd with hd;injection hd with q1 q2;subst q1;subst q2;rw [hx,rh_c] at hv;obtain ⟨s1,s2,s3⟩:=xK hft hv;have hkeep:Keeps F (fun b=>F b\/b=w.heap.size) w (w.alloc (.cells v.cells t (0,0))):=Keeps.of (fun b hb=>.inl hb) (fun b hb=>heap_alloc_old w _ b (hs.heap.fthere b hb));have hg:Grows F (fun b=>F b\/b=w.heap.size) H H m m w (w.alloc (.cells v.cells t (0,0))):=
      ⟨hkeep,fun _ _ cs h=>⟨rfl,cs,h,rfl⟩,fun _ fz e ek ver xs h=>⟨fz,ver,xs,h,Nat.le_refl _,fun _=>⟨rfl,rfl⟩⟩⟩
     have hlt:∀ j,j<H.length->(m j).blk<w.heap.size:=fun j hj=>hs.heap.there j H[j] (gEg hj);have hh2:RHeap (w.alloc (.cells v.cells t (0,0))) (fun b=>F b\/b=w.heap.size) H m:=
      hs.heap.same hg (fun _ _=>rfl) (fun id hid=>heap_alloc_old w _ _ (hlt id hid)) (by rw [P9];omega) (fun b hb=>by
       rcases hb with hb | hb
       . exact .inl hb
       . subst hb;exact .inr ⟨by rw [P9];omega,fun id hid=>Nat.ne_of_lt (hlt id hid)⟩)
     have st:Stp w.heap.size F (fun b=>F b\/b=w.heap.size) H H m m w (w.alloc (.cells v.cells t (0,0))):=
      ⟨hg,by rw [P9];omega,rfl,rfl,rfl,fun b hb hid=>⟨heap_alloc_old w _ b hb,hid,fun hf=>by
       rcases hf with hf | hf
       . exact hf
       . omega⟩⟩
     refine jY hs hN st hh2 ?_ (by simp) h hrun;rw [rh_c];unfold RC;refine ⟨w.heap.size,0,v,rfl,.inr rfl,s1,?_,RC.keep hkeep _ _ hv⟩;exact Y8 (e:=t) (fz:=(0,0)) (rest:=[]) (by simpa using heap_alloc_new w (.cells v.cells t (0,0)))
   . cases hd
 . cases hd
end
end Go.Proofs.Lz
