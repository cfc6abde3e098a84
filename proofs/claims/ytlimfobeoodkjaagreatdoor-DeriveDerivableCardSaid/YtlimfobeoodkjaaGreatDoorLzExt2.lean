/- Library functions told by the kit's proved contracts: Itoa, Atoi, Cut. -/
import Derived.Test.YtlimfobeoodkjaaGreatDoorLzCode
import Derived.Shelf.Small.Strs
import Derived.Shelf.Strings.Prefix
import Derived.Shelf.Strings.Trim
import Derived.Shelf.Strings.Repeat
import Derived.Shelf.Strings.LastIndex
import Derived.Shelf.Strings.Search3
import Derived.Shelf.Strconv.AtoiAll
import Derived.Shelf.Strconv.Itoa3
import Derived.Shelf.Strings.Shaped
set_option linter.unusedVariables false
set_option linter.unusedSimpArgs false
set_option linter.unusedSectionVars false
namespace Go.Proofs.Lz
variable [GlobTab]
def J0:List Value->Value
 | [v]=>v
 | us=>.tuple us.toArray
def K7 (P:Program) (f:Nat) (g:List CV->Option (List CV)):Prop:=∀ xs us,g xs=some us->∀ (w:World) (F:Nat->Prop) (vs:List Value),(∀ b,F b->b<w.heap.size)->Glob w F->RCs w F xs vs ->
 (callFunc f vs.toArray).run P w=.ok (.enter f vs.toArray) w/\Calls P f vs.toArray w (fun e w'=>∃ rs:List Value,e=.returned (J0 rs)/\RowKit.Below w.heap.size w w'/\∃ F':Nat->Prop,(∀ b,F' b->F b\/(w.heap.size<=b/\b<w'.heap.size))/\RCs w' F' us rs)
def q25 (P:Program) (E:Env) (f:Nat):Prop:=∀ (call:j8) (it:Run->Run) (args:List HV) (H:q7) (r:HV) (H':q7),(E.fnA f args.length).isSome=true->Q1 E call it f args H=some (r,H')->wA P f H args r H'
structure EnvOk (P:Program) (E:Env):Prop where
 fn:∀ f g,E.fn f=some g->(∃ fn,P.funcs[f]?=some fn/\qI P E.md fn=some g)\/q25 P E f
 ext:∀ f g,E.ext f=some g->K7 P f g
section
variable {P:Program} {fb N:Nat} {w:World} {F:Nat->Prop} {H:q7} {m:j7} {lb:Nat->Nat} {fr:Fr} {a:Act}
def U6 (tmps:Array Value):ResultVar->Sem Value
 | .tmp t=>pure (tmps.getD t undef)
 | .cell x t=>do loadVar t (<- asAddr (tmps.getD x undef))
theorem q26 (rs:RS fb N w F H m lb fr a):∀ {l:List ResultVar} {irs:List IRes} {hvs:List HV},V6 P l=some irs->B8 fr H irs=some hvs ->
 ∃ us:List Value,(l.mapM (U6 a.tmps)).run P w=.ok us w/\RHs w F H m hvs us/\∀ v∈hvs,∀ ek x,v≠.lbox ek x:=by
 intro l;induction l with
 | nil=>
   intro irs hvs hc hr;simp [V6] at hc;subst hc;simp [B8] at hr;subst hr;exact ⟨[],by simp,rhs_nil.2 rfl,by simp⟩
 | cons r l ih=>
   intro irs hvs hc hr;cases r with
   | tmp t=>
     simp only [V6,Option.map_eq_some_iff] at hc;obtain ⟨irs',h1,rfl⟩:=hc;unfold B8 at hr;cases h2:B8 fr H irs' with
     | none=>rw [h2] at hr;cases hr
     | some hvs'=>
       rw [h2] at hr;injection hr with hr;subst hr;obtain ⟨us,k1,k2,k3⟩:=ih h1 h2;obtain ⟨h3,h4⟩:=j9 rs.fr (x:=.tmp t) (ix:=.t t) rfl;refine ⟨a.tmps.getD t undef::us,?_,rhs_cons.2 ⟨_,_,rfl,h3,k2⟩,?_⟩
       . simp only [List.mapM_cons,U6,Sem.run_bind,Sem.run_pure,Result.andThen_ok,k1]
       . intro v hv;rcases List.mem_cons.1 hv with rfl | hv
         . exact h4
         . exact k3 v hv
   | cell x t=>
     unfold V6 at hc;cases h0:x5 P t with
     | none=>rw [h0] at hc;cases hc
     | some ek=>
       cases h1:V6 P l with
       | none=>rw [h0,h1] at hc;cases hc
       | some irs'=>
         rw [h0,h1] at hc;injection hc with hc;subst hc;unfold B8 at hr;have main:∀ (y:HV) (v:Value) (b off:Nat),a.tmps.getD x undef=.pointer (some ⟨b,off,none⟩)->RH w F H m y v->Shape ek v->w.rangeAt b off v.cells.toList->(∀ ek' z,y≠.lbox ek' z) ->
          (∀ hvs',B8 fr H irs'=some hvs'->hvs=y::hvs'->∃ us:List Value,((ResultVar.cell x t::l).mapM (U6 a.tmps)).run P w=.ok us w/\RHs w F H m hvs us/\∀ v∈hvs,∀ ek x,v≠.lbox ek x):=by
          intro y v b off hp hy hs hrg hb hvs' h2 e;subst e;obtain ⟨us,k1,k2,k3⟩:=ih h1 h2;refine ⟨v::us,?_,rhs_cons.2 ⟨_,_,rfl,hy,k2⟩,?_⟩
          . simp only [List.mapM_cons,U6,Sem.run_bind,hp,asAddr,Sem.run_pure,Result.andThen_ok,run_load h0 hs hrg,k1]
          . intro v' hv;rcases List.mem_cons.1 hv with rfl | hv
            . exact hb
            . exact k3 v' hv
         cases he:fr.env x with
         | lbox ek' y=>
           rw [he] at hr;dsimp only at hr;by_cases hek:ek'=ek
           . rw [if_pos hek] at hr;subst hek;cases h2:B8 fr H irs' with
             | none=>rw [h2] at hr;cases hr
             | some hvs'=>
               rw [h2] at hr;injection hr with hr;obtain ⟨p1,_,_,_,_,_,hft,v,e,p7,p8,p9⟩:=rs.fr.box x ek' y he;have hnb:∀ e x,y≠.lbox e x:=by intro e x hh;subst hh;cases ek'<;>simp [s5] at hft
               exact main y v (lb x) 0 p1 p9 p8 (P8 (rest:=[]) (by simpa using p7)) hnb hvs' h2 hr.symm
           . rw [if_neg hek] at hr;cases h2:B8 fr H irs'<;>rw [h2] at hr<;>cases hr
         | _=>
           rw [he] at hr;dsimp only at hr;cases hl:m9 ek _ H with
           | none=>rw [hl] at hr;cases hr
           | some y=>
             rw [hl] at hr;cases h2:B8 fr H irs' with
             | none=>rw [h2] at hr;cases hr
             | some hvs'=>
               rw [h2] at hr;injection hr with hr;have hv:=rs.fr.val x (by rw [he];simp);rw [he] at hv;obtain ⟨b,off,v,e1,e2,e3,e4,e5⟩:=cM rs.heap hv hl;exact main y v b off e1 e2 e3 e4 e5 hvs' h2 hr.symm
theorem aR:∀ (args:List HV) (i t:Nat),t8 (binds i args) t=if i<=t then (args[t - i]?).getD .undef else .undef:=by
 intro args;induction args with
 | nil=>intro i t;simp [binds,t8]
 | cons v args ih=>
   intro i t;simp only [binds,t8];by_cases h:t=i
   . subst h;simp
   . rw [if_neg h,ih];by_cases h2:i<=t
     . rw [if_pos (by omega),if_pos h2];have:t - i=(t - (i+1))+1:=by omega
       rw [this,List.getElem?_cons_succ]
     . rw [if_neg (by omega),if_neg h2]
theorem zx0 {ntmps:Nat} (hh:RHeap w F H m) {args:List HV} {vs:List Value} (ha:RHs w F H m args vs):RS w.heap.size ntmps w F H m (fun _=>0) { env:=t8 (binds 0 args),al:=x6 } { tmps:=vs.toArray++Array.replicate (ntmps - vs.toArray.size) undef,defers:=[] }:=by
 have hnb:∀ (t:Nat) (v:HV),args[t]?=some v->∀ ek x,v≠.lbox ek x:=by
  intro t v hv ek x e;obtain ⟨u,_,hu⟩:=jK ha hv;subst e;unfold RH at hu;exact hu
 refine ⟨hh,⟨by simp;omega,rfl,?_,?_,fun t b off h=>by simp [x6] at h⟩,Nat.le_refl _⟩
 . intro t ht;simp only [aR,Nat.zero_le,if_true,Nat.sub_zero] at ht ⊢;cases hv:args[t]? with
   | none=>simp only [Option.getD_none];unfold RH;exact trivial
   | some v=>
     obtain ⟨u,hu,hr⟩:=jK ha hv;simp only [Option.getD_some];have hlt:=(gEs hu).1;have:(vs.toArray++Array.replicate (ntmps - vs.toArray.size) undef).getD t undef=u:=by
      rw [Array.getD_eq_getD_getElem?,Array.getElem?_append_left (by simpa using hlt),List.getElem?_toArray,hu];rfl
     rw [this];exact hr
 . intro t ek x hx;simp only [aR,Nat.zero_le,if_true,Nat.sub_zero] at hx;cases hv:args[t]? with
   | none=>rw [hv] at hx;cases hx
   | some v=>rw [hv] at hx;exact absurd hx (hnb t v hv ek x)
theorem zo2 {fn:Func} {us:List Value} (h:(fn.results.toList.mapM (U6 a.tmps)).run P w=.ok us w):(results fn a.tmps).run P w=.ok (J0 us) w:=by
 have e:results fn a.tmps=(do
  let vs <- fn.results.mapM (U6 a.tmps)
  pure (if h:vs.size=1 then vs[0] else .tuple vs)):=by
  unfold results;congr 1
 have e2:fn.results.mapM (U6 a.tmps)=List.toArray <$> fn.results.toList.mapM (U6 a.tmps):=by
  rw [<-List.mapM_toArray]
 rw [e,e2];simp only [Sem.run_bind,Sem.run_map,h,Result.andThen_ok];cases us with
 | nil=>simp [J0]
 | cons v us=>
   cases us with
   | nil=>simp [J0]
   | cons u us=>simp [J0]
end
theorem zd4:∀ {args:List HV} {xs:List CV},d6 args=some xs->args=xs.map .c:=by
 intro args;induction args with
 | nil=>intro xs h;simp [d6] at h;subst h;rfl
 | cons a args ih=>
   intro xs h;cases a with
   | c v=>
     simp only [d6] at h;cases hc:d6 args with
     | none=>rw [hc] at h;cases h
     | some l=>rw [hc] at h;injection h with h;subst h;rw [ih hc];rfl
   | _=>cases h
theorem eY {w:World} {F:Nat->Prop} {H:q7} {m:j7}:∀ {xs:List CV} {vs:List Value},RHs w F H m (xs.map .c) vs->RCs w F xs vs:=by
 intro xs;induction xs with
 | nil=>intro vs h;rw [List.map_nil,rhs_nil] at h;rw [rcs_nil];exact h
 | cons x xs ih=>
   intro vs h;rw [List.map_cons,rhs_cons] at h;obtain ⟨v,us,rfl,h1,h2⟩:=h;rw [rcs_cons];exact ⟨v,us,rfl,rh_c.1 h1,ih h2⟩
theorem iG {P:Program} {f:Nat} {o:Option (List CV->Option (List CV))} (ho:∀ g,o=some g->K7 P f g) {args:List HV} {H:q7} {r:HV} {H':q7} (h:wB args H o=some (r,H')):wA P f H args r H':=by
 unfold wB at h;split at h
 . cases h
 . rename_i g;split at h
   . rename_i xs hxs;split at h
     . rename_i us hus;injection h with h;injection h with z1 z2;subst z1;subst z2;intro w F m vs hh ha;rw [zd4 hxs] at ha;obtain ⟨h1,h2⟩:=ho g rfl xs us hus w F vs hh.fthere hh.glob (eY ha);refine ⟨h1,h2.mono ?_⟩;rintro e w' ⟨rs,rfl,hb,F',hF',hr⟩;have st:Stp w.heap.size F F [] [] m m w w':=
        ⟨⟨Keeps.of (fun _ h=>h) (fun b hb'=>hb.block b (hh.fthere b hb')),fun id _ _ h=>by simp at h,fun id _ _ _ _ _ h=>by simp at h,fun id _ _ h=>by simp at h⟩,hb.size,hb.os,hb.tape,hb.output,fun b hlt h=>⟨hb.block b hlt,h,id⟩⟩
       obtain ⟨k1,k2⟩:=xX hh st;refine ⟨J0 rs,_,m,rfl,k2,k1,?_,?_⟩
       . have hr':RCs w' (fun b=>F b\/(w.heap.size<=b/\b<w'.heap.size)) us rs:=RCs.keep (Keeps.of hF' fun _ _=>rfl) us rs hr;have hrh:=zN (H:=H) (m:=m) hr';cases us with
         | nil=>rw [rcs_nil] at hr';subst hr';simp only [List.map_nil,oneOf,J0];unfold RH;exact ⟨[],rfl,rhs_nil.2 rfl⟩
         | cons u us=>
           cases us with
           | nil=>
             rw [rcs_cons] at hr';obtain ⟨v,vs',rfl,k3,k4⟩:=hr';rw [rcs_nil] at k4;subst k4;exact rh_c.2 k3
           | cons u2 us=>
             have hl:=R9 hr';match rs,hl with
             | v::v2::rs',_=>simp only [List.map_cons,oneOf,J0];unfold RH;exact ⟨_,rfl,hrh⟩
       . cases us with
         | nil=>simp [oneOf]
         | cons u us=>cases us with
           | nil=>simp [oneOf]
           | cons u2 us=>simp [oneOf]
     . cases h
   . cases h
theorem bF {P:Program} {E:Env} (hE:EnvOk P E):∀ n,O0 P (evF E n):=by
 intro n;induction n with
 | zero=>intro f args H r H' h;cases h
 | succ n ih=>
   intro f args H r H' h w F m vs hh ha;unfold evF at h;have h0:=h;unfold Q1 at h;cases hf:E.fnA f args.length with
   | none=>
     rw [hf] at h;dsimp only at h;exact iG (fun g hg=>hE.ext f g hg) h w F m vs hh ha
   | some g=>
     rw [hf] at h;dsimp only at h;rcases hE.fn f g (zv1 hf).1 with ⟨fn,hfn,hcomp⟩ | hand
     case inr=>exact hand _ _ _ _ _ _ (by rw [hf];rfl) h0 w F m vs hh ha
     unfold qI at hcomp;cases hb:fn.body with
     | none=>rw [hb] at hcomp;cases hcomp
     | some c=>
       rw [hb] at hcomp;dsimp only at hcomp;split at hcomp
       . cases hcomp
       . rename_i hnm;rw [Bool.not_eq_true,Bool.or_eq_false_iff] at hnm;obtain ⟨hname,hdst⟩:=hnm;split at hcomp
         . rename_i ib ir h1 h2;injection hcomp with hcomp;subst hcomp;have hd:∀ o∈Code.opers c,∀ d,o.dst=some d->d<fn.ntmps:=by
            intro o ho d hod;simp only [Bool.not_eq_false',List.all_eq_true] at hdst;have:=hdst o ho;rw [hod] at this;simpa using this
           refine ⟨?_,?_⟩
           . simp [callFunc,hfn,hname,hb];simpa using hname
           . refine calls_of_wp hfn hb ?_;cases he:evC E (evF E n) (itF n) ib { env:=t8 (binds 0 args),al:=x6 } H with
             | none=>rw [he] at h;cases h
             | some p=>
               obtain ⟨e,fr',H2⟩:=p;rw [he] at h;refine za4 (P:=P) (N:=fn.ntmps) ih n c _ _ _ ib h1 hd w.heap.size _ fr' H H2 e he F m (fun _=>0) _ w (bodyPost P fn _) (zx0 hh ha) ?_;intro F' m' lb' a' w' st rs;have fin:∀ hvs,B8 fr' H2 ir=some hvs->r=oneOf hvs->H2=H'->a'.defers=[]/\∃ v,(results fn a'.tmps).run P w'=.ok v w'/\∃ v' F'' m'',Ending.returned v=.returned v'/\Stp w.heap.size F F'' H H' m m'' w w'/\RHeap w' F'' H' m''/\RH w' F'' H' m'' r v'/\∀ ek x,r≠.lbox ek x:=by
                intro hvs hr er eH;subst eH;obtain ⟨us,k1,k2,k3⟩:=q26 rs h2 hr;refine ⟨rs.fr.defers,_,zo2 k1,_,F',m',rfl,st,rs.heap,?_,?_⟩
                . subst er;cases hvs with
                  | nil=>rw [rhs_nil] at k2;subst k2;simp only [oneOf,J0];unfold RH;exact ⟨[],rfl,rhs_nil.2 rfl⟩
                  | cons v hvs=>
                    have k2':=k2;rw [rhs_cons] at k2;obtain ⟨u,us',rfl,k4,k5⟩:=k2;cases hvs with
                    | nil=>rw [rhs_nil] at k5;subst k5;exact k4
                    | cons v2 hvs=>
                      have hl:=Q6 k5;cases us' with
                      | nil=>simp at hl
                      | cons u2 us2=>simp only [oneOf,J0];unfold RH;exact ⟨_,rfl,k2'⟩
                . subst er;cases hvs with
                  | nil=>simp [oneOf]
                  | cons v hvs=>cases hvs with
                    | nil=>exact k3 v List.mem_cons_self
                    | cons v2 hvs=>simp [oneOf]
               cases e with
               | nrm=>
                 dsimp only at h;cases hr:B8 fr' H2 ir with
                 | none=>rw [hr] at h;cases h
                 | some hvs=>
                   rw [hr] at h;injection h with h;injection h with z1 z2;exact fin hvs hr z1.symm z2
               | ret=>
                 dsimp only at h;cases hr:B8 fr' H2 ir with
                 | none=>rw [hr] at h;cases h
                 | some hvs=>
                   rw [hr] at h;injection h with h;injection h with z1 z2;exact fin hvs hr z1.symm z2
               | exit i=>cases h
               | goto l=>cases h
         . cases hcomp
end Go.Proofs.Lz
namespace Go.Proofs.Lz
open Go.Shelf
variable [GlobTab]
section
variable {P:Program} {ρ:Ren} {f:Nat} {w:World} {F:Nat->Prop}
theorem U0 (s:List UInt8):(⟨s.toArray⟩:ByteArray).data.toList=s:=by simp
theorem qL {a b:CV} {vs:List Value} (h:RCs w F [a,b] vs):∃ u v,vs=[u,v]/\RC w F a u/\RC w F b v:=by
 rw [rcs_cons] at h;obtain ⟨u,us,rfl,h1,h⟩:=h;rw [rcs_cons] at h;obtain ⟨v,us,rfl,h2,h⟩:=h;rw [rcs_nil] at h;subst h;exact ⟨u,v,rfl,h1,h2⟩
theorem told {us:List CV} {u:CV} {v:Value} {vs:List Value} (hv:∀ w':World,RC w' F u v) (hF:∀ b,F b->b<w.heap.size) (hen:∀ args w,(callFunc f args).run P w=.ok (.enter f args) w)
 (hc:Calls P f vs.toArray w fun e w'=>e=.returned v/\RowKit.Below w.heap.size w w') :
 (callFunc f vs.toArray).run P w=.ok (.enter f vs.toArray) w/\Calls P f vs.toArray w (fun e w'=>∃ rs:List Value,e=.returned (J0 rs)/\RowKit.Below w.heap.size w w'/\∃ F':Nat->Prop,(∀ b,F' b->F b\/(w.heap.size<=b/\b<w'.heap.size))/\RCs w' F' [u] rs):=
 ⟨hen _ _,hc.mono fun e w' h=>⟨[v],h.1,h.2,F,fun b hb=>.inl hb,rcs_cons.2 ⟨v,[],rfl,hv w',rcs_nil.2 rfl⟩⟩⟩
def qC:List CV->Option (List CV)
 | [.str s,.int .u8 c]=>some [.int .i64 (Lib.indexByte s c.toNat.toUInt8)]
 | _=>none
theorem lJ (L:Lays.n137 P ρ) (hf:ρ.f 137=f) (hen:∀ args w,(callFunc f args).run P w=.ok (.enter f args) w):K7 P f qC:=by
 subst hf;intro xs us h w F vs hF hG hr;unfold qC at h;split at h
 . rename_i s c;injection h with h;subst h;obtain ⟨u,v,rfl,h1,h2⟩:=qL hr;rw [a6] at h1;rw [m7] at h2;subst h1;subst h2;refine told (us:=[]) (v:=.int .i64 (Lib.indexByte s c.toNat.toUInt8)) (fun w'=>by rw [m7]) hF hen ?_;refine (Any.strings_IndexByte L ⟨s.toArray⟩ c w).mono ?_;rintro e w' ⟨rfl,rfl⟩;rw [U0];exact ⟨rfl,RowKit.Below.refl _ _⟩
 . cases h
def kG:List CV->Option (List CV)
 | [.str s,.str p]=>some [.bool (p.isPrefixOf s)]
 | _=>none
theorem z29 (L:Lays.n99 P ρ) (hf:ρ.f 99=f) (hen:∀ args w,(callFunc f args).run P w=.ok (.enter f args) w):K7 P f kG:=by
 subst hf;intro xs us h w F vs hF hG hr;unfold kG at h;split at h
 . rename_i s c;injection h with h;subst h;obtain ⟨u,v,rfl,h1,h2⟩:=qL hr;rw [a6] at h1 h2;subst h1;subst h2;refine told (us:=[]) (v:=.bool (c.isPrefixOf s)) (fun w'=>by rw [rc_bool]) hF hen ?_;refine (Any.strings_HasPrefix L ⟨s.toArray⟩ ⟨c.toArray⟩ w).mono ?_;rintro e w' ⟨rfl,rfl⟩;rw [U0,U0];exact ⟨rfl,RowKit.Below.refl _ _⟩
 . cases h
def kK:List CV->Option (List CV)
 | [.str s,.int .i64 n]=>if 0<=n/\n<=9223372036854775807/\s.length * n.toNat<=140737488355328 then some [.str (Lib.repeatL s n.toNat)] else none
 | _=>none
theorem zp3 (L:Lays.n105 P ρ) (X:Builder.Extra P ρ) (hf:ρ.f 105=f) (hen:∀ args w,(callFunc f args).run P w=.ok (.enter f args) w):K7 P f kK:=by
 subst hf;intro xs us h w F vs hF hG hr;unfold kK at h;split at h
 . rename_i s n;split at h
   . rename_i hc;injection h with h;subst h;obtain ⟨u,v,rfl,h1,h2⟩:=qL hr;rw [a6] at h1;rw [m7] at h2;subst h1;subst h2;have hn:((n.toNat:Nat):Int)=n:=by omega
     refine told (us:=[]) (v:=.string ⟨(Lib.repeatL s n.toNat).toArray⟩) (fun w'=>by rw [a6]) hF hen ?_;have:=Any.strings_Repeat L X ⟨s.toArray⟩ n.toNat w (by omega) (by simpa [ByteArray.size] using hc.2.2);rw [hn,U0] at this;exact this
   . cases h
 . cases h
def gQ:List CV->Option (List CV)
 | [.str s,.int .u8 c]=>if s.length<4611686018427387904 then some [.int .i64 (Lib.lastIndexByte ⟨s.toArray⟩ c)] else none
 | _=>none
theorem z67 (L:Lays.n149 P ρ) (hf:ρ.f 149=f) (hen:∀ args w,(callFunc f args).run P w=.ok (.enter f args) w):K7 P f gQ:=by
 subst hf;intro xs us h w F vs hF hG hr;unfold gQ at h;split at h
 . rename_i s c;split at h
   . rename_i hc;injection h with h;subst h;obtain ⟨u,v,rfl,h1,h2⟩:=qL hr;rw [a6] at h1;rw [m7] at h2;subst h1;subst h2;refine told (us:=[]) (v:=.int .i64 (Lib.lastIndexByte ⟨s.toArray⟩ c)) (fun w'=>by rw [m7]) hF hen ?_;refine (Any.strings_LastIndexByte L ⟨s.toArray⟩ c (by simpa [ByteArray.size] using hc) w).mono ?_;rintro e w' ⟨rfl,rfl⟩;exact ⟨rfl,RowKit.Below.refl _ _⟩
   . cases h
 . cases h
end
end Go.Proofs.Lz
namespace Go.Proofs.Lz
open Go.Shelf Go.Sort
variable [GlobTab]
section
variable {P:Program} {ρ:Ren} {f:Nat} {w:World} {F:Nat->Prop}
theorem tY {a:CV} {vs:List Value} (h:RCs w F [a] vs):∃ u,vs=[u]/\RC w F a u:=by
 rw [rcs_cons] at h;obtain ⟨u,us,rfl,h1,h⟩:=h;rw [rcs_nil] at h;subst h;exact ⟨u,rfl,h1⟩
theorem zk8 (w:World) (k:Nat) (os:Array Obj):RowKit.Below w.heap.size w (grow (w.drewN k) os):=
 ⟨rfl,rfl,rfl,by simp [grow,World.drewN],fun j hj=>by
  simp only [grow,World.drewN];rw [Array.getElem?_append_left hj]⟩
theorem zt3 (w:World) (k:Nat):RowKit.Below w.heap.size w (w.drewN k):=⟨rfl,rfl,rfl,Nat.le_refl _,fun _ _=>rfl⟩
theorem zz2 {us:List CV} {vs:List Value} (hen:∀ args w,(callFunc f args).run P w=.ok (.enter f args) w)
 (hF:∀ b,F b->b<w.heap.size)
 (hc:Calls P f vs.toArray w fun e w'=>∃ rs:List Value,e=.returned (J0 rs)/\RowKit.Below w.heap.size w w'/\RCs w' F us rs) :
 (callFunc f vs.toArray).run P w=.ok (.enter f vs.toArray) w/\Calls P f vs.toArray w (fun e w'=>∃ rs:List Value,e=.returned (J0 rs)/\RowKit.Below w.heap.size w w'/\∃ F':Nat->Prop,(∀ b,F' b->F b\/(w.heap.size<=b/\b<w'.heap.size))/\RCs w' F' us rs):=
 ⟨hen _ _,hc.mono fun e w' ⟨rs,h1,h2,h3⟩=>⟨rs,h1,h2,F,fun b hb=>.inl hb,h3⟩⟩
def uD:List CV->Option (List CV)
 | [.int .i64 n]=>if -9223372036854775808<=n/\n<=9223372036854775807 then some [.str (Lib.itoa n)] else none
 | _=>none
theorem zt9 (L:LaysM.n171 P ρ) (hf:ρ.f 171=f) (hen:∀ args w,(callFunc f args).run P w=.ok (.enter f args) w)
 (hT:∀ (w:World) (F:Nat->Prop),Glob w F->Lib.TabIs P w "internal/strconv.uint64pow10" .u64 Lib.pow10Tab):K7 P f uD:=by
 subst hf;intro xs us h w F vs hF hG hr;unfold uD at h;split at h
 . rename_i n;split at h
   . rename_i hn;injection h with h;subst h;obtain ⟨u,rfl,h1⟩:=tY hr;rw [m7] at h1;subst h1;refine told (us:=[]) (v:=.string ⟨(Lib.itoa n).toArray⟩) (fun w'=>by rw [a6]) hF hen ?_;refine (Any.strconv_Itoa L n hn.1 hn.2 w (hT w F hG)).mono ?_;rintro e w' ⟨rfl,k,os,rfl⟩;exact ⟨rfl,zk8 w k os⟩
   . cases h
 . cases h
def qQ:List CV->Option (List CV)
 | [.str s,.str p]=>if s.length<4294967281 then some [.str (Lib.cut s p).1,.str (Lib.cut s p).2.1,.bool (Lib.cut s p).2.2] else none
 | _=>none
theorem mU (L:Lays.n145 P ρ) (hf:ρ.f 145=f) (hen:∀ args w,(callFunc f args).run P w=.ok (.enter f args) w)
 (h1g:∀ (w:World) (F:Nat->Prop),Glob w F->∃ m:Int,w.cell? ⟨(ρ.g 1),0,none⟩=some (.int .i64 m)):K7 P f qQ:=by
 subst hf;intro xs us h w F vs hF hG hr;unfold qQ at h;split at h
 . rename_i s p;split at h
   . rename_i hn;injection h with h;subst h;obtain ⟨u,v,rfl,h1,h2⟩:=qL hr;rw [a6] at h1 h2;subst h1;subst h2;obtain ⟨m,hm⟩:=h1g w F hG;refine zz2 hen hF ?_;refine (Any.strings_Cut L ⟨s.toArray⟩ ⟨p.toArray⟩ m w (by simpa [ByteArray.size] using hn) hm).mono ?_;rw [U0,U0];rintro e w' ⟨rfl,n,rfl⟩;refine ⟨[.string ⟨(Lib.cut s p).1.toArray⟩,.string ⟨(Lib.cut s p).2.1.toArray⟩,.bool (Lib.cut s p).2.2],rfl,zt3 w n,?_⟩;rw [rcs_cons];refine ⟨_,_,rfl,by rw [a6],?_⟩;rw [rcs_cons];refine ⟨_,_,rfl,by rw [a6],?_⟩;rw [rcs_cons];exact ⟨_,_,rfl,by rw [rc_bool],rcs_nil.2 rfl⟩
   . cases h
 . cases h
theorem fO {g:Nat} {p:List Value->Prop} (h:(g,p)∈GlobTab.tab) (hG:Glob w F):∃ vs,vs≠[]/\(∀ off,w.cell? ⟨g,off,none⟩=vs[off]?)/\p vs:=(hG _ h).2
theorem zn8 {g:Nat} {p:List Value->Prop} {name:String} (h:(g,p)∈GlobTab.tab) (hn:P.globalNamed name=some g) (hG:Glob w F):∃ vs,p vs/\w.var? P name=some vs.toArray:=by
 obtain ⟨vs,h1,h2,h3⟩:=fO h hG;obtain ⟨t,q,hb⟩:=nX h1 h2;exact ⟨vs,h3,by simp [World.var?,hn,hb]⟩
end
end Go.Proofs.Lz
