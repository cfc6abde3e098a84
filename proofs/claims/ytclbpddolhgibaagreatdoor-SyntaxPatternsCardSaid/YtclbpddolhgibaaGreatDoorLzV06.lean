/- Chapter 06: two environments: one for the example, in which everything is reckoned; one for the laws, in which the example is told. -/
import Derived.Test.YtclbpddolhgibaaGreatDoorLzVc2
import Derived.Shelf.Small.Strs
import Derived.Shelf.Strings.LastIndex
import Derived.Shelf.Strings.OnBuilder
import Derived.Shelf.Strings.Repeat
import Derived.Shelf.Strings.Shaped
import Derived.Test.YtclbpddolhgibaaGreatDoorProg
import Derived.Test.YtclbpddolhgibaaGreatDoorLzExt2
import Derived.Test.YtclbpddolhgibaaGreatDoorLzCode06
import Derived.Test.YtclbpddolhgibaaGreatDoorLzWCode
set_option linter.unusedSimpArgs false
set_option linter.unusedVariables false
namespace Go.Proofs.Lz
section
variable {V:WEnv} {fr fr':WFr} {H H':q8} {N:C9} {B:Hs} {R:RP} {dst:Option Nat} {d:Nat}
def sX:WV->Bool
 | .view p _ _ _ _ _=>!L0 p
 | .eptr p _ _ _ _=>!L0 p
 | _=>true
def pE:WV->Bool
 | .agg cs=>cs.all sX
 | v=>sX v
def zp3:WV->Bool
 | .tup vs=>vs.all pE
 | .lbox _ v=>pE v
 | v=>pE v
def z30:List (Nat×WV)->Bool
 | []=>true
 | (_,v)::r=>zp3 v&&z30 r
structure Shr (V:WEnv) (f:Nat) (asv:List WV) (H:q8) (r:WV) (Q:q8->Prop):Prop where
 run:∃ H',wv V f asv H=some (r,H')/\Q H'
theorem shut_bool {r0:WV} {b:Bool} (h:shut r0=some (.c (.bool b))):r0=.c (.bool b):=by
 cases r0 with
 | c v=>simpa [shut,Q0,shut1,f9] using h
 | agg cs=>simp only [shut,Q0] at h;cases hl:qT cs<;>rw [hl] at h<;>simp at h
 | tup vs=>simp only [shut] at h;cases hl:U7 vs<;>rw [hl] at h<;>simp at h
 | _=>simp [shut,Q0,shut1,f9] at h
theorem zd1 {f:Nat} {asv:List WV} {b:Bool} (h:Rets V f asv (.c (.bool b))):∃ H',wv V f asv []=some (.c (.bool b),H'):=by
 obtain ⟨r0,H,h1,h2⟩:=h;exact ⟨H,by rw [h1,shut_bool h2]⟩
theorem wp_goto {l:Nat} (h:R.go l fr H):WP V (.goto l) fr H N B R:=⟨.goto l,fr,H,rfl,h⟩
theorem wp_label {l:Nat} (h:N fr H):WP V (.label l) fr H N B R:=⟨.nrm,fr,H,rfl,h⟩
theorem zf5 {f:Nat} {xs:List CV} {u:CV} {g:List CV->Option (List CV)} (hf:V.fn f=none) (he:V.ext f=some g) (hg:g xs=some [u]):Rets V f (xs.map .c) (.c u):=by
 have hfn:V.fnA f (xs.map WV.c).length=none:=by
  simp only [WEnv.fnA,hf,zG];split
  . rfl
  . split<;>rfl
 have hcl:∀ l:List CV,o9 (l.map WV.c)=some l:=by
  intro l;induction l with
  | nil=>rfl
  | cons x l ih=>simp only [List.map_cons,o9,ih]
 refine ⟨.c u,[],?_,rfl⟩;rw [sV,wFn,hfn];simp only [vF,he,hcl,hg];rfl
end
section
variable {fr:WFr} {H:q8}
end
end Go.Proofs.Lz
namespace Go.Proofs.Lz
section
variable {V:WEnv} {fr fr':WFr} {H:q8} {N:C9} {dst:Option Nat} {d:Nat}
theorem zu7 {us:List WV} (hs:F6 us=[]) (ho:us.map i7=us):Lz.take (.agg us) fr H=some (.agg us,fr,H):=by
 simp [Lz.take,x3,c9,hs,G9,b9,j3,ho]
theorem rV {ek:Option Nat} {x:Opd} {us:List WV} (hx:fr.rd x=.agg us) (hf:fitsW ek (.agg us)=true) (hs:F6 us=[]) (ho:us.map i7=us) (hb:Boxed fr d ek (.agg us) fr') (h:N fr' H):OpP V (.lbox ek x) (some d) fr H N:=
 ⟨fr',H,by show j1 (.lbox ek x) (some d) fr H=_;simp only [j1,hx,if_pos hf,zu7 hs ho,hb.eq],h⟩
end
end Go.Proofs.Lz
namespace Go.Proofs
open Go.Shelf Tryz
def Tryz.rLays_n105:Go.Shelf.Ren:=⟨fun | 105=>165 | 212=>187 | 99=>188 | 165=>88 | 166=>89 | 170=>189 | 169=>90 | 263=>217 | 264=>218 | 206=>219 | 240=>119 | 241=>120 | 276=>154 | 277=>155 | n=>n,fun | 9=>9 | 3=>3 | 4=>4 | 20=>20 | 0=>0 | 46=>210 | 109=>218 | 5=>5 | 72=>149 | 76=>152 | 51=>244 | 146=>245 | 53=>224 | 148=>247 | 70=>146 | 37=>147 | 75=>151 | 127=>171 | 164=>196 | 80=>63 | n=>n,fun | n=>n⟩
theorem Tryz.lLays_n105:Lays.n105 Tryz.prog Tryz.rLays_n105:={
 mixed:=by kernel_rfl
 f99:=func188.trans (congrArg some (by kernel_rfl))
 f105:=func165.trans (congrArg some (by kernel_rfl))
 f165:=func88.trans (congrArg some (by kernel_rfl))
 f166:=func89.trans (congrArg some (by kernel_rfl))
 f169:=func90.trans (congrArg some (by kernel_rfl))
 f170:=func189.trans (congrArg some (by kernel_rfl))
 f206:=func219.trans (congrArg some (by kernel_rfl))
 f212:=func187.trans (congrArg some (by kernel_rfl))
 f240:=func119.trans (congrArg some (by kernel_rfl))
 f241:=func120.trans (congrArg some (by kernel_rfl))
 f263:=func217.trans (congrArg some (by kernel_rfl))
 f264:=func218.trans (congrArg some (by kernel_rfl))
 f276:=func154.trans (congrArg some (by kernel_rfl))
 f277:=func155.trans (congrArg some (by kernel_rfl))
 t0:=underlying0
 a0:=isAgg0
 z0:=sizeOf0
 v0:=zeroValue0
 t3:=underlying3
 a3:=isAgg3
 z3:=sizeOf3
 v3:=zeroValue3
 t4:=underlying4
 a4:=isAgg4
 z4:=sizeOf4
 v4:=zeroValue4
 t5:=underlying5
 a5:=isAgg5
 z5:=sizeOf5
 v5:=zeroValue5
 t9:=underlying9
 a9:=isAgg9
 z9:=sizeOf9
 v9:=zeroValue9
 t20:=underlying20
 a20:=isAgg20
 z20:=sizeOf20
 v20:=zeroValue20
 t37:=underlying147
 a37:=isAgg147
 z37:=sizeOf147
 v37:=zeroValue147
 t46:=underlying210
 a46:=isAgg210
 z46:=sizeOf210
 v46:=zeroValue210
 t51:=underlying244
 a51:=isAgg244
 z51:=sizeOf244
 v51:=zeroValue244
 t53:=underlying224
 a53:=isAgg224
 z53:=sizeOf224
 v53:=zeroValue224
 t70:=underlying146
 a70:=isAgg146
 z70:=sizeOf146
 v70:=zeroValue146
 t72:=underlying149
 a72:=isAgg149
 z72:=sizeOf149
 v72:=zeroValue149
 t75:=underlying151
 a75:=isAgg151
 z75:=sizeOf151
 v75:=zeroValue151
 t76:=underlying152
 a76:=isAgg152
 z76:=sizeOf152
 v76:=zeroValue152
 t109:=underlying218
 a109:=isAgg218
 z109:=sizeOf218
 v109:=zeroValue218
 t127:=underlying171
 a127:=isAgg171
 z127:=sizeOf171
 v127:=zeroValue171
 t146:=underlying245
 a146:=isAgg245
 z146:=sizeOf245
 v146:=zeroValue245
 t148:=underlying247
 a148:=isAgg247
 z148:=sizeOf247
 v148:=zeroValue247
 t164:=underlying196
 a164:=isAgg196
 z164:=sizeOf196
 v164:=zeroValue196 }
def Tryz.rLays_n149:Go.Shelf.Ren:=⟨fun | 149=>166 | 222=>190 | n=>n,fun | 9=>9 | 5=>5 | 3=>3 | 4=>4 | n=>n,fun | n=>n⟩
theorem Tryz.lLays_n149:Lays.n149 Tryz.prog Tryz.rLays_n149:={
 mixed:=by kernel_rfl
 f149:=func166.trans (congrArg some (by kernel_rfl))
 f222:=func190.trans (congrArg some (by kernel_rfl))
 t3:=underlying3
 a3:=isAgg3
 z3:=sizeOf3
 v3:=zeroValue3
 t4:=underlying4
 a4:=isAgg4
 z4:=sizeOf4
 v4:=zeroValue4
 t5:=underlying5
 a5:=isAgg5
 z5:=sizeOf5
 v5:=zeroValue5
 t9:=underlying9
 a9:=isAgg9
 z9:=sizeOf9
 v9:=zeroValue9 }
def Tryz.rLays_n137:Go.Shelf.Ren:=⟨fun | 137=>226 | 217=>240 | 266=>250 | n=>n,fun | 9=>9 | 5=>5 | 3=>3 | n=>n,fun | n=>n⟩
theorem Tryz.lLays_n137:Lays.n137 Tryz.prog Tryz.rLays_n137:={
 mixed:=by kernel_rfl
 f137:=func226.trans (congrArg some (by kernel_rfl))
 f217:=func240.trans (congrArg some (by kernel_rfl))
 f266:=func250.trans (congrArg some (by kernel_rfl))
 t3:=underlying3
 a3:=isAgg3
 z3:=sizeOf3
 v3:=zeroValue3
 t5:=underlying5
 a5:=isAgg5
 z5:=sizeOf5
 v5:=zeroValue5
 t9:=underlying9
 a9:=isAgg9
 z9:=sizeOf9
 v9:=zeroValue9 }
def Tryz.rLaysM_n145:Go.Shelf.Ren:=⟨fun | 145=>169 | 220=>194 | 219=>225 | 217=>240 | 225=>241 | 224=>242 | 267=>243 | 266=>250 | 314=>251 | n=>n,fun | 9=>9 | 4=>4 | 59=>179 | 3=>3 | 5=>5 | 46=>210 | 146=>245 | 51=>244 | n=>n,fun | 1=>0 | n=>n⟩
theorem Tryz.lLaysM_n145:LaysM.n145 Tryz.prog Tryz.rLaysM_n145:={
 mixed:=by kernel_rfl
 f145:=func169.trans (congrArg some (by kernel_rfl))
 f217:=func240.trans (congrArg some (by kernel_rfl))
 f219:=func225.trans (congrArg some (by kernel_rfl))
 f220:=func194.trans (congrArg some (by kernel_rfl))
 f224:=func242.trans (congrArg some (by kernel_rfl))
 f225:=func241.trans (congrArg some (by kernel_rfl))
 f266:=func250.trans (congrArg some (by kernel_rfl))
 f267:=func243.trans (congrArg some (by kernel_rfl))
 f314:=func251.trans (congrArg some (by kernel_rfl))
 t3:=underlying3
 a3:=isAgg3
 z3:=sizeOf3
 v3:=zeroValue3
 t4:=underlying4
 a4:=isAgg4
 z4:=sizeOf4
 v4:=zeroValue4
 t5:=underlying5
 a5:=isAgg5
 z5:=sizeOf5
 v5:=zeroValue5
 t9:=underlying9
 a9:=isAgg9
 z9:=sizeOf9
 v9:=zeroValue9
 t46:=underlying210
 a46:=isAgg210
 z46:=sizeOf210
 v46:=zeroValue210
 t51:=underlying244
 a51:=isAgg244
 z51:=sizeOf244
 v51:=zeroValue244
 t59:=underlying179
 a59:=isAgg179
 z59:=sizeOf179
 v59:=zeroValue179
 t146:=underlying245
 a146:=isAgg245
 z146:=sizeOf245
 v146:=zeroValue245
 g1:=by kernel_rfl
 i3:=by kernel_rfl
 i4:=by kernel_rfl
 i5:=by kernel_rfl
 i9:=by kernel_rfl
 i46:=by kernel_rfl
 i51:=by kernel_rfl
 i59:=by kernel_rfl
 i146:=by kernel_rfl
 m1:=by kernel_rfl
 s1_3:=fun w h=>Go.Proofs.cell_of_shapedOpen_int (zero:=#[.int .i64 0]) (t:=3) h (of_decide_eq_true (by kernel_rfl)) (by kernel_rfl) rfl (by kernel_rfl) (by kernel_rfl) Tryz.underlying3 }
def Tryz.rLays_n156:Go.Shelf.Ren:=⟨fun | 156=>46 | 165=>88 | 166=>89 | 169=>90 | 240=>119 | 241=>120 | 276=>154 | 277=>155 | n=>n,fun | 31=>24 | 9=>9 | 3=>3 | 4=>4 | 0=>0 | 20=>20 | 72=>149 | 76=>152 | 70=>146 | 37=>147 | 75=>151 | 127=>171 | 164=>196 | 5=>5 | 80=>63 | n=>n,fun | n=>n⟩
theorem Tryz.lLays_n156:Lays.n156 Tryz.prog Tryz.rLays_n156:={
 mixed:=by kernel_rfl
 f156:=func46.trans (congrArg some (by kernel_rfl))
 f165:=func88.trans (congrArg some (by kernel_rfl))
 f166:=func89.trans (congrArg some (by kernel_rfl))
 f169:=func90.trans (congrArg some (by kernel_rfl))
 f240:=func119.trans (congrArg some (by kernel_rfl))
 f241:=func120.trans (congrArg some (by kernel_rfl))
 f276:=func154.trans (congrArg some (by kernel_rfl))
 f277:=func155.trans (congrArg some (by kernel_rfl))
 t0:=underlying0
 a0:=isAgg0
 z0:=sizeOf0
 v0:=zeroValue0
 t3:=underlying3
 a3:=isAgg3
 z3:=sizeOf3
 v3:=zeroValue3
 t4:=underlying4
 a4:=isAgg4
 z4:=sizeOf4
 v4:=zeroValue4
 t9:=underlying9
 a9:=isAgg9
 z9:=sizeOf9
 v9:=zeroValue9
 t20:=underlying20
 a20:=isAgg20
 z20:=sizeOf20
 v20:=zeroValue20
 t31:=underlying24
 a31:=isAgg24
 z31:=sizeOf24
 v31:=zeroValue24
 t37:=underlying147
 a37:=isAgg147
 z37:=sizeOf147
 v37:=zeroValue147
 t70:=underlying146
 a70:=isAgg146
 z70:=sizeOf146
 v70:=zeroValue146
 t72:=underlying149
 a72:=isAgg149
 z72:=sizeOf149
 v72:=zeroValue149
 t75:=underlying151
 a75:=isAgg151
 z75:=sizeOf151
 v75:=zeroValue151
 t76:=underlying152
 a76:=isAgg152
 z76:=sizeOf152
 v76:=zeroValue152
 t127:=underlying171
 a127:=isAgg171
 z127:=sizeOf171
 v127:=zeroValue171
 t164:=underlying196
 a164:=isAgg196
 z164:=sizeOf196
 v164:=zeroValue196 }
end Go.Proofs
set_option linter.unusedSectionVars false
namespace Go.Proofs.Lz
open Go.Shelf
variable [GlobTab]
section
variable {P:Program} {ρ:Ren} {f:Nat} {w:World} {F:Nat->Prop}
def strsOf:List CV->Option (List (List UInt8))
 | []=>some []
 | .str s::r=>match strsOf r with
   | some l=>some (s::l)
   | none=>none
 | _=>none
def bQ:List CV->Option (List CV)
 | [.frz none xs,.str sep]=>match strsOf xs with
   | some l=>if l.length<=140737488355328/\(Lib.join l sep).length<=140737488355328 then some [.str (Lib.join l sep)] else none
   | none=>none
 | _=>none
theorem z02:∀ {xs:List CV} {l:List (List UInt8)} {vs:List Value},strsOf xs=some l->RRow w F none xs vs->xs.length=l.length/\vs=l.map fun s=>.string ⟨s.toArray⟩:=by
 intro xs;induction xs with
 | nil=>
   intro l vs h hr;simp only [strsOf,Option.some.injEq] at h;subst h;unfold RRow at hr;subst hr;exact ⟨rfl,rfl⟩
 | cons x xs ih=>
   intro l vs h hr;cases x with
   | str s=>
     simp only [strsOf] at h;split at h
     . rename_i l' hl;injection h with h;subst h;unfold RRow at hr;obtain ⟨v,us,rfl,h1,h2,h3⟩:=hr;obtain ⟨e1,e2⟩:=ih hl h3;rw [a6] at h2;subst h2;exact ⟨by simp [e1],by rw [e2];simp [Value.cells]⟩
     . cases h
   | _=>simp [strsOf] at h
theorem zw8 (L:Lays.n156 P ρ) (X:Builder.Extra P ρ) (hf:ρ.f 156=f) (hen:∀ args w,(callFunc f args).run P w=.ok (.enter f args) w):U9 P f bQ:=by
 subst hf;intro xs us h w F vs hF hG hr;unfold bQ at h;split at h
 . rename_i ys sep;split at h
   . rename_i l hl;split at h
     . rename_i hc;injection h with h;subst h;obtain ⟨u,v,rfl,h1,h2⟩:=jX hr;rw [a6] at h2;subst h2;unfold RC at h1;obtain ⟨a,cap,rfl,hcap,hne⟩:=h1;have hmm:(l.map fun s=>(⟨s.toArray⟩:ByteArray)).map (·.data.toList)=l:=by
        rw [List.map_map];conv=>rhs;rw [<-List.map_id l]
        exact List.map_congr_left fun s _=>by simp
       refine told (us:=[]) (v:=.string ⟨(Lib.join l sep).toArray⟩) (fun w'=>by rw [a6]) hF hen ?_;by_cases hy:ys=[]
       . subst hy;simp only [strsOf,Option.some.injEq] at hl;subst hl;refine (Any.strings_Join_none L X a cap ⟨sep.toArray⟩ w).mono ?_;rintro e w' ⟨rfl,rfl⟩;exact ⟨rfl,RowKit.Below.refl _ _⟩
       . obtain ⟨b,off,vs',rfl,hb,hrange,hrow⟩:=hne hy;obtain ⟨e1,e2⟩:=z02 hl hrow;have hj:=Any.strings_Join L X b off cap (l.map fun s=>(⟨s.toArray⟩:ByteArray)) ⟨sep.toArray⟩ w (by
          intro j x hx;refine hrange j _ ?_;rw [e2,List.getElem?_map];rw [List.getElem?_map] at hx;cases hq:l[j]? with
          | none=>rw [hq] at hx;cases hx
          | some s=>rw [hq] at hx;injection hx with hx;subst hx;rfl) (hF b hb) (by simpa using hc.1) (by simp;omega) (by rw [hmm,qH];exact hc.2)
         rw [hmm,qH] at hj;have el:(l.map fun s=>(⟨s.toArray⟩:ByteArray)).length=ys.length:=by simp [e1]
         rw [el] at hj;exact hj.mono fun e w' h=>h
     . cases h
   . cases h
 . cases h
def uL (u:CV):List CV->Option (List CV)
 | []=>some [u]
 | _=>none
theorem zk3 {E:Env} (hE:EnvOk P E) {n:Nat} {u:CV} {H':q7} (h:evF E n f [] []=some (.c u,H')):U9 P f (uL u):=by
 intro xs us hg w F vs hF hG hr;unfold uL at hg;split at hg
 . injection hg with hg;subst hg;rw [rcs_nil] at hr;subst hr;obtain ⟨h1,h2⟩:=aS hE n f [] [] (.c u) H' h w F (fun _=>⟨0,0⟩) [] (kL _ hF hG) (rhs_nil.2 rfl);refine ⟨h1,h2.mono ?_⟩;rintro e w' ⟨v,F',m',he,st,hh,hv,_⟩;rw [rh_c] at hv;refine ⟨[v],he,⟨st.os,st.tape,st.output,st.size,fun b hb=>(st.far b hb (fun id h=>by simp at h)).1⟩,F',fun b hb=>?_,rcs_cons.2 ⟨v,[],rfl,hv,rcs_nil.2 rfl⟩⟩;by_cases hlt:b<w.heap.size
   . exact .inl ((st.far b hlt (fun id h=>by simp at h)).2.2 hb)
   . exact .inr ⟨by omega,hh.fthere b hb⟩
 . cases hg
end
end Go.Proofs.Lz
namespace Go.Proofs.TryzL
open Go.Proofs.Lz Go.Shelf
instance:GlobTab:=⟨[(0,fun vs=>∃ m:Int,vs=[.int .i64 m])]⟩
def gW:Nat->Option (List CV->Option (List CV))
 | 46=>some bQ
 | 165=>some kC
 | 166=>some uW
 | 169=>some uV
 | 226=>some pQ
 | _=>none
def mdX:Nat->Md:=mdL [18,19,20,21,31,32,33,35,37,38,39,40,41,43,44,45,47,48,49,50,51,52,53,54,55,56,57,58,59,60,64,65,67,70,72,74,76,81,82,83,84,86,87,92,93,94,95,97,99,101,102,109,113,114,116,117,118,122,124,125,133,140,141,142,143,144,145,146,147,148,149,150,152,153,156,158,160,164,177,178,181,182,184,185,186,203,204,205,206,207,208,210,211,232,233]
noncomputable def Ex:Env:={ fn:=fun f=>match gW f with
 | some _=>none
 | none=>(Tryz.prog.funcs[f]?).bind (wR Tryz.prog mdX),md:=mdX,ext:=gW }
theorem zo0:Builder.Extra Tryz.prog Tryz.rLays_n105 where
 sizeBuilder:=by kernel_rfl
 liesBuilder:=by kernel_rfl
 t5:=Tryz.underlying5
 a5:=Tryz.isAgg5
 z5:=Tryz.sizeOf5
 v5:=Tryz.zeroValue5
 infoByte:=by kernel_rfl
 cellsByte:=by kernel_rfl
 sizeByte:=by kernel_rfl
 neB5:=by decide
theorem ze3:Builder.Extra Tryz.prog Tryz.rLays_n156 where
 sizeBuilder:=by kernel_rfl
 liesBuilder:=by kernel_rfl
 t5:=Tryz.underlying5
 a5:=Tryz.isAgg5
 z5:=Tryz.sizeOf5
 v5:=Tryz.zeroValue5
 infoByte:=by kernel_rfl
 cellsByte:=by kernel_rfl
 sizeByte:=by kernel_rfl
 neB5:=by decide
theorem z28:∀ args w,(callFunc 46 args).run Tryz.prog w=.ok (.enter 46 args) w:=enters_of Tryz.func46 (by kernel_rfl) rfl
theorem zm3:∀ args w,(callFunc 165 args).run Tryz.prog w=.ok (.enter 165 args) w:=enters_of Tryz.func165 (by kernel_rfl) rfl
theorem z61:∀ args w,(callFunc 166 args).run Tryz.prog w=.ok (.enter 166 args) w:=enters_of Tryz.func166 (by kernel_rfl) rfl
theorem z01:∀ args w,(callFunc 169 args).run Tryz.prog w=.ok (.enter 169 args) w:=enters_of Tryz.func169 (by kernel_rfl) rfl
theorem zc0:∀ args w,(callFunc 226 args).run Tryz.prog w=.ok (.enter 226 args) w:=enters_of Tryz.func226 (by kernel_rfl) rfl
theorem gl0 (w:World) (F:Nat->Prop) (h:Glob w F):∃ m:Int,w.cell? ⟨0,0,none⟩=some (.int .i64 m):=by
 obtain ⟨vs,_,h2,m,rfl⟩:=aY (g:=0) (p:=fun vs=>∃ m:Int,vs=[.int .i64 m]) (by simp [GlobTab.tab]) h;exact ⟨m,h2 0⟩
theorem oK:Lays.n145 Tryz.prog Tryz.rLaysM_n145:={ Tryz.lLaysM_n145 with }
theorem zd3:EnvOk Tryz.prog Ex where
 fn:=by
  intro f g h;simp only [Ex] at h;split at h
  . cases h
  . exact .inl (Option.bind_eq_some_iff.1 h)
 ext:=by
  intro f g h;simp only [Ex,gW] at h;split at h<;>first
   | (cases h;done)
   | (injection h with h;subst h;first
       | exact zy8 Tryz.lLays_n137 rfl zc0
       | exact zo2 Tryz.lLays_n105 zo0 rfl zm3
       | exact zn7 Tryz.lLays_n149 rfl z61
       | exact zg9 oK rfl z01 gl0
       | exact zw8 Tryz.lLays_n156 ze3 rfl z28)
def bR:Option (HV×q7)->Bool
 | some (.c (.bool true),_)=>true
 | _=>false
theorem zl8 {o:Option (HV×q7)} (h:bR o=true):∃ H',o=some (.c (.bool true),H'):=by
 unfold bR at h;split at h
 . exact ⟨_,rfl⟩
 . cases h
theorem eJ:bR (evF Ex 40 5 [] [])=true:=by kernel_rfl
def uP:Nat->Option (List CV->Option (List CV))
 | 5=>some (uL (.bool true))
 | _=>none
def Ev:Env:={ fn:=fnT,md:=mds,ext:=uP }
theorem z42:EnvOk Tryz.prog Ev where
 fn:=fun f g h=>.inl (Option.bind_eq_some_iff.1 (zy4 f g h))
 ext:=by
  intro f g h;simp only [Ev,uP] at h;split at h
  . injection h with h;subst h;obtain ⟨H',he⟩:=zl8 eJ;exact zk3 zd3 he
  . cases h
def Vv:WEnv:={ fn:=fnT,md:=mds,tk:=fun _=>[],ext:=uP }
theorem iH:EnvR Vv Ev:=⟨rfl,rfl,rfl,rfl⟩
theorem eM:Vv.fn 3=some ic3:=rfl
theorem zg4:Vv.fn 4=some ic4:=rfl
theorem zx2:Vv.fn 6=some ic6:=rfl
theorem z96:Vv.fn 7=some ic7:=rfl
theorem zc8:Vv.fn 8=some ic8:=rfl
theorem zt3:Vv.fn 9=some ic9:=rfl
theorem zo1:Vv.fn 13=some dV:=rfl
theorem zq3:Vv.fn 14=some mN:=rfl
theorem za2:Vv.fn 15=some dC:=rfl
theorem oL:Vv.fn 16=some tN:=rfl
theorem z99:Vv.fn 17=some nX:=rfl
theorem iC:Vv.fn 23=some cF:=rfl
theorem zz5:Vv.fn 24=some sO:=rfl
theorem zu1:Vv.fn 25=some nV:=rfl
theorem zh1:Vv.fn 26=some aD:=rfl
theorem zj0:Vv.fn 27=some dL:=rfl
theorem zg8:Vv.fn 28=some aN:=rfl
end Go.Proofs.TryzL
