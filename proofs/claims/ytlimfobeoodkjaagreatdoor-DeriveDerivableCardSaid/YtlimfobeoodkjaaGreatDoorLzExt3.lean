/- strings.Join told; a call that was reckoned in another environment, told. -/
import Derived.Test.YtlimfobeoodkjaaGreatDoorLzVc2
import Derived.Shelf.Small.Strs
import Derived.Shelf.Strconv.Atoi
import Derived.Shelf.Strconv.Itoa3
import Derived.Shelf.Strings.LastIndex
import Derived.Shelf.Strings.OnBuilder
import Derived.Shelf.Strings.Prefix
import Derived.Shelf.Strings.Repeat
import Derived.Shelf.Strings.Shaped
import Derived.Test.YtlimfobeoodkjaaGreatDoorProg
import Derived.Test.YtlimfobeoodkjaaGreatDoorLzExt2
set_option linter.unusedSimpArgs false
set_option linter.unusedVariables false
namespace Go.Proofs.Lz
section
variable {V:WEnv} {fr fr':WFr} {H H':q8} {N:D2} {B:Hs} {R:RP} {dst:Option Nat} {d:Nat}
def sY:WV->Bool
 | .view p _ _ _ _ _=>!L8 p
 | .eptr p _ _ _ _=>!L8 p
 | _=>true
def gG:WV->Bool
 | .agg cs=>cs.all sY
 | v=>sY v
def fY:WV->Bool
 | .tup vs=>vs.all gG
 | .lbox _ v=>gG v
 | v=>gG v
def iF:List (Nat×WV)->Bool
 | []=>true
 | (_,v)::r=>fY v&&iF r
structure Shr (V:WEnv) (f:Nat) (asv:List WV) (H:q8) (r:WV) (Q:q8->Prop):Prop where
 run:∃ H',wv V f asv H=some (r,H')/\Q H'
theorem shut_bool {r0:WV} {b:Bool} (h:shut r0=some (.c (.bool b))):r0=.c (.bool b):=by
 cases r0 with
 | c v=>simpa [shut,O3,shut1,e9] using h
 | agg cs=>simp only [shut,O3] at h;cases hl:zF cs<;>rw [hl] at h<;>simp at h
 | tup vs=>simp only [shut] at h;cases hl:O8 vs<;>rw [hl] at h<;>simp at h
 | _=>simp [shut,O3,shut1,e9] at h
theorem zj8 {f:Nat} {asv:List WV} {b:Bool} (h:Rets V f asv (.c (.bool b))):∃ H',wv V f asv []=some (.c (.bool b),H'):=by
 obtain ⟨r0,H,h1,h2⟩:=h;exact ⟨H,by rw [h1,shut_bool h2]⟩
theorem wp_goto {l:Nat} (h:R.go l fr H):WP V (.goto l) fr H N B R:=⟨.goto l,fr,H,rfl,h⟩
theorem mJ {l:Nat} (h:N fr H):WP V (.label l) fr H N B R:=⟨.nrm,fr,H,rfl,h⟩
theorem nF {σ:Type} {l:Nat} {live:List Nat} {body rest:ICode} (K:σ->List (Nat×WV)) (P:σ->q8->Prop) (μ:σ->Nat)
 (hbody:WP V body fr H N B ⟨R.ret,fun l' fr' H'=>l'=l/\∃ s,KpL live fr' live (K s)/\P s H'⟩)
 (hb:∀ s H,P s H->WP V rest (FL (K s) []) H N B ⟨R.ret,fun l' fr' H'=>l'=l/\∃ s',KpL live fr' live (K s')/\P s' H'/\μ s'<μ s⟩):WP V (.scope l live body rest) fr H N B R:=by
 have turn:∀ n s fr H,μ s<n->KpL live fr live (K s)->P s H->∃ x fr' H',U3 l (witW (fun fr H=>E5 l (wC V (wv V) witW rest (f7 live fr) H)) fr H)=some (x,fr',H')/\vK N B R x fr' H':=by
  intro n;induction n with
  | zero=>intro s fr H h;omega
  | succ n ih=>
    intro s fr H hn hk hp;obtain ⟨x,fr1,H1,g1,g2⟩:=hb s H hp;rw [dE,kT hk,g1];cases x with
    | nrm=>exact ⟨.nrm,fr1,H1,by simp only [E5,U3,if_true],g2⟩
    | ret=>exact ⟨.ret,fr1,H1,rfl,g2⟩
    | exit i=>exact ⟨.exit i,fr1,H1,rfl,g2⟩
    | goto l'=>
      obtain ⟨rfl,s',k1,k2,k3⟩:=g2;simp only [E5,if_true];exact ih s' fr1 H1 (by omega) k1 k2
 obtain ⟨x,fr1,H1,g1,g2⟩:=hbody;have e:wC V (wv V) witW (.scope l live body rest) fr H=match wC V (wv V) witW body fr H with
  | some (.goto l',fr',H')=>if l'=l then U3 l (witW (fun fr H=>E5 l (wC V (wv V) witW rest (f7 live fr) H)) fr' H') else none
  | r=>r:=rfl
 cases x with
 | nrm=>exact ⟨.nrm,fr1,H1,by rw [e,g1],g2⟩
 | ret=>exact ⟨.ret,fr1,H1,by rw [e,g1],g2⟩
 | exit i=>exact ⟨.exit i,fr1,H1,by rw [e,g1],g2⟩
 | goto l'=>
   obtain ⟨rfl,s,k1,k2⟩:=g2;obtain ⟨y,fr2,H2,m1,m2⟩:=turn (μ s+1) s fr1 H1 (by omega) k1 k2;exact ⟨y,fr2,H2,by rw [e,g1];simp only [if_true];exact m1,m2⟩
theorem aV {f:Nat} {xs:List CV} {u:CV} {g:List CV->Option (List CV)} (hf:V.fn f=none) (he:V.ext f=some g) (hg:g xs=some [u]):Rets V f (xs.map .c) (.c u):=by
 have hfn:V.fnA f (xs.map WV.c).length=none:=by
  simp only [WEnv.fnA,hf,Z2];split
  . rfl
  . split<;>rfl
 have hcl:∀ l:List CV,B7 (l.map WV.c)=some l:=by
  intro l;induction l with
  | nil=>rfl
  | cons x l ih=>simp only [List.map_cons,B7,ih]
 refine ⟨.c u,[],?_,rfl⟩;rw [uS,wFn,hfn];simp only [wQ,he,hcl,hg];rfl
theorem zy6 {f:Nat} {xs us:List CV} {g:List CV->Option (List CV)} (hf:V.fn f=none) (he:V.ext f=some g) (hg:g xs=some us) (hn:us.length≠1):Rets V f (xs.map .c) (.tup (us.map .c)):=by
 have hfn:V.fnA f (xs.map WV.c).length=none:=by
  simp only [WEnv.fnA,hf,Z2];split
  . rfl
  . split<;>rfl
 have hcl:∀ l:List CV,B7 (l.map WV.c)=some l:=by
  intro l;induction l with
  | nil=>rfl
  | cons x l ih=>simp only [List.map_cons,B7,ih]
 have ht:∀ l:List CV,O8 (l.map WV.c)=some (l.map WV.c):=by
  intro l;induction l with
  | nil=>rfl
  | cons x l ih=>simp only [List.map_cons,O8,shut1,O3,e9,ih]
 have e:f4 (us.map WV.c)=.tup (us.map .c):=by
  match us,hn with
  | [],_=>rfl
  | [a],hn=>exact absurd rfl hn
  | a::b::l,_=>rfl
 refine ⟨.tup (us.map .c),[],?_,?_⟩
 . rw [uS,wFn,hfn];simp only [wQ,he,hcl,hg,e]
 . simp only [shut,ht,Option.map_some]
end
section
variable {fr:WFr} {H:q8}
theorem dR {r1 r2:IRes} {u v:CV} {r:WV} (h1:ShI fr r1 u) (h2:ShI fr r2 v) (hd:([r1,r2].map IRes.at).Nodup) (e:r=.tup [.c u,.c v]):fin [r1,r2] r fr H:=by
 subst e;exact pL hd (.cons h1 (.cons h2 .nil))
theorem dO {r1 r2 r3:IRes} {u v w:CV} {r:WV} (h1:ShI fr r1 u) (h2:ShI fr r2 v) (h3:ShI fr r3 w) (hd:([r1,r2,r3].map IRes.at).Nodup) (e:r=.tup [.c u,.c v,.c w]):fin [r1,r2,r3] r fr H:=by
 subst e;exact pL hd (.cons h1 (.cons h2 (.cons h3 .nil)))
end
end Go.Proofs.Lz
namespace Go.Proofs.Lz
section
variable {V:WEnv} {fr fr':WFr} {H:q8} {N:D2} {dst:Option Nat} {d:Nat}
end
end Go.Proofs.Lz
namespace Go.Proofs
open Go.Shelf Tryz
def Tryz.rLays_n99:Go.Shelf.Ren:=⟨fun | 99=>257 | 206=>248 | n=>n,fun | 9=>9 | 4=>4 | 3=>3 | n=>n,fun | n=>n⟩
theorem Tryz.lLays_n99:Lays.n99 Tryz.prog Tryz.rLays_n99:={
 mixed:=by kernel_rfl
 f99:=func257.trans (congrArg some (by kernel_rfl))
 f206:=func248.trans (congrArg some (by kernel_rfl))
 t3:=underlying3
 a3:=isAgg3
 z3:=sizeOf3
 v3:=zeroValue3
 t4:=underlying4
 a4:=isAgg4
 z4:=sizeOf4
 v4:=zeroValue4
 t9:=underlying9
 a9:=isAgg9
 z9:=sizeOf9
 v9:=zeroValue9 }
def Tryz.rLays_n105:Go.Shelf.Ren:=⟨fun | 105=>236 | 212=>256 | 99=>257 | 165=>179 | 166=>180 | 170=>258 | 169=>181 | 263=>274 | 264=>275 | 206=>248 | 240=>221 | 241=>222 | 276=>249 | 277=>250 | n=>n,fun | 9=>9 | 3=>3 | 4=>4 | 20=>20 | 0=>0 | 46=>246 | 109=>287 | 5=>5 | 72=>223 | 76=>226 | 51=>263 | 146=>264 | 53=>276 | 148=>303 | 70=>220 | 37=>221 | 75=>225 | 127=>254 | 164=>282 | 80=>133 | n=>n,fun | n=>n⟩
theorem Tryz.lLays_n105:Lays.n105 Tryz.prog Tryz.rLays_n105:={
 mixed:=by kernel_rfl
 f99:=func257.trans (congrArg some (by kernel_rfl))
 f105:=func236.trans (congrArg some (by kernel_rfl))
 f165:=func179.trans (congrArg some (by kernel_rfl))
 f166:=func180.trans (congrArg some (by kernel_rfl))
 f169:=func181.trans (congrArg some (by kernel_rfl))
 f170:=func258.trans (congrArg some (by kernel_rfl))
 f206:=func248.trans (congrArg some (by kernel_rfl))
 f212:=func256.trans (congrArg some (by kernel_rfl))
 f240:=func221.trans (congrArg some (by kernel_rfl))
 f241:=func222.trans (congrArg some (by kernel_rfl))
 f263:=func274.trans (congrArg some (by kernel_rfl))
 f264:=func275.trans (congrArg some (by kernel_rfl))
 f276:=func249.trans (congrArg some (by kernel_rfl))
 f277:=func250.trans (congrArg some (by kernel_rfl))
 t0:=underlying0
 a0:=isAgg0
 z0:=sizeOf0
 v0:=zeroValue0
 t3:=underlying3
 a3:=isAgg3
 z3:=sizeOf3
 v3:=zeroValue3
 t4:=underlying4
 a4:=isAgg4
 z4:=sizeOf4
 v4:=zeroValue4
 t5:=underlying5
 a5:=isAgg5
 z5:=sizeOf5
 v5:=zeroValue5
 t9:=underlying9
 a9:=isAgg9
 z9:=sizeOf9
 v9:=zeroValue9
 t20:=underlying20
 a20:=isAgg20
 z20:=sizeOf20
 v20:=zeroValue20
 t37:=underlying221
 a37:=isAgg221
 z37:=sizeOf221
 v37:=zeroValue221
 t46:=underlying246
 a46:=isAgg246
 z46:=sizeOf246
 v46:=zeroValue246
 t51:=underlying263
 a51:=isAgg263
 z51:=sizeOf263
 v51:=zeroValue263
 t53:=underlying276
 a53:=isAgg276
 z53:=sizeOf276
 v53:=zeroValue276
 t70:=underlying220
 a70:=isAgg220
 z70:=sizeOf220
 v70:=zeroValue220
 t72:=underlying223
 a72:=isAgg223
 z72:=sizeOf223
 v72:=zeroValue223
 t75:=underlying225
 a75:=isAgg225
 z75:=sizeOf225
 v75:=zeroValue225
 t76:=underlying226
 a76:=isAgg226
 z76:=sizeOf226
 v76:=zeroValue226
 t109:=underlying287
 a109:=isAgg287
 z109:=sizeOf287
 v109:=zeroValue287
 t127:=underlying254
 a127:=isAgg254
 z127:=sizeOf254
 v127:=zeroValue254
 t146:=underlying264
 a146:=isAgg264
 z146:=sizeOf264
 v146:=zeroValue264
 t148:=underlying303
 a148:=isAgg303
 z148:=sizeOf303
 v148:=zeroValue303
 t164:=underlying282
 a164:=isAgg282
 z164:=sizeOf282
 v164:=zeroValue282 }
def Tryz.rLays_n149:Go.Shelf.Ren:=⟨fun | 149=>223 | 222=>251 | n=>n,fun | 9=>9 | 5=>5 | 3=>3 | 4=>4 | n=>n,fun | n=>n⟩
theorem Tryz.lLays_n149:Lays.n149 Tryz.prog Tryz.rLays_n149:={
 mixed:=by kernel_rfl
 f149:=func223.trans (congrArg some (by kernel_rfl))
 f222:=func251.trans (congrArg some (by kernel_rfl))
 t3:=underlying3
 a3:=isAgg3
 z3:=sizeOf3
 v3:=zeroValue3
 t4:=underlying4
 a4:=isAgg4
 z4:=sizeOf4
 v4:=zeroValue4
 t5:=underlying5
 a5:=isAgg5
 z5:=sizeOf5
 v5:=zeroValue5
 t9:=underlying9
 a9:=isAgg9
 z9:=sizeOf9
 v9:=zeroValue9 }
def Tryz.rLays_n137:Go.Shelf.Ren:=⟨fun | 137=>211 | 217=>207 | 266=>234 | n=>n,fun | 9=>9 | 5=>5 | 3=>3 | n=>n,fun | n=>n⟩
theorem Tryz.lLays_n137:Lays.n137 Tryz.prog Tryz.rLays_n137:={
 mixed:=by kernel_rfl
 f137:=func211.trans (congrArg some (by kernel_rfl))
 f217:=func207.trans (congrArg some (by kernel_rfl))
 f266:=func234.trans (congrArg some (by kernel_rfl))
 t3:=underlying3
 a3:=isAgg3
 z3:=sizeOf3
 v3:=zeroValue3
 t5:=underlying5
 a5:=isAgg5
 z5:=sizeOf5
 v5:=zeroValue5
 t9:=underlying9
 a9:=isAgg9
 z9:=sizeOf9
 v9:=zeroValue9 }
def Tryz.rLaysM_n171:Go.Shelf.Ren:=⟨fun | 171=>110 | 243=>172 | 246=>215 | 283=>242 | 284=>243 | 285=>244 | 286=>245 | 129=>261 | 317=>260 | 318=>262 | 319=>263 | 320=>264 | 337=>276 | 338=>277 | n=>n,fun | 3=>3 | 9=>9 | 2=>2 | 4=>4 | 171=>275 | 0=>0 | 53=>276 | 37=>221 | 5=>5 | 173=>279 | 212=>292 | 51=>263 | 20=>20 | 213=>293 | 46=>246 | 232=>317 | 233=>318 | n=>n,fun | 17=>1 | 18=>4 | 19=>5 | n=>n⟩
theorem Tryz.lLaysM_n171:LaysM.n171 Tryz.prog Tryz.rLaysM_n171:={
 mixed:=by kernel_rfl
 f129:=func261.trans (congrArg some (by kernel_rfl))
 f171:=func110.trans (congrArg some (by kernel_rfl))
 f243:=func172.trans (congrArg some (by kernel_rfl))
 f246:=func215.trans (congrArg some (by kernel_rfl))
 f283:=func242.trans (congrArg some (by kernel_rfl))
 f284:=func243.trans (congrArg some (by kernel_rfl))
 f285:=func244.trans (congrArg some (by kernel_rfl))
 f286:=func245.trans (congrArg some (by kernel_rfl))
 f317:=func260.trans (congrArg some (by kernel_rfl))
 f318:=func262.trans (congrArg some (by kernel_rfl))
 f319:=func263.trans (congrArg some (by kernel_rfl))
 f320:=func264.trans (congrArg some (by kernel_rfl))
 f337:=func276.trans (congrArg some (by kernel_rfl))
 f338:=func277.trans (congrArg some (by kernel_rfl))
 t0:=underlying0
 a0:=isAgg0
 z0:=sizeOf0
 v0:=zeroValue0
 t2:=underlying2
 a2:=isAgg2
 z2:=sizeOf2
 v2:=zeroValue2
 t3:=underlying3
 a3:=isAgg3
 z3:=sizeOf3
 v3:=zeroValue3
 t4:=underlying4
 a4:=isAgg4
 z4:=sizeOf4
 v4:=zeroValue4
 t5:=underlying5
 a5:=isAgg5
 z5:=sizeOf5
 v5:=zeroValue5
 t9:=underlying9
 a9:=isAgg9
 z9:=sizeOf9
 v9:=zeroValue9
 t20:=underlying20
 a20:=isAgg20
 z20:=sizeOf20
 v20:=zeroValue20
 t37:=underlying221
 a37:=isAgg221
 z37:=sizeOf221
 v37:=zeroValue221
 t46:=underlying246
 a46:=isAgg246
 z46:=sizeOf246
 v46:=zeroValue246
 t51:=underlying263
 a51:=isAgg263
 z51:=sizeOf263
 v51:=zeroValue263
 t53:=underlying276
 a53:=isAgg276
 z53:=sizeOf276
 v53:=zeroValue276
 t171:=underlying275
 a171:=isAgg275
 z171:=sizeOf275
 v171:=zeroValue275
 t173:=underlying279
 a173:=isAgg279
 z173:=sizeOf279
 v173:=zeroValue279
 t212:=underlying292
 a212:=isAgg292
 z212:=sizeOf292
 v212:=zeroValue292
 t213:=underlying293
 a213:=isAgg293
 z213:=sizeOf293
 t232:=underlying317
 a232:=isAgg317
 z232:=sizeOf317
 v232:=zeroValue317
 t233:=underlying318
 a233:=isAgg318
 z233:=sizeOf318
 v233:=zeroValue318
 g17:=by kernel_rfl
 g18:=by kernel_rfl
 g19:=by kernel_rfl
 i0:=by kernel_rfl
 i2:=by kernel_rfl
 i3:=by kernel_rfl
 i4:=by kernel_rfl
 i5:=by kernel_rfl
 i9:=by kernel_rfl
 i20:=by kernel_rfl
 i37:=by kernel_rfl
 i46:=by kernel_rfl
 i51:=by kernel_rfl
 i53:=by kernel_rfl
 i171:=by kernel_rfl
 i173:=by kernel_rfl
 i212:=by kernel_rfl
 i232:=by kernel_rfl
 i233:=by kernel_rfl
 m17:=by kernel_rfl
 m18:=by kernel_rfl
 m19:=by kernel_rfl }
def Tryz.rLaysM_n145:Go.Shelf.Ren:=⟨fun | 145=>47 | 220=>90 | 219=>159 | 217=>207 | 225=>208 | 224=>209 | 267=>210 | 266=>234 | 314=>235 | n=>n,fun | 9=>9 | 4=>4 | 59=>69 | 3=>3 | 5=>5 | 46=>246 | 146=>264 | 51=>263 | n=>n,fun | 1=>0 | n=>n⟩
theorem Tryz.lLaysM_n145:LaysM.n145 Tryz.prog Tryz.rLaysM_n145:={
 mixed:=by kernel_rfl
 f145:=func47.trans (congrArg some (by kernel_rfl))
 f217:=func207.trans (congrArg some (by kernel_rfl))
 f219:=func159.trans (congrArg some (by kernel_rfl))
 f220:=func90.trans (congrArg some (by kernel_rfl))
 f224:=func209.trans (congrArg some (by kernel_rfl))
 f225:=func208.trans (congrArg some (by kernel_rfl))
 f266:=func234.trans (congrArg some (by kernel_rfl))
 f267:=func210.trans (congrArg some (by kernel_rfl))
 f314:=func235.trans (congrArg some (by kernel_rfl))
 t3:=underlying3
 a3:=isAgg3
 z3:=sizeOf3
 v3:=zeroValue3
 t4:=underlying4
 a4:=isAgg4
 z4:=sizeOf4
 v4:=zeroValue4
 t5:=underlying5
 a5:=isAgg5
 z5:=sizeOf5
 v5:=zeroValue5
 t9:=underlying9
 a9:=isAgg9
 z9:=sizeOf9
 v9:=zeroValue9
 t46:=underlying246
 a46:=isAgg246
 z46:=sizeOf246
 v46:=zeroValue246
 t51:=underlying263
 a51:=isAgg263
 z51:=sizeOf263
 v51:=zeroValue263
 t59:=underlying69
 a59:=isAgg69
 z59:=sizeOf69
 v59:=zeroValue69
 t146:=underlying264
 a146:=isAgg264
 z146:=sizeOf264
 v146:=zeroValue264
 g1:=by kernel_rfl
 i3:=by kernel_rfl
 i4:=by kernel_rfl
 i5:=by kernel_rfl
 i9:=by kernel_rfl
 i46:=by kernel_rfl
 i51:=by kernel_rfl
 i59:=by kernel_rfl
 i146:=by kernel_rfl
 m1:=by kernel_rfl
 s1_3:=fun w h=>Go.Proofs.cell_of_shapedOpen_int (zero:=#[.int .i64 0]) (t:=3) h (of_decide_eq_true (by kernel_rfl)) (by kernel_rfl) rfl (by kernel_rfl) (by kernel_rfl) Tryz.underlying3 }
def Tryz.rLays_n156:Go.Shelf.Ren:=⟨fun | 156=>118 | 165=>179 | 166=>180 | 169=>181 | 240=>221 | 241=>222 | 276=>249 | 277=>250 | n=>n,fun | 31=>26 | 9=>9 | 3=>3 | 4=>4 | 0=>0 | 20=>20 | 72=>223 | 76=>226 | 70=>220 | 37=>221 | 75=>225 | 127=>254 | 164=>282 | 5=>5 | 80=>133 | n=>n,fun | n=>n⟩
theorem Tryz.lLays_n156:Lays.n156 Tryz.prog Tryz.rLays_n156:={
 mixed:=by kernel_rfl
 f156:=func118.trans (congrArg some (by kernel_rfl))
 f165:=func179.trans (congrArg some (by kernel_rfl))
 f166:=func180.trans (congrArg some (by kernel_rfl))
 f169:=func181.trans (congrArg some (by kernel_rfl))
 f240:=func221.trans (congrArg some (by kernel_rfl))
 f241:=func222.trans (congrArg some (by kernel_rfl))
 f276:=func249.trans (congrArg some (by kernel_rfl))
 f277:=func250.trans (congrArg some (by kernel_rfl))
 t0:=underlying0
 a0:=isAgg0
 z0:=sizeOf0
 v0:=zeroValue0
 t3:=underlying3
 a3:=isAgg3
 z3:=sizeOf3
 v3:=zeroValue3
 t4:=underlying4
 a4:=isAgg4
 z4:=sizeOf4
 v4:=zeroValue4
 t9:=underlying9
 a9:=isAgg9
 z9:=sizeOf9
 v9:=zeroValue9
 t20:=underlying20
 a20:=isAgg20
 z20:=sizeOf20
 v20:=zeroValue20
 t31:=underlying26
 a31:=isAgg26
 z31:=sizeOf26
 v31:=zeroValue26
 t37:=underlying221
 a37:=isAgg221
 z37:=sizeOf221
 v37:=zeroValue221
 t70:=underlying220
 a70:=isAgg220
 z70:=sizeOf220
 v70:=zeroValue220
 t72:=underlying223
 a72:=isAgg223
 z72:=sizeOf223
 v72:=zeroValue223
 t75:=underlying225
 a75:=isAgg225
 z75:=sizeOf225
 v75:=zeroValue225
 t76:=underlying226
 a76:=isAgg226
 z76:=sizeOf226
 v76:=zeroValue226
 t127:=underlying254
 a127:=isAgg254
 z127:=sizeOf254
 v127:=zeroValue254
 t164:=underlying282
 a164:=isAgg282
 z164:=sizeOf282
 v164:=zeroValue282 }
end Go.Proofs
set_option linter.unusedSectionVars false
namespace Go.Proofs.Lz
open Go.Shelf
variable [GlobTab]
section
variable {P:Program} {ρ:Ren} {f:Nat} {w:World} {F:Nat->Prop}
def strsOf:List CV->Option (List (List UInt8))
 | []=>some []
 | .str s::r=>match strsOf r with
   | some l=>some (s::l)
   | none=>none
 | _=>none
def uM:List CV->Option (List CV)
 | [.frz none xs,.str sep]=>match strsOf xs with
   | some l=>if l.length<=140737488355328/\(Lib.join l sep).length<=140737488355328 then some [.str (Lib.join l sep)] else none
   | none=>none
 | _=>none
theorem zm7:∀ {xs:List CV} {l:List (List UInt8)} {vs:List Value},strsOf xs=some l->RRow w F none xs vs->xs.length=l.length/\vs=l.map fun s=>.string ⟨s.toArray⟩:=by
 intro xs;induction xs with
 | nil=>
   intro l vs h hr;simp only [strsOf,Option.some.injEq] at h;subst h;unfold RRow at hr;subst hr;exact ⟨rfl,rfl⟩
 | cons x xs ih=>
   intro l vs h hr;cases x with
   | str s=>
     simp only [strsOf] at h;split at h
     . rename_i l' hl;injection h with h;subst h;unfold RRow at hr;obtain ⟨v,us,rfl,h1,h2,h3⟩:=hr;obtain ⟨e1,e2⟩:=ih hl h3;rw [a6] at h2;subst h2;exact ⟨by simp [e1],by rw [e2];simp [Value.cells]⟩
     . cases h
   | _=>simp [strsOf] at h
theorem zc8 (L:Lays.n156 P ρ) (X:Builder.Extra P ρ) (hf:ρ.f 156=f) (hen:∀ args w,(callFunc f args).run P w=.ok (.enter f args) w):K7 P f uM:=by
 subst hf;intro xs us h w F vs hF hG hr;unfold uM at h;split at h
 . rename_i ys sep;split at h
   . rename_i l hl;split at h
     . rename_i hc;injection h with h;subst h;obtain ⟨u,v,rfl,h1,h2⟩:=qL hr;rw [a6] at h2;subst h2;unfold RC at h1;obtain ⟨a,cap,rfl,hcap,hne⟩:=h1;have hmm:(l.map fun s=>(⟨s.toArray⟩:ByteArray)).map (·.data.toList)=l:=by
        rw [List.map_map];conv=>rhs;rw [<-List.map_id l]
        exact List.map_congr_left fun s _=>by simp
       refine told (us:=[]) (v:=.string ⟨(Lib.join l sep).toArray⟩) (fun w'=>by rw [a6]) hF hen ?_;by_cases hy:ys=[]
       . subst hy;simp only [strsOf,Option.some.injEq] at hl;subst hl;refine (Any.strings_Join_none L X a cap ⟨sep.toArray⟩ w).mono ?_;rintro e w' ⟨rfl,rfl⟩;exact ⟨rfl,RowKit.Below.refl _ _⟩
       . obtain ⟨b,off,vs',rfl,hb,hrange,hrow⟩:=hne hy;obtain ⟨e1,e2⟩:=zm7 hl hrow;have hj:=Any.strings_Join L X b off cap (l.map fun s=>(⟨s.toArray⟩:ByteArray)) ⟨sep.toArray⟩ w (by
          intro j x hx;refine hrange j _ ?_;rw [e2,List.getElem?_map];rw [List.getElem?_map] at hx;cases hq:l[j]? with
          | none=>rw [hq] at hx;cases hx
          | some s=>rw [hq] at hx;injection hx with hx;subst hx;rfl) (hF b hb) (by simpa using hc.1) (by simp;omega) (by rw [hmm,U0];exact hc.2)
         rw [hmm,U0] at hj;have el:(l.map fun s=>(⟨s.toArray⟩:ByteArray)).length=ys.length:=by simp [e1]
         rw [el] at hj;exact hj.mono fun e w' h=>h
     . cases h
   . cases h
 . cases h
def yV (u:CV):List CV->Option (List CV)
 | []=>some [u]
 | _=>none
theorem zz9 {E:Env} (hE:EnvOk P E) {n:Nat} {u:CV} {H':q7} (h:evF E n f [] []=some (.c u,H')):K7 P f (yV u):=by
 intro xs us hg w F vs hF hG hr;unfold yV at hg;split at hg
 . injection hg with hg;subst hg;rw [rcs_nil] at hr;subst hr;obtain ⟨h1,h2⟩:=bF hE n f [] [] (.c u) H' h w F (fun _=>⟨0,0⟩) [] (xT _ hF hG) (rhs_nil.2 rfl);refine ⟨h1,h2.mono ?_⟩;rintro e w' ⟨v,F',m',he,st,hh,hv,_⟩;rw [rh_c] at hv;refine ⟨[v],he,⟨st.os,st.tape,st.output,st.size,fun b hb=>(st.far b hb (fun id h=>by simp at h)).1⟩,F',fun b hb=>?_,rcs_cons.2 ⟨v,[],rfl,hv,rcs_nil.2 rfl⟩⟩;by_cases hlt:b<w.heap.size
   . exact .inl ((st.far b hlt (fun id h=>by simp at h)).2.2 hb)
   . exact .inr ⟨by omega,hh.fthere b hb⟩
 . cases hg
def zP:List CV->Option (List CV)
 | [.frz _ []]=>some [.frz none []]
 | _=>none
theorem tD {E:Env} (hE:EnvOk P E) {n id ver off:Nat} {H1 H2:q7} (h1:evF E n f [.c .nln] []=some (.nils,H1)) (h2:evF E n f [.c .nes] []=some (.sl id ver off 0,H2)):K7 P f zP:=by
 intro xs us hg w F vs hF hG hr;unfold zP at hg;split at hg
 . injection hg with hg;subst hg;obtain ⟨u,rfl,hu⟩:=tY hr;unfold RC at hu;obtain ⟨a,cap,rfl,_⟩:=hu;have key:∀ {x r:HV} {H':q7},evF E n f [x] []=some (r,H')->RH w F [] (fun _=>⟨0,0⟩) x (.slice a 0 cap)->(∀ (w':World) (F':Nat->Prop) (m':j7) v,RH w' F' H' m' r v->∃ a' cap',v=.slice a' 0 cap') ->
    (callFunc f [Value.slice a 0 cap].toArray).run P w=.ok (.enter f [Value.slice a 0 cap].toArray) w/\Calls P f [Value.slice a 0 cap].toArray w (fun e w'=>∃ rs:List Value,e=.returned (J0 rs)/\RowKit.Below w.heap.size w w'/\∃ F':Nat->Prop,(∀ b,F' b->F b\/(w.heap.size<=b/\b<w'.heap.size))/\RCs w' F' [.frz none []] rs):=by
    intro x r H' he hx hres;obtain ⟨k1,k2⟩:=bF hE n f [x] [] r H' he w F (fun _=>⟨0,0⟩) [.slice a 0 cap] (xT _ hF hG) (rhs_cons.2 ⟨_,[],rfl,hx,rhs_nil.2 rfl⟩);refine ⟨k1,k2.mono ?_⟩;rintro e w' ⟨v,F',m',he,st,hh,hv,_⟩;obtain ⟨a',cap',rfl⟩:=hres w' F' m' v hv;refine ⟨[.slice a' 0 cap'],he,⟨st.os,st.tape,st.output,st.size,fun b hb=>(st.far b hb (fun id h=>by simp at h)).1⟩,F',fun b hb=>?_,rcs_cons.2 ⟨_,[],rfl,by unfold RC;exact ⟨a',cap',rfl,Nat.zero_le _,fun h=>absurd rfl h⟩,rcs_nil.2 rfl⟩⟩;by_cases hlt:b<w.heap.size
    . exact .inl ((st.far b hlt (fun id h=>by simp at h)).2.2 hb)
    . exact .inr ⟨by omega,hh.fthere b hb⟩
   cases a with
   | none=>
     refine key h1 (by rw [rh_c];unfold RC;exact ⟨cap,rfl⟩) ?_;intro w' F' m' v hv;unfold RH at hv;exact ⟨none,0,hv⟩
   | some ad=>
     refine key h2 (by rw [rh_c];unfold RC;exact ⟨ad,cap,rfl⟩) ?_;intro w' F' m' v hv;unfold RH at hv;obtain ⟨ad',cap',rfl,_⟩:=hv;exact ⟨some ad',cap',rfl⟩
 . cases hg
end
end Go.Proofs.Lz
