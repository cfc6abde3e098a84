/- Chapter 12: from laws on the evaluator to the seat's rows: what the rows' listed variables give. -/
import Derived.Test.YtlimfobeoodkjaaGreatDoorLzCode12
import Derived.Test.YtlimfobeoodkjaaGreatDoorLzExt3
import Derived.Test.YtlimfobeoodkjaaGreatDoorLzWCode
import Derived.Test.YtlimfobeoodkjaaGreatDoorRows
import Derived.Test.YtlimfobeoodkjaaGreatDoorTie
import Derived.Test.YtlimfobeoodkjaaGreatDoorCards
import Derived.Test.YtlimfobeoodkjaaGreatDoorLzRow3
import Derived.ProofKit
import Derived.Lay
import Derived.Lib.LaidTab
import Derived.Lib.LaidU8
import Derived.Handed
import Derived.LaidOnce
import Derived.SevenTiedAt
set_option linter.unusedVariables false
set_option linter.unusedSimpArgs false
set_option maxRecDepth 100000
namespace Go.Proofs.TryzL
open Go.Proofs.Lz Go.Shelf
instance:GlobTab:=⟨[(0,fun vs=>∃ m:Int,vs=[.int .i64 m]),(1,fun vs=>vs=Lib.pow10Tab.map fun z=>Value.int .u64 z)]⟩
def mdX:Nat->Md:=mdL [10,11,25,26,28,32,33,59,60,61,63,68,69,70,71,72,73,74,75,76,77,79,81,83,102,103,104,105,106,107,108,109,111,112,113,114,115,116,117,119,128,129,130,131,135,136,138,140,142,144,164,165,166,167,169,173,178,182,186,190,191,192,193,194,195,196,198,200,201,202,204,213,216,219,220,228,230,232,247,254,265,266,268,278,279,280,281,282,283,287,288,289]
noncomputable def Ec:Env:={ fn:=fun f=>(Tryz.prog.funcs[f]?).bind (qI Tryz.prog mdX),md:=mdX,ext:=fun _=>none }
theorem mK:EnvOk Tryz.prog Ec where
 fn:=by
  intro f g h;simp only [Ec] at h;exact .inl (Option.bind_eq_some_iff.1 h)
 ext:=by
  intro f g h;simp only [Ec] at h;cases h
def kP:Nat->Option (List CV->Option (List CV))
 | 47=>some qQ
 | 110=>some uD
 | 118=>some uM
 | 211=>some qC
 | 223=>some gQ
 | 236=>some kK
 | 257=>some kG
 | 35=>some zP
 | 152=>some zP
 | _=>none
noncomputable def Ex:Env:={ fn:=fun f=>match kP f with
 | some _=>none
 | none=>(Tryz.prog.funcs[f]?).bind (qI Tryz.prog mdX),md:=mdX,ext:=kP }
theorem z84:Builder.Extra Tryz.prog Tryz.rLays_n105 where
 sizeBuilder:=by kernel_rfl
 liesBuilder:=by kernel_rfl
 t5:=Tryz.underlying5
 a5:=Tryz.isAgg5
 z5:=Tryz.sizeOf5
 v5:=Tryz.zeroValue5
 infoByte:=by kernel_rfl
 cellsByte:=by kernel_rfl
 sizeByte:=by kernel_rfl
 neB5:=by decide
theorem zm4:Builder.Extra Tryz.prog Tryz.rLays_n156 where
 sizeBuilder:=by kernel_rfl
 liesBuilder:=by kernel_rfl
 t5:=Tryz.underlying5
 a5:=Tryz.isAgg5
 z5:=Tryz.sizeOf5
 v5:=Tryz.zeroValue5
 infoByte:=by kernel_rfl
 cellsByte:=by kernel_rfl
 sizeByte:=by kernel_rfl
 neB5:=by decide
theorem rT:∀ args w,(callFunc 47 args).run Tryz.prog w=.ok (.enter 47 args) w:=enters_of Tryz.func47 (by kernel_rfl) rfl
theorem eX:∀ args w,(callFunc 110 args).run Tryz.prog w=.ok (.enter 110 args) w:=enters_of Tryz.func110 (by kernel_rfl) rfl
theorem zz1:∀ args w,(callFunc 118 args).run Tryz.prog w=.ok (.enter 118 args) w:=enters_of Tryz.func118 (by kernel_rfl) rfl
theorem mX:∀ args w,(callFunc 211 args).run Tryz.prog w=.ok (.enter 211 args) w:=enters_of Tryz.func211 (by kernel_rfl) rfl
theorem zr2:∀ args w,(callFunc 223 args).run Tryz.prog w=.ok (.enter 223 args) w:=enters_of Tryz.func223 (by kernel_rfl) rfl
theorem z62:∀ args w,(callFunc 236 args).run Tryz.prog w=.ok (.enter 236 args) w:=enters_of Tryz.func236 (by kernel_rfl) rfl
theorem z42:∀ args w,(callFunc 257 args).run Tryz.prog w=.ok (.enter 257 args) w:=enters_of Tryz.func257 (by kernel_rfl) rfl
theorem gl0 (w:World) (F:Nat->Prop) (h:Glob w F):∃ m:Int,w.cell? ⟨0,0,none⟩=some (.int .i64 m):=by
 obtain ⟨vs,_,h2,m,rfl⟩:=fO (g:=0) (p:=fun vs=>∃ m:Int,vs=[.int .i64 m]) (by simp [GlobTab.tab]) h;exact ⟨m,h2 0⟩
theorem glP (w:World) (F:Nat->Prop) (h:Glob w F):Lib.TabIs Tryz.prog w "internal/strconv.uint64pow10" .u64 Lib.pow10Tab:=by
 obtain ⟨vs,rfl,h2⟩:=zn8 (P:=Tryz.prog) (g:=1) (p:=fun vs=>vs=Lib.pow10Tab.map fun z=>Value.int .u64 z) (name:= "internal/strconv.uint64pow10") (by simp [GlobTab.tab]) (by kernel_rfl) h;exact h2
theorem dP:Lays.n145 Tryz.prog Tryz.rLaysM_n145:={ Tryz.lLaysM_n145 with }
def nV:Option (HV×q7)->Bool
 | some (.nils,_)=>true
 | _=>false
theorem tR {o:Option (HV×q7)} (h:nV o=true):∃ H',o=some (.nils,H'):=by
 unfold nV at h;split at h
 . exact ⟨_,rfl⟩
 . cases h
def rB:Option (HV×q7)->Bool
 | some (.sl _ _ _ 0,_)=>true
 | _=>false
theorem tP {o:Option (HV×q7)} (h:rB o=true):∃ id ver off H',o=some (.sl id ver off 0,H'):=by
 unfold rB at h;split at h
 . exact ⟨_,_,_,_,rfl⟩
 . cases h
theorem z94:K7 Tryz.prog 35 zP:=by
 obtain ⟨H1,h1⟩:=tR (o:=evF Ec 10 35 [.c .nln] []) (by kernel_rfl);obtain ⟨id,ver,off,H2,h2⟩:=tP (o:=evF Ec 10 35 [.c .nes] []) (by kernel_rfl);exact tD mK h1 h2
theorem eK:K7 Tryz.prog 152 zP:=by
 obtain ⟨H1,h1⟩:=tR (o:=evF Ec 10 152 [.c .nln] []) (by kernel_rfl);obtain ⟨id,ver,off,H2,h2⟩:=tP (o:=evF Ec 10 152 [.c .nes] []) (by kernel_rfl);exact tD mK h1 h2
theorem zk0:EnvOk Tryz.prog Ex where
 fn:=by
  intro f g h;simp only [Ex] at h;split at h
  . cases h
  . exact .inl (Option.bind_eq_some_iff.1 h)
 ext:=by
  intro f g h;simp only [Ex,kP] at h;split at h<;>first
   | (cases h;done)
   | (injection h with h;subst h;first
       | exact lJ Tryz.lLays_n137 rfl mX
       | exact zp3 Tryz.lLays_n105 z84 rfl z62
       | exact z29 Tryz.lLays_n99 rfl z42
       | exact z67 Tryz.lLays_n149 rfl zr2
       | exact zt9 Tryz.lLaysM_n171 rfl eX glP
       | exact mU dP rfl rT gl0
       | exact z94
       | exact eK
       | exact zc8 Tryz.lLays_n156 zm4 rfl zz1)
def pY:Option (HV×q7)->Bool
 | some (.c (.bool true),_)=>true
 | _=>false
theorem z14 {o:Option (HV×q7)} (h:pY o=true):∃ H',o=some (.c (.bool true),H'):=by
 unfold pY at h;split at h
 . exact ⟨_,rfl⟩
 . cases h
theorem hU:pY (evF Ex 60 4 [] [])=true:=by kernel_rfl
def uP:Nat->Option (List CV->Option (List CV))
 | 4=>some (yV (.bool true))
 | 47=>some qQ
 | 211=>some qC
 | _=>none
def Ev:Env:={ fn:=fnT,md:=mds,ext:=uP }
theorem oH:EnvOk Tryz.prog Ev where
 fn:=fun f g h=>.inl (Option.bind_eq_some_iff.1 (zr8 f g h))
 ext:=by
  intro f g h;simp only [Ev,uP] at h;split at h
  . injection h with h;subst h;obtain ⟨H',he⟩:=z14 hU;exact zz9 zk0 he
  . injection h with h;subst h;exact mU dP rfl rT gl0
  . injection h with h;subst h;exact lJ Tryz.lLays_n137 rfl mX
  . cases h
def Vv:WEnv:={ fn:=fnT,md:=mds,tk:=fun _=>[],ext:=uP }
theorem zi5:EnvR Vv Ev:=⟨rfl,rfl,rfl,rfl⟩
theorem zd0:Vv.fn 3=some ic3:=rfl
theorem yL:Vv.fn 5=some ic5:=rfl
theorem zv7:Vv.fn 6=some ic6:=rfl
theorem tM:Vv.fn 8=some ic8:=rfl
theorem dX:Vv.fn 9=some ic9:=rfl
theorem oW:Vv.fn 14=some cN:=rfl
theorem z99:Vv.fn 15=some sU:=rfl
theorem z45:Vv.fn 22=some tB:=rfl
theorem zh2:Vv.fn 23=some rU:=rfl
theorem iH:Vv.fn 48=some lV:=rfl
theorem zt8:Vv.fn 49=some lC:=rfl
theorem zl4:Vv.fn 50=some dF:=rfl
theorem zs5:Vv.fn 57=some mG:=rfl
theorem oM:Vv.fn 58=some sF:=rfl
theorem zk7:Vv.fn 91=some lH:=rfl
theorem q00:Vv.fn 92=some mD:=rfl
theorem z25:Vv.fn 93=some cF:=rfl
theorem zi0:Vv.fn 94=some nU:=rfl
theorem zy0:Vv.fn 95=some tJ:=rfl
theorem zk5:Vv.fn 97=some mH:=rfl
theorem iU:Vv.fn 98=some sG:=rfl
theorem zy3:Vv.fn 99=some aL:=rfl
theorem ze9:Vv.fn 100=some dY:=rfl
theorem z34:Vv.fn 101=some sR:=rfl
theorem zm8:Vv.fn 160=some dA:=rfl
theorem zj5:Vv.fn 161=some cG:=rfl
theorem zx7:Vv.fn 162=some aH:=rfl
theorem zt7:Vv.fn 163=some tA:=rfl
end Go.Proofs.TryzL
namespace Go.Proofs.YtlimfobeoodkjaaGreatDoor
open Go.ChangeShapes Go.WideShapes Go.ChangeAt Go.RowKit Go.Proofs.Lz
open Go.Proofs.TryzL
theorem Tryz.own:ownKnob Tryz.prog.godebug=none:=by kernel_rfl
theorem Tryz.laidOut:laidOutB Tryz.prog=true:=by kernel_rfl
def G4:List (String×DataW Unit):=[("math/bits.deBruijn32tab",Rows.laid_math_bits_deBruijn32tab),("math/bits.deBruijn64tab",Rows.laid_math_bits_deBruijn64tab),("internal/strconv.uint64pow10",Rows.laid_internal_strconv_uint64pow10),("strconv.ErrRange",Rows.laid_strconv_ErrRange),("strconv.ErrSyntax",Rows.laid_strconv_ErrSyntax)]
theorem fS {W:World} (hS:W.ShapedOpen Tryz.prog) {g:Nat} {t:TypeId} (hg:g<Tryz.prog.globals.size) (hz:(((begin Tryz.prog (fun _ _=>0) default).world.heap[g]?).bind Obj.row?).map (fun p=>(p.1.size,p.2))=some (1,t)) (hb:Tryz.prog.buildable t=true) (hc:Tryz.prog.cellTypes Tryz.prog.depth t=some [t]) (hu:Tryz.prog.underlying t=some (.int .i64)) :
 ∃ m:Int,W.heap[g]?=some (.cells #[.int .i64 m] t):=by
 cases hw:((begin Tryz.prog (fun _ _=>0) default).world.heap[g]?).bind Obj.row? with
 | none=>rw [hw] at hz;cases hz
 | some p=>
   obtain ⟨zero,t'⟩:=p;rw [hw] at hz;simp only [Option.map_some,Option.some.injEq,Prod.mk.injEq] at hz;obtain ⟨hz1,rfl⟩:=hz;obtain ⟨cs,h1,h2,h3⟩:=hS.1 g zero t' hg hw;obtain ⟨ts,k1,_,k3⟩:=h3 hb;rw [hc] at k1;injection k1 with k1;subst k1;have hsz:cs.size=1:=by rw [h2,hz1]
   obtain ⟨l⟩:=cs;match l,hsz,h1,k3 with
   | [v],_,h1,k3=>
     obtain ⟨u,hu1,hu2⟩:=k3 0 v (by simp);simp at hu1;subst hu1;unfold Cell.ok at hu2;rw [hu] at hu2;cases v with
     | int k n=>
       obtain ⟨rfl,_⟩:=hu2;exact ⟨n,h1⟩
     | _=>exact hu2.elim
theorem z95 {W:World} {g:Nat} {cs:Array Value} {t:TypeId} {q:Nat×Nat} (h:W.heap[g]?=some (.cells cs t q)):∀ off,W.cell? ⟨g,off,none⟩=cs.toList[off]?:=by
 intro off;simp [World.cell?,h]
theorem z07 {W:World} {n:String} {g:Nat} {cs:Array Value} (hn:Tryz.prog.globalNamed n=some g) (h:W.var? Tryz.prog n=some cs):∀ off,W.cell? ⟨g,off,none⟩=cs.toList[off]?:=by
 intro off;have:=World.var?_cell hn h off;rw [this];simp
theorem zm6 {W:World} (hS:W.ShapedOpen Tryz.prog) (hL:laidMet Tryz.prog G4 W):Glob W (fun b=>b<W.heap.size):=by
 have blk:∀ {g:Nat} {cs:List Value},cs≠[]->(∀ off,W.cell? ⟨g,off,none⟩=cs[off]?)->g<W.heap.size:=by
  intro g cs h0 h;obtain ⟨t,q,hb⟩:=nX h0 h;exact (Array.getElem?_eq_some_iff.1 hb).1
 intro p hp;have hp:p∈[(0,fun vs:List Value=>∃ m:Int,vs=[.int .i64 m]),(1,fun vs=>vs=Lib.pow10Tab.map fun z=>Value.int .u64 z)]:=hp;simp only [List.mem_cons,List.not_mem_nil,or_false] at hp;have key:∃ vs,vs≠[]/\(∀ off,W.cell? ⟨p.1,off,none⟩=vs[off]?)/\p.2 vs:=by
  rcases hp with rfl | rfl
  . obtain ⟨m,hm⟩:=fS (t:=3) hS (g:=0) (by rw [show Tryz.prog.globals.size=6 by kernel_rfl];decide) (by kernel_rfl) (by kernel_rfl) (by kernel_rfl) (by kernel_rfl);exact ⟨[.int .i64 m],by simp,z95 hm,m,rfl⟩
  . obtain ⟨g',t',cs,fuel,q,h1,h2,h3,h4⟩:=Go.Lib.laidMet.reads hL (n:= "internal/strconv.uint64pow10") (d:=Rows.laid_internal_strconv_uint64pow10) (by simp [G4]);obtain rfl:=Option.some.inj ((show Tryz.prog.globalNamed "internal/strconv.uint64pow10"=some 1 by kernel_rfl).symm.trans h1);obtain rfl:=Option.some.inj ((show (Tryz.prog.globals[1]?).map (·.type)=some 292 by kernel_rfl).symm.trans h2);have hcs:=Go.Lib.cells_of_tab (n:=20) (e:=276) (k:=.u64) (zs:=Go.Lib.pow10Tab) (by kernel_rfl) (by kernel_rfl) (by kernel_rfl) (by kernel_rfl) (by rw [h4];rfl);have hv:=z07 (g:=1) (by kernel_rfl) h3;exact ⟨cs.toList,by rw [hcs];simp [Go.Lib.pow10Tab],hv,hcs⟩
 obtain ⟨vs,h0,h1,h2⟩:=key;exact ⟨blk h0 h1,vs,h0,h1,h2⟩
theorem zf5 {H:Type} {enc:TypeId×Value->H} {a:Assume} {C:Checked} {os:Os} {f:FuncId} {fn:Func} {s:ChangeSpec} {conds:List PathCond} {apart fresh handsOn again:Bool} {X:World->Array Value->Prop}
 (hX:∀ (w w':World) (args:Array Value),w.heap=w'.heap->X w args->X w' args)
 (own:ownKnob C.prog.godebug=none) (started:os.Started) (noInit:C.prog.inits.idxOf? f=none) (hfn:C.prog.funcs[f]?=some fn)
 (witness:∃ (w:World) (tape:Tape) (i:Input),w.os=os/\(w.forCall tape i).Shaped C.prog/\i.vars=[]/\Input.okWide C.prog (w.forCall tape i) .any w.heap.size f i /\
   ((s.pre enc C.prog fn conds apart (w.forCall tape i).memory i.args/\X (w.forCall tape i).memory i.args)/\sizedMet enc C.prog fn (OpenSpec.ofChange s) apart (w.forCall tape i).memory i.args)/\a.holds C.prog (lone (Frame.enter C.prog f i.args .normal) [] (w.forCall tape i)))
 (contract:∀ (W:World) (base:Nat) (args:Array Value) (ds gs:List (DataW H)) (before:List MemPlace),W.ShapedOpen C.prog ->
   (∀ (j:Nat) t v,fn.params[j]?=some t->args[j]?=some v->Value.okWide C.prog W .any base t v) ->
   DataW.Whole enc C.prog fn.params.toList s.vars apart W args.toList ds gs before->X W args ->
   Calls C.prog f args W fun e W'=>∃ v,e=.returned v/\s.post enc C.prog fn apart fresh handsOn again W args v W') :
 ReturnsInHanded a C os f .any (fun w args=>(s.pre enc C.prog fn conds apart w args/\X w args)/\sizedMet enc C.prog fn (OpenSpec.ofChange s) apart w args) (s.post enc C.prog fn apart fresh handsOn again):=by
 refine returnsInHanded_of_calls own started noInit witness ?_;intro w tape i _ hsh _ hok hpre hholds;obtain ⟨_,_,_,fn',hfn',_,_,_,_,hval⟩:=hok;have e:fn'=fn:=Option.some.inj (hfn'.symm.trans hfn);subst e;obtain ⟨⟨⟨ds,gs,before,hw,hc⟩,hx⟩,hz⟩:=hpre;have hw':=DataW.Whole.of_heap (w':=w.forCall tape i) (by rfl) hw;refine (contract (w.forCall tape i) w.heap.size i.args ds gs before hsh hval hw' (hX _ _ _ (by rfl) hx)).mono fun e W' ⟨v,he,hp⟩=>?_;subst he;exact ChangeSpec.post_blind hp
theorem nQ (w:World):laidMetH Tryz.prog G4 w=laidMet Tryz.prog G4 w:=by
 rw [MakeChecks.laidMetH_plain _ _ _ (by kernel_rfl)]
theorem zy2 (os:Os) (args:Array Value):laidMetH Tryz.prog G4 ((World.laidAll Tryz.prog os G4).forCall (fun _ _=>0) ⟨#[],args,[]⟩).memory:=by
 rw [nQ];exact laidMet_laidAll _ (by kernel_rfl) (by kernel_rfl)
theorem eJ (os:Os):(World.laidAll Tryz.prog os G4).Shaped Tryz.prog:=World.shaped_of_ZipB (by kernel_rfl) (by kernel_rfl)
def mY (P:Program) (S ts:List TypeId):Bool:=ts.all fun t=>S.contains t&&(x5 P t).isSome&&P.readableRec t&&decide (t<P.types.size)
theorem eR {P:Program} {S ts:List TypeId} (h:mY P S ts=true):∀ t∈ts,S.contains t=true/\(x5 P t).isSome=true/\P.readableRec t=true/\t<P.types.size:=by
 intro t ht;have:=List.all_eq_true.1 h t ht;simp only [Bool.and_eq_true,decide_eq_true_eq] at this;exact ⟨this.1.1.1,this.1.1.2,this.1.2,this.2⟩
theorem zr9 {S:List TypeId} (hS0:qM Tryz.prog S=true) {f:FuncId} {fn:Func} {s:ChangeSpec} (os:Os) (started:os.Started) {H:Type} (enc:TypeId×Value->H) (hfn:Tryz.prog.funcs[f]?=some fn)
 (hni:Tryz.prog.inits.idxOf? f=none) (hargs:mY Tryz.prog S fn.params.toList=true) (hres:fn.resultTypes=#[4]) (hv:s.vars=[])
 (hsp:∀ (ds:List (DataW H)),ds.length=fn.params.toList.length->s.fn H ds={ results:=[.lit (.bool true)],args:=ds })
 (witness:∃ (w:World) (tape:Tape) (i:Input),w.os=os/\(w.forCall tape i).Shaped Tryz.checked.prog/\i.vars=[]/\Input.okWide Tryz.checked.prog (w.forCall tape i) .any w.heap.size f i /\
   ((s.pre enc Tryz.checked.prog fn [] false (w.forCall tape i).memory i.args/\laidMetH Tryz.prog G4 (w.forCall tape i).memory)/\sizedMet enc Tryz.checked.prog fn (OpenSpec.ofChange s) false (w.forCall tape i).memory i.args)/\({}:Assume).holds Tryz.checked.prog (lone (Frame.enter Tryz.checked.prog f i.args .normal) [] (w.forCall tape i)))
 (law:∀ xs,zG Tryz.prog fn.params.toList xs->∃ H',ev Ev f (xs.map .c) []=some (.c (.bool true),H')) :
 ReturnsInHanded {} Tryz.checked os f .any (fun w args=>(s.pre enc Tryz.prog fn [] false w args/\laidMetH Tryz.prog G4 w)/\sizedMet enc Tryz.prog fn (OpenSpec.ofChange s) false w args) (s.post enc Tryz.prog fn false true false false):=by
 refine zf5 (C:=Tryz.checked) (X:=fun w _=>laidMetH Tryz.prog G4 w) (fun _ _ _ hh h=>h.of_heap hh) Tryz.own started hni hfn witness ?_;intro W base args ds gs before hS hval hW hL;rw [nQ] at hL;exact q21 (P:=Tryz.prog) oH hS0 Tryz.laidOut (eR hargs) (tb:=4) hres (by kernel_rfl) hv hsp (fun xs h _=>law xs h) hval (zm6 hS hL) hW
end Go.Proofs.YtlimfobeoodkjaaGreatDoor
