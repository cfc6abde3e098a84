/- Chapter 02: the scanner's runs. -/
import Derived.Test.YtencoceemejcnaaGreatDoorLzCode02
import Derived.Test.YtencoceemejcnaaGreatDoorLzLays02
import Derived.Test.YtencoceemejcnaaGreatDoorLzBld
import Derived.Test.YtencoceemejcnaaGreatDoorLzWCode
import Derived.Test.YtencoceemejcnaaGreatDoorRows
import Derived.Test.YtencoceemejcnaaGreatDoorTie
import Derived.Test.YtencoceemejcnaaGreatDoorCards
import Derived.Test.YtencoceemejcnaaGreatDoorLzRow2
import Derived.ProofKit
import Derived.Lay
import Derived.Lib.LaidTab
import Derived.Lib.LaidU8
import Derived.Handed
import Derived.LaidOnce
import Derived.SevenTiedAt
set_option linter.unusedVariables false
set_option linter.unusedSimpArgs false
namespace Go.Proofs.TryzL
open Go.Proofs.Lz Go.Shelf
def errP (vs:List Value):Prop:=∃ ev,vs=[ev]∧(ev=.nilIface∨∃ t p,ev=.iface t p)
instance:GlobTab:=⟨[(0,fun vs=>∃ m:Int,vs=[.int .i64 m]),(1,fun vs=>vs=Lib.pow10Tab.map fun z=>Value.int .u64 z),(4,errP),(5,errP)]⟩
def extT:Nat→Option (List CV→Option (List CV))
 | 35=>some idxG
 | 43=>some repG
 | 54=>some hpfG
 | 77=>some hasG
 | 84=>some jr0
 | 81=>some jq8
 | 117=>some jk0
 | 118=>some qq2
 | 173=>some cutG
 | _=>none
def arT:Nat→Option Nat
 | 46=>some 1
 | 78=>some 1
 | _=>none
def fnH (n:Nat):Option IFn:=qp1 ((46,stI 63 5)::(78,ccI 63)::fnL) n
def Ev:Env:={ fn:=fnH,md:=mds,ext:=extT,ar:=arT }
theorem x240:Builder.X72 Tryz.prog Tryz.rLays_n240 where
 sizeBuilder:=by kernel_rfl
 liesBuilder:=by kernel_rfl
theorem x169:Builder.Extra Tryz.prog Tryz.rLays_n169 where
 sizeBuilder:=by kernel_rfl
 liesBuilder:=by kernel_rfl
 t5:=Tryz.underlying5
 a5:=Tryz.isAgg5
 z5:=Tryz.sizeOf5
 v5:=Tryz.zeroValue5
 infoByte:=by kernel_rfl
 cellsByte:=by kernel_rfl
 sizeByte:=by kernel_rfl
 neB5:=by decide
theorem x105:Builder.Extra Tryz.prog Tryz.rLays_n105 where
 sizeBuilder:=by kernel_rfl
 liesBuilder:=by kernel_rfl
 t5:=Tryz.underlying5
 a5:=Tryz.isAgg5
 z5:=Tryz.sizeOf5
 v5:=Tryz.zeroValue5
 infoByte:=by kernel_rfl
 cellsByte:=by kernel_rfl
 sizeByte:=by kernel_rfl
 neB5:=by decide
theorem l144:Lays.n144 Tryz.prog Tryz.rLaysM_n144:={ Tryz.lLaysM_n144 with }
theorem en35:∀ args w,(callFunc 35 args).run Tryz.prog w=.ok (.enter 35 args) w:=enters_of Tryz.func35 (by kernel_rfl) rfl
theorem en43:∀ args w,(callFunc 43 args).run Tryz.prog w=.ok (.enter 43 args) w:=enters_of Tryz.func43 (by kernel_rfl) rfl
theorem en54:∀ args w,(callFunc 54 args).run Tryz.prog w=.ok (.enter 54 args) w:=enters_of Tryz.func54 (by kernel_rfl) rfl
theorem en77:∀ args w,(callFunc 77 args).run Tryz.prog w=.ok (.enter 77 args) w:=enters_of Tryz.func77 (by kernel_rfl) rfl
theorem en84:∀ args w,(callFunc 84 args).run Tryz.prog w=.ok (.enter 84 args) w:=enters_of Tryz.func84 (by kernel_rfl) rfl
theorem wx5:∀ args w,(callFunc 117 args).run Tryz.prog w=.ok (.enter 117 args) w:=enters_of Tryz.func117 (by kernel_rfl) rfl
theorem en46:∀ args w,(callFunc 46 args).run Tryz.prog w=.ok (.enter 46 args) w:=enters_of Tryz.func46 (by kernel_rfl) rfl
theorem en78:∀ args w,(callFunc 78 args).run Tryz.prog w=.ok (.enter 78 args) w:=enters_of Tryz.func78 (by kernel_rfl) rfl
theorem en81:∀ args w,(callFunc 81 args).run Tryz.prog w=.ok (.enter 81 args) w:=enters_of Tryz.func81 (by kernel_rfl) rfl
theorem wy3:∀ args w,(callFunc 118 args).run Tryz.prog w=.ok (.enter 118 args) w:=enters_of Tryz.func118 (by kernel_rfl) rfl
theorem wz6:∀ args w,(callFunc 173 args).run Tryz.prog w=.ok (.enter 173 args) w:=enters_of Tryz.func173 (by kernel_rfl) rfl
theorem gl0 (w:World) (F:Nat→Prop) (h:Glob w F):∃ m:Int,w.cell? ⟨0,0,none⟩=some (.int .i64 m):=by
 obtain ⟨vs,_,h2,m,rfl⟩:=j13 (g:=0) (p:=fun vs=>∃ m:Int,vs=[.int .i64 m]) (by simp [GlobTab.tab]) h
 exact ⟨m,h2 0⟩
theorem glE {g:Nat} (hg:(g,errP)∈GlobTab.tab) (w:World) (F:Nat→Prop) (h:Glob w F):∃ ev,w.cell? ⟨g,0,none⟩=some ev∧(ev=.nilIface∨∃ te pe,ev=.iface te pe):=by
 obtain ⟨vs,_,h2,ev,rfl,h3⟩:=j13 hg h
 exact ⟨ev,h2 0,h3⟩
theorem glP (w:World) (F:Nat→Prop) (h:Glob w F):Lib.TabIs Tryz.prog w "internal/strconv.uint64pow10" .u64 Lib.pow10Tab:=by
 obtain ⟨vs,rfl,h2⟩:=w33 (P:=Tryz.prog) (g:=1) (p:=fun vs=>vs=Lib.pow10Tab.map fun z=>Value.int .u64 z) (name:= "internal/strconv.uint64pow10") (by simp [GlobTab.tab]) (by kernel_rfl) h
 exact h2
theorem l145:Lays.n145 Tryz.prog Tryz.rLaysM_n145:={ Tryz.lLaysM_n145 with }
theorem evOk:EnvOk Tryz.prog Ev where
 fn:=by
  intro f g h
  have h:qp1 ((46,stI 63 5)::(78,ccI 63)::fnL) f=some g:=h
  unfold qp1 at h
  cases hb:Nat.beq 46 f with
  | true=>
    have:=Nat.eq_of_beq_eq_true hb
    subst this
    exact .inr (wd1 (T:=63) (e:=5) (ρ:=Tryz.rLays_n169) rfl rfl Tryz.lLays_n169 x169 rfl rfl rfl en46)
  | false=>
    rw [hb] at h
    have h:qp1 ((78,ccI 63)::fnL) f=some g:=h
    unfold qp1 at h
    cases hb2:Nat.beq 78 f with
    | true=>
      have:=Nat.eq_of_beq_eq_true hb2
      subst this
      exact .inr (wl3 (T:=63) (ρ:=Tryz.rLays_n240) rfl rfl Tryz.lLays_n240 x240 rfl rfl en78)
    | false=>
      rw [hb2] at h
      have h:fnT f=some g:=h
      exact .inl (Option.bind_eq_some_iff.1 (wt5 f g h))
 ext:=by
  intro f g h
  simp only [Ev,extT] at h
  split at h<;>first
   | (cases h;done)
   | (injection h with h;subst h;first
       | exact wt4 Tryz.lLays_n137 rfl en35
       | exact wq1 Tryz.lLays_n105 x105 rfl en43
       | exact wv4 Tryz.lLays_n99 rfl en54
       | exact wq0 l144 rfl en77
       | exact we5 Tryz.lLays_n160 rfl en84
       | exact we2 Tryz.lLays_n149 rfl wx5
       | exact wa4 Tryz.lLaysM_n171 rfl en81 glP
       | exact wm5 Tryz.lLaysC_n172 rfl wy3 (glE (g:=4) (by simp [GlobTab.tab])) (glE (g:=5) (by simp [GlobTab.tab]))
       | exact wr1 l145 rfl wz6 gl0)
def tkT:Nat→List Nat
 | 50=>[0]
 | _=>[]
def Vv:WEnv:={ fn:=fnH,md:=mds,tk:=tkT,ext:=extT,ar:=arT }
theorem envR:EnvR Vv Ev:=⟨rfl,rfl,rfl,rfl⟩
theorem vfn8:Vv.fn 8=some ic8:=rfl
theorem v16:Vv.fn 19=some ic19:=rfl
theorem wq8:Vv.fn 20=some ic20:=rfl
theorem wy6:Vv.fn 21=some ic21:=rfl
theorem wu1:Vv.fn 22=some ic22:=rfl
theorem wz9:Vv.fn 23=some ic23:=rfl
theorem v14:Vv.fn 24=some ic24:=rfl
theorem v07:Vv.fn 25=some ic25:=rfl
theorem v05:Vv.fn 26=some ic26:=rfl
theorem wy0:Vv.fn 27=some ic27:=rfl
theorem ww9:Vv.fn 28=some ic28:=rfl
theorem wy1:Vv.fn 29=some ic29:=rfl
theorem ww8:Vv.fn 30=some ic30:=rfl
theorem wd2:Vv.fn 31=some ic31:=rfl
theorem wz5:Vv.fn 32=some ic32:=rfl
theorem wx6:Vv.fn 33=some ic33:=rfl
theorem wy7:Vv.fn 34=some ic34:=rfl
theorem wv9:Vv.fn 36=some ic36:=rfl
theorem v19:Vv.fn 50=some ic50:=rfl
theorem ww1:Vv.fn 51=some ic51:=rfl
theorem v17:Vv.fn 52=some ic52:=rfl
theorem ww7:Vv.fn 53=some ic53:=rfl
theorem v26:Vv.fn 55=some ic55:=rfl
theorem wz3:Vv.fn 56=some ic56:=rfl
theorem v09:Vv.fn 57=some ic57:=rfl
theorem v15:Vv.fn 58=some ic58:=rfl
theorem v25:Vv.fn 59=some ic59:=rfl
theorem ww3:Vv.fn 60=some ic60:=rfl
theorem v01:Vv.fn 86=some ic86:=rfl
theorem v11:Vv.fn 87=some ic87:=rfl
theorem ww4:Vv.fn 88=some ic88:=rfl
theorem wz8:Vv.fn 89=some ic89:=rfl
theorem v12:Vv.fn 90=some ic90:=rfl
theorem wx7:Vv.fn 91=some ic91:=rfl
theorem ww6:Vv.fn 92=some ic92:=rfl
theorem ws9:Vv.fn 114=some wj6:=rfl
theorem wp7:Vv.fn 115=some wl2:=rfl
theorem wr9:Vv.fn 116=some wc7:=rfl
theorem wo6:Vv.fn 119=some wb7:=rfl
theorem wp4:Vv.fn 139=some wm1:=rfl
theorem wo7:Vv.fn 160=some wh6:=rfl
theorem wn5:Vv.fn 161=some wh8:=rfl
theorem wq2:Vv.fn 174=some wd6:=rfl
end Go.Proofs.TryzL
set_option maxRecDepth 100000
namespace Go.Proofs.YtencoceemejcnaaGreatDoor
open Go.ChangeShapes Go.WideShapes Go.ChangeAt Go.RowKit Go.Proofs.Lz
open Go.Proofs.TryzL
theorem Tryz.own:ownKnob Tryz.prog.godebug=none:=by kernel_rfl
theorem Tryz.laidOut:laidOutB Tryz.prog=true:=by kernel_rfl
def zo0:List (String×DataW Unit):=[("math/bits.deBruijn32tab",Rows.laid_math_bits_deBruijn32tab),("math/bits.deBruijn64tab",Rows.laid_math_bits_deBruijn64tab),("internal/strconv.uint64pow10",Rows.laid_internal_strconv_uint64pow10),("unicode/utf8.acceptRanges",Rows.laid_unicode_utf8_acceptRanges),("strconv.ErrRange",Rows.laid_strconv_ErrRange),("strconv.ErrSyntax",Rows.laid_strconv_ErrSyntax),("unicode/utf8.first",Rows.laid_unicode_utf8_first)]
theorem jf2 {W:World} (hS:W.ShapedOpen Tryz.prog) {g:Nat} {t:TypeId} (hg:g<Tryz.prog.globals.size) (hz:(((begin Tryz.prog (fun _ _=>0) default).world.heap[g]?).bind Obj.row?).map (fun p=>(p.1.size,p.2))=some (1,t)) (hb:Tryz.prog.buildable t=true) (hc:Tryz.prog.cellTypes Tryz.prog.depth t=some [t]) (hu:Tryz.prog.underlying t=some (.int .i64)) :
 ∃ m:Int,W.heap[g]?=some (.cells #[.int .i64 m] t):=by
 cases hw:((begin Tryz.prog (fun _ _=>0) default).world.heap[g]?).bind Obj.row? with
 | none=>rw [hw] at hz;cases hz
 | some p=>
   obtain ⟨zero,t'⟩:=p
   rw [hw] at hz
   simp only [Option.map_some,Option.some.injEq,Prod.mk.injEq] at hz
   obtain ⟨hz1,rfl⟩:=hz
   obtain ⟨cs,h1,h2,h3⟩:=hS.1 g zero t' hg hw
   obtain ⟨ts,k1,_,k3⟩:=h3 hb
   rw [hc] at k1
   injection k1 with k1;subst k1
   have hsz:cs.size=1:=by rw [h2,hz1]
   obtain ⟨l⟩:=cs
   match l,hsz,h1,k3 with
   | [v],_,h1,k3=>
     obtain ⟨u,hu1,hu2⟩:=k3 0 v (by simp)
     simp at hu1;subst hu1
     unfold Cell.ok at hu2
     rw [hu] at hu2
     cases v with
     | int k n=>
       obtain ⟨rfl,_⟩:=hu2
       exact ⟨n,h1⟩
     | _=>exact hu2.elim
theorem je2 {W:World} {g:Nat} {cs:Array Value} {t:TypeId} {q:Nat×Nat} (h:W.heap[g]?=some (.cells cs t q)):∀ off,W.cell? ⟨g,off,none⟩=cs.toList[off]?:=by
 intro off
 simp [World.cell?,h]
theorem qr8 {W:World} {n:String} {g:Nat} {cs:Array Value} (hn:Tryz.prog.globalNamed n=some g) (h:W.var? Tryz.prog n=some cs):∀ off,W.cell? ⟨g,off,none⟩=cs.toList[off]?:=by
 intro off
 have:=World.var?_cell hn h off
 rw [this]
 simp
theorem jc7 {W:World} {n:String} {g:Nat} {d:DataW Unit} {s:String} {t:TypeId} {ms:Array (String×TypeId)} (hr:Go.Lib.VarReads Tryz.prog W n (.iface s d)) (hn:Tryz.prog.globalNamed n=some g) (ht:(Tryz.prog.globals[g]?).map (·.type)=some t) (hu:Tryz.prog.underlying t=some (.interface ms)) :
 ∃ vs,vs≠[]∧(∀ off,W.cell? ⟨g,off,none⟩=vs[off]?)∧errP vs:=by
 obtain ⟨g',t',cs,fuel,p,h1,h2,h3,h4⟩:=hr
 obtain rfl:=Option.some.inj (hn.symm.trans h1)
 obtain rfl:=Option.some.inj (ht.symm.trans h2)
 have hv:=qr8 hn h3
 obtain ⟨l⟩:=cs
 cases fuel with
 | zero=>simp [DataW.trod] at h4
 | succ fuel=>
   unfold DataW.trod at h4
   rw [hu] at h4
   have key:∃ u v,l=[.iface u v]:=by
    rcases l with _ | ⟨v,_ | ⟨v2,r⟩⟩
    · cases h4
    · cases v<;>first | exact ⟨_,_,rfl⟩ | (cases h4;done)
    · cases v<;>(cases h4;done)
   obtain ⟨u,v,rfl⟩:=key
   exact ⟨_,by simp,hv,_,rfl,.inr ⟨u,v,rfl⟩⟩
theorem wd9 {W:World} (hS:W.ShapedOpen Tryz.prog) (hL:laidMet Tryz.prog zo0 W):Glob W (fun b=>b<W.heap.size):=by
 have blk:∀ {g:Nat} {cs:List Value},cs≠[]→(∀ off,W.cell? ⟨g,off,none⟩=cs[off]?)→g<W.heap.size:=by
  intro g cs h0 h
  obtain ⟨t,q,hb⟩:=ja1 h0 h
  exact (Array.getElem?_eq_some_iff.1 hb).1
 intro p hp
 have hp:p∈[(0,fun vs:List Value=>∃ m:Int,vs=[.int .i64 m]),(1,fun vs=>vs=Lib.pow10Tab.map fun z=>Value.int .u64 z),(4,errP),(5,errP)]:=hp
 simp only [List.mem_cons,List.not_mem_nil,or_false] at hp
 have key:∃ vs,vs≠[]∧(∀ off,W.cell? ⟨p.1,off,none⟩=vs[off]?)∧p.2 vs:=by
  rcases hp with rfl | rfl | rfl | rfl
  · obtain ⟨m,hm⟩:=jf2 (t:=3) hS (g:=0) (by rw [show Tryz.prog.globals.size=8 by kernel_rfl];decide) (by kernel_rfl) (by kernel_rfl) (by kernel_rfl) (by kernel_rfl)
    exact ⟨[.int .i64 m],by simp,je2 hm,m,rfl⟩
  · obtain ⟨g',t',cs,fuel,q,h1,h2,h3,h4⟩:=Go.Lib.laidMet.reads hL (n:= "internal/strconv.uint64pow10") (d:=Rows.laid_internal_strconv_uint64pow10) (by simp [zo0])
    obtain rfl:=Option.some.inj ((show Tryz.prog.globalNamed "internal/strconv.uint64pow10"=some 1 by kernel_rfl).symm.trans h1)
    obtain rfl:=Option.some.inj ((show (Tryz.prog.globals[1]?).map (·.type)=some 139 by kernel_rfl).symm.trans h2)
    have hcs:=Go.Lib.cells_of_tab (n:=20) (e:=104) (k:=.u64) (zs:=Go.Lib.pow10Tab) (by kernel_rfl) (by kernel_rfl) (by kernel_rfl) (by kernel_rfl) (by rw [h4];rfl)
    have hv:=qr8 (g:=1) (by kernel_rfl) h3
    exact ⟨cs.toList,by rw [hcs];simp [Go.Lib.pow10Tab],hv,hcs⟩
  · exact jc7 (Go.Lib.laidMet.reads hL (n:= "strconv.ErrSyntax") (d:=Rows.laid_strconv_ErrSyntax) (by simp [zo0])) (t:=65) (ms:=#[("Error",72)]) (by kernel_rfl) (by kernel_rfl) (by kernel_rfl)
  · exact jc7 (Go.Lib.laidMet.reads hL (n:= "strconv.ErrRange") (d:=Rows.laid_strconv_ErrRange) (by simp [zo0])) (t:=65) (ms:=#[("Error",72)]) (by kernel_rfl) (by kernel_rfl) (by kernel_rfl)
 obtain ⟨vs,h0,h1,h2⟩:=key
 exact ⟨blk h0 h1,vs,h0,h1,h2⟩
theorem qs5 {H:Type} {enc:TypeId×Value→H} {a:Assume} {C:Checked} {os:Os} {f:FuncId} {fn:Func} {s:ChangeSpec} {conds:List PathCond} {apart fresh handsOn again:Bool} {X:World→Array Value→Prop}
 (hX:∀ (w w':World) (args:Array Value),w.heap=w'.heap→X w args→X w' args)
 (own:ownKnob C.prog.godebug=none) (started:os.Started) (noInit:C.prog.inits.idxOf? f=none) (hfn:C.prog.funcs[f]?=some fn)
 (witness:∃ (w:World) (tape:Tape) (i:Input),w.os=os∧(w.forCall tape i).Shaped C.prog∧i.vars=[]∧Input.okWide C.prog (w.forCall tape i) .any w.heap.size f i ∧
   ((s.pre enc C.prog fn conds apart (w.forCall tape i).memory i.args∧X (w.forCall tape i).memory i.args)∧sizedMet enc C.prog fn (OpenSpec.ofChange s) apart (w.forCall tape i).memory i.args)∧a.holds C.prog (lone (Frame.enter C.prog f i.args .normal) [] (w.forCall tape i)))
 (contract:∀ (W:World) (base:Nat) (args:Array Value) (ds gs:List (DataW H)) (before:List MemPlace),W.ShapedOpen C.prog →
   (∀ (j:Nat) t v,fn.params[j]?=some t→args[j]?=some v→Value.okWide C.prog W .any base t v) →
   DataW.Whole enc C.prog fn.params.toList s.vars apart W args.toList ds gs before→X W args →
   Calls C.prog f args W fun e W'=>∃ v,e=.returned v∧s.post enc C.prog fn apart fresh handsOn again W args v W') :
 ReturnsInHanded a C os f .any (fun w args=>(s.pre enc C.prog fn conds apart w args∧X w args)∧sizedMet enc C.prog fn (OpenSpec.ofChange s) apart w args) (s.post enc C.prog fn apart fresh handsOn again):=by
 refine returnsInHanded_of_calls own started noInit witness ?_
 intro w tape i _ hsh _ hok hpre hholds
 obtain ⟨_,_,_,fn',hfn',_,_,_,_,hval⟩:=hok
 have e:fn'=fn:=Option.some.inj (hfn'.symm.trans hfn)
 subst e
 obtain ⟨⟨⟨ds,gs,before,hw,hc⟩,hx⟩,hz⟩:=hpre
 have hw':=DataW.Whole.of_heap (w':=w.forCall tape i) (by rfl) hw
 refine (contract (w.forCall tape i) w.heap.size i.args ds gs before hsh hval hw' (hX _ _ _ (by rfl) hx)).mono fun e W' ⟨v,he,hp⟩=>?_
 subst he
 exact ChangeSpec.post_blind hp
theorem qj5 (w:World):laidMetH Tryz.prog zo0 w=laidMet Tryz.prog zo0 w:=by
 rw [MakeChecks.laidMetH_plain _ _ _ (by kernel_rfl)]
theorem jg8 (os:Os) (args:Array Value):laidMetH Tryz.prog zo0 ((World.laidAll Tryz.prog os zo0).forCall (fun _ _=>0) ⟨#[],args,[]⟩).memory:=by
 rw [qj5]
 exact laidMet_laidAll _ (by kernel_rfl) (by kernel_rfl)
theorem qv3 (os:Os):(World.laidAll Tryz.prog os zo0).Shaped Tryz.prog:=World.shaped_of_ZipB (by kernel_rfl) (by kernel_rfl)
def jx6 (P:Program) (n:Nat) (ts:List TypeId):Bool:=ts.all fun t=>supT P n t&&(ekOf P t).isSome&&P.readableRec t&&decide (t<P.types.size)
theorem qs1 {P:Program} {n:Nat} {ts:List TypeId} (h:jx6 P n ts=true):∀ t∈ts,supT P n t=true∧(ekOf P t).isSome=true∧P.readableRec t=true∧t<P.types.size:=by
 intro t ht
 have:=List.all_eq_true.1 h t ht
 simp only [Bool.and_eq_true,decide_eq_true_eq] at this
 exact ⟨this.1.1.1,this.1.1.2,this.1.2,this.2⟩
theorem wq9 {f:FuncId} {fn:Func} {s:ChangeSpec} (os:Os) (started:os.Started) {H:Type} (enc:TypeId×Value→H) (hfn:Tryz.prog.funcs[f]?=some fn)
 (hni:Tryz.prog.inits.idxOf? f=none) (hargs:jx6 Tryz.prog 6 fn.params.toList=true) (hres:fn.resultTypes=#[4]) (hv:s.vars=[])
 (hsp:∀ (ds:List (DataW H)),ds.length=fn.params.toList.length→s.fn H ds={ results:=[.lit (.bool true)],args:=ds })
 (witness:∃ (w:World) (tape:Tape) (i:Input),w.os=os∧(w.forCall tape i).Shaped Tryz.checked.prog∧i.vars=[]∧Input.okWide Tryz.checked.prog (w.forCall tape i) .any w.heap.size f i ∧
   ((s.pre enc Tryz.checked.prog fn [] false (w.forCall tape i).memory i.args∧laidMetH Tryz.prog zo0 (w.forCall tape i).memory)∧sizedMet enc Tryz.checked.prog fn (OpenSpec.ofChange s) false (w.forCall tape i).memory i.args)∧({}:Assume).holds Tryz.checked.prog (lone (Frame.enter Tryz.checked.prog f i.args .normal) [] (w.forCall tape i)))
 (law:∀ xs,q70 Tryz.prog 6 fn.params.toList xs→∃ H',ev Ev f (xs.map .c) []=some (.c (.bool true),H')) :
 ReturnsInHanded {} Tryz.checked os f .any (fun w args=>(s.pre enc Tryz.prog fn [] false w args∧laidMetH Tryz.prog zo0 w)∧sizedMet enc Tryz.prog fn (OpenSpec.ofChange s) false w args) (s.post enc Tryz.prog fn false true false false):=by
 refine qs5 (C:=Tryz.checked) (X:=fun w _=>laidMetH Tryz.prog zo0 w) (fun _ _ _ hh h=>h.of_heap hh) Tryz.own started hni hfn witness ?_
 intro W base args ds gs before hS hval hW hL
 rw [qj5] at hL
 exact jx7 (P:=Tryz.prog) evOk Tryz.laidOut (qs1 hargs) (tb:=4) hres (by kernel_rfl) hv hsp law hval (wd9 hS hL) hW
end Go.Proofs.YtencoceemejcnaaGreatDoor
namespace Go.Proofs.TryzL
open Go.Proofs.Lz
def bC (c:UInt8):CV:=.int .u8 c.toNat
def upperB (c:UInt8):Bool:=decide (65≤c.toNat∧c.toNat≤90)
def lowerB (c:UInt8):Bool:=decide (97≤c.toNat∧c.toNat≤122∨c.toNat=95)
def z84 (c:UInt8):Bool:=decide (48≤c.toNat∧c.toNat≤57)
def q14 (c:UInt8):Bool:=decide (c.toNat=9∨c.toNat=10∨32≤c.toNat∧c.toNat≤126)
def z98 (c:UInt8):Bool:=upperB c||lowerB c||z84 c||decide (c.toNat=39)
theorem cb {a b:Bool} (h:a=true↔b=true):CV.bool a=CV.bool b:=by rw [Bool.eq_iff_iff.2 h]
theorem zd1 (c:UInt8):Rets Vv 24 [.c (bC c)] (.c (.bool (upperB c))):=by
 refine z83 v14 ?_
 repeat' first
  | apply z01
  | exact z13
  | exact z19 rfl
  | (apply z17;rfl;rfl)
  | (apply z30;(iterate 3 rfl))
  | (apply z18;rfl;(with_reducible rfl);rfl)
  | (apply z16;rfl;(with_reducible rfl);rfl)
  | apply z02
  | apply z00
  | apply z03
  | apply z15
  | (apply z50;rfl;(with_reducible rfl))
  | (apply z48;rfl;(with_reducible rfl))
  | (apply z40;rfl)
  | (with_reducible apply z78;intro hc)
  | (with_reducible apply z57;intro hc)
  | (apply zb5;rfl)
 all_goals (refine cb ?_;simp [upperB];omega)
theorem zh9 (c:UInt8):Rets Vv 25 [.c (bC c)] (.c (.bool (lowerB c))):=by
 refine z83 v07 ?_
 repeat' first
  | apply z01
  | exact z13
  | exact z19 rfl
  | (apply z17;rfl;rfl)
  | (apply z30;(iterate 3 rfl))
  | (apply z18;rfl;(with_reducible rfl);rfl)
  | (apply z16;rfl;(with_reducible rfl);rfl)
  | apply z02
  | apply z00
  | apply z03
  | apply z15
  | (apply z50;rfl;(with_reducible rfl))
  | (apply z48;rfl;(with_reducible rfl))
  | (apply z41;rfl;(with_reducible rfl))
  | (apply z40;rfl)
  | (with_reducible apply z78;intro hc)
  | (with_reducible apply z57;intro hc)
  | (apply zb5;rfl)
 all_goals (refine cb ?_;simp [lowerB];omega)
theorem zf6 (c:UInt8):Rets Vv 27 [.c (bC c)] (.c (.bool (z84 c))):=by
 refine z83 wy0 ?_
 repeat' first
  | apply z01
  | exact z13
  | exact z19 rfl
  | (apply z17;rfl;rfl)
  | (apply z30;(iterate 3 rfl))
  | (apply z18;rfl;(with_reducible rfl);rfl)
  | (apply z16;rfl;(with_reducible rfl);rfl)
  | apply z02
  | apply z00
  | apply z03
  | apply z15
  | (apply z50;rfl;(with_reducible rfl))
  | (apply z48;rfl;(with_reducible rfl))
  | (apply z40;rfl)
  | (with_reducible apply z78;intro hc)
  | (with_reducible apply z57;intro hc)
  | (apply zb5;rfl)
 all_goals (refine cb ?_;simp [z84];omega)
theorem j18 (c:UInt8):Rets Vv 53 [.c (bC c)] (.c (.bool (q14 c))):=by
 refine z83 ww7 ?_
 repeat' first
  | apply z01
  | exact z13
  | exact z19 rfl
  | (apply z17;rfl;rfl)
  | (apply z30;(iterate 3 rfl))
  | (apply z18;rfl;(with_reducible rfl);rfl)
  | (apply z16;rfl;(with_reducible rfl);rfl)
  | apply z02
  | apply z00
  | apply z03
  | apply z15
  | (apply z50;rfl;(with_reducible rfl))
  | (apply z48;rfl;(with_reducible rfl))
  | (apply z41;rfl;(with_reducible rfl))
  | (apply q12;rfl)
  | (apply z40;rfl)
  | (with_reducible apply za2;intro hc)
  | (with_reducible apply z73;intro hc)
  | (with_reducible apply z78;intro hc)
  | (with_reducible apply z57;intro hc)
  | (apply zb5;rfl)
 all_goals (refine cb ?_;simp [q14];omega)
theorem wa8 (c:UInt8):Rets Vv 56 [.c (bC c)] (.c (.bool (z98 c))):=by
 refine z83 wz3 ?_
 repeat' first
  | apply z01
  | exact z13
  | exact z19 rfl
  | (apply z17;rfl;rfl)
  | (apply z30;(iterate 3 rfl))
  | (apply z18;rfl;(with_reducible rfl);rfl)
  | (apply z16;rfl;(with_reducible rfl);rfl)
  | (apply z05 (hc:=zd1 c);rfl;rfl;rfl)
  | (apply z05 (hc:=zh9 c);rfl;rfl;rfl)
  | (apply z05 (hc:=zf6 c);rfl;rfl;rfl)
  | apply z02
  | apply z00
  | apply z03
  | apply z15
  | (apply z50;rfl;(with_reducible rfl))
  | (apply z41;rfl;(with_reducible rfl))
  | (apply z40;rfl)
  | (with_reducible apply zh7;intro hc)
  | (apply zb5;rfl)
 all_goals (refine cb ?_;simp [z98, *])
 all_goals omega
def symS:List UInt8:=[33,35,36,37,38,42,43,46,47,60,61,62,63,64,92,94,124,45,126,58]
def spS:List UInt8:=[40,41,91,93,123,125,44,59,96]
def symB (c:UInt8):Bool:=symS.contains c
theorem zx8 (s:List UInt8) (c:UInt8):Rets Vv 35 [.c (.str s),.c (bC c)] (.c (.int .i64 (Lib.indexByte s c))):=by
 have h:=zt1 (V:=Vv) (f:=35) (xs:=[.str s,bC c]) (u:=.int .i64 (Lib.indexByte s c)) (g:=idxG) rfl rfl (by simp [idxG,bC])
 exact h
theorem q25 (c:UInt8):∀ s:List UInt8,decide (0≤Lib.indexByte s c)=s.contains c:=by
 intro s
 induction s with
 | nil=>simp [Lib.indexByte]
 | cons x r ih=>
   have hge:=Lib.indexByte_ge r c
   simp only [Lib.indexByte,List.contains_cons,← ih]
   by_cases h:x=c
   · subst h;simp
   · have h1:(x==c)=false:=by simpa using h
     have h2:(c==x)=false:=by simpa using Ne.symm h
     simp only [h1,h2,Bool.false_eq_true,if_false,Bool.false_or]
     by_cases h3:Lib.indexByte r c=-1
     · simp [h3]
     · have h4:(Lib.indexByte r c==-1)=false:=by simpa using h3
       simp only [h4,Bool.false_eq_true,if_false,decide_eq_decide]
       omega
theorem zj0 (c:UInt8):Rets Vv 30 [.c (bC c)] (.c (.bool (symB c))):=by
 refine z83 ww8 ?_
 repeat' first
  | apply z01
  | exact z13
  | (apply z17;rfl;rfl)
  | (apply z30;(iterate 3 rfl))
  | (apply z05 (hc:=zx8 symS c);rfl;rfl;rfl)
  | apply z02
  | apply z00
  | apply z03
  | apply z15
  | (apply zb5;rfl)
 rw [q25]
 rfl
end Go.Proofs.TryzL
namespace Go.Proofs.TryzL
open Go.Proofs.Lz
structure Sc where
 src:List UInt8
 pos:Nat
 line:Nat
 col:Nat
 code:Nat
 name:List UInt8
 fl:Nat
 fc:Nat
def scC (s:Sc):List WV:=[.c (.str s.src),.c (.int .i64 s.pos),.c (.int .i64 s.line),.c (.int .i64 s.col),.c (.int .i64 s.code),.c (.str s.name),.c (.int .i64 s.fl),.c (.int .i64 s.fc)]
def z74 (p:UInt8→Bool) (l:List UInt8) (i:Nat):List UInt8:=(l.drop i).takeWhile p
theorem q28 {p:UInt8→Bool} {l:List UInt8} {i n:Nat} (h1:∀ j,j<n→∃ c,l[i+j]?=some c∧p c=true) (h2:∀ c,l[i+n]?=some c→p c=false):z74 p l i=(l.drop i).take n:=by
 unfold z74
 have key:∀ (l:List UInt8) (n:Nat),(∀ j,j<n→∃ c,l[j]?=some c∧p c=true)→(∀ c,l[n]?=some c→p c=false)→l.takeWhile p=l.take n:=by
  intro l
  induction l with
  | nil=>intro n _ _;simp
  | cons x l ih=>
    intro n h1 h2
    cases n with
    | zero=>
      have:=h2 x (by simp)
      simp [List.takeWhile_cons,this]
    | succ n=>
      obtain ⟨c,hc,hp⟩:=h1 0 (by omega)
      simp at hc
      subst hc
      rw [List.takeWhile_cons,if_pos hp,List.take_succ_cons,ih n]
      · intro j hj
        obtain ⟨c,hc,hp⟩:=h1 (j+1) (by omega)
        exact ⟨c,by simpa using hc,hp⟩
      · intro c hc
        exact h2 c (by simpa using hc)
 refine key _ n ?_ ?_
 · intro j hj;obtain ⟨c,hc,hp⟩:=h1 j hj;exact ⟨c,by simpa using hc,hp⟩
 · intro c hc;exact h2 c (by simpa using hc)
theorem wk1 {H:z06} {id i:Nat} {s:Sc} (hH:H[id]?=some (.var (some 8) (scC s))) (hi:i≤s.src.length) (hl:s.src.length<2^60) :
 Shr Vv 31 [.ptr id 0,.c (.int .i64 i),.c (.fn 56 [] [])] H (.c (.str (z74 z98 s.src i))) (fun H'=>H'=H):=by
 refine zm1 wd2 ?_
 repeat' first
  | apply z01
  | exact z13
  | (apply z17;rfl;rfl)
  | apply z02
  | apply z00
  | apply z03
  | apply z09
 refine zk5 (fun n:Nat=>[(0,.ptr id 0),(1,.c (.int .i64 i)),(2,.c (.fn 56 [] [])),(7,.c (.int .i64 (i+n:Nat)))]) (fun n=>i+n≤s.src.length∧∀ j,j<n→∃ c,s.src[i+j]?=some c∧z98 c=true) (fun n=>s.src.length - (i+n)) 0 ?_ ⟨by omega,by intro j hj;omega⟩ ?_
 · repeat' first
    | exact z28
    | refine z67 rfl ?_
 rintro n ⟨hn,hall⟩
 repeat' first
  | apply z01
  | exact z13
  | exact z19 rfl
  | (apply z17;rfl;rfl)
  | (apply za3;rfl;rfl;omega)
  | (apply z30;(iterate 3 rfl))
  | (apply z42;rfl)
  | (apply z18;rfl;(with_reducible rfl);rfl)
  | (apply z16;rfl;(with_reducible rfl);rfl)
  | (apply z60;(iterate 3 rfl);exact List.getElem?_eq_getElem (by omega))
  | (apply z23;rfl;rfl)
  | (apply z07;rfl;rfl)
  | (apply z27;rfl;rfl)
  | (apply zx6;(iterate 5 rfl);omega)
  | (apply z08;rfl;rfl;(assumption);rfl)
  | (apply qm4 (hc:=wa8 s.src[i+n]);rfl;rfl;rfl;rfl)
  | (apply z04;focus (repeat (first | exact z28 | (apply kq_c;rfl) | (apply z49;rfl))))
  | apply z02
  | apply z00
  | apply z03
  | apply z09
  | apply z12
  | apply z15
  | apply z61
  | (apply z35;rfl;(with_reducible rfl))
  | (apply z14;rfl)
  | (apply z50;rfl;(with_reducible rfl))
  | (apply z48;rfl;(with_reducible rfl))
  | (apply z40;rfl)
  | (with_reducible apply z78;intro hc)
  | (with_reducible apply z57;intro hc)
  | (with_reducible apply zh7;intro hc)
 · refine ⟨n+1,?_,rfl,⟨by omega,?_⟩,by omega⟩
   · repeat' first
      | exact z28
      | refine z67 rfl ?_
   · intro j hj
     by_cases h:j<n
     · exact hall j h
     · have:j=n:=by omega
       subst this
       exact ⟨_,List.getElem?_eq_getElem (by omega),hc⟩
 · refine zo4 rfl ?_ rfl
   rw [q28 hall (fun c hcc=>by rw [List.getElem?_eq_getElem (by omega)] at hcc;injection hcc with hcc;rw [← hcc];exact hc),Nat.add_sub_cancel_left]
 · refine zo4 rfl ?_ rfl
   rw [q28 hall (fun c hcc=>by rw [List.getElem?_eq_none (by omega)] at hcc;cases hcc),Nat.add_sub_cancel_left]
theorem wd4 {H:z06} {id i:Nat} {s:Sc} (hH:H[id]?=some (.var (some 8) (scC s))) (hi:i≤s.src.length) (hl:s.src.length<2^60) :
 Shr Vv 31 [.ptr id 0,.c (.int .i64 i),.c (.fn 30 [] [])] H (.c (.str (z74 symB s.src i))) (fun H'=>H'=H):=by
 refine zm1 wd2 ?_
 repeat' first
  | apply z01
  | exact z13
  | (apply z17;rfl;rfl)
  | apply z02
  | apply z00
  | apply z03
  | apply z09
 refine zk5 (fun n:Nat=>[(0,.ptr id 0),(1,.c (.int .i64 i)),(2,.c (.fn 30 [] [])),(7,.c (.int .i64 (i+n:Nat)))]) (fun n=>i+n≤s.src.length∧∀ j,j<n→∃ c,s.src[i+j]?=some c∧symB c=true) (fun n=>s.src.length - (i+n)) 0 ?_ ⟨by omega,by intro j hj;omega⟩ ?_
 · repeat' first
    | exact z28
    | refine z67 rfl ?_
 rintro n ⟨hn,hall⟩
 repeat' first
  | apply z01
  | exact z13
  | exact z19 rfl
  | (apply z17;rfl;rfl)
  | (apply za3;rfl;rfl;omega)
  | (apply z30;(iterate 3 rfl))
  | (apply z42;rfl)
  | (apply z18;rfl;(with_reducible rfl);rfl)
  | (apply z16;rfl;(with_reducible rfl);rfl)
  | (apply z60;(iterate 3 rfl);exact List.getElem?_eq_getElem (by omega))
  | (apply z23;rfl;rfl)
  | (apply z07;rfl;rfl)
  | (apply z27;rfl;rfl)
  | (apply zx6;(iterate 5 rfl);omega)
  | (apply z08;rfl;rfl;(assumption);rfl)
  | (apply qm4 (hc:=zj0 s.src[i+n]);rfl;rfl;rfl;rfl)
  | (apply z04;focus (repeat (first | exact z28 | (apply kq_c;rfl) | (apply z49;rfl))))
  | apply z02
  | apply z00
  | apply z03
  | apply z09
  | apply z12
  | apply z15
  | apply z61
  | (apply z35;rfl;(with_reducible rfl))
  | (apply z14;rfl)
  | (apply z50;rfl;(with_reducible rfl))
  | (apply z48;rfl;(with_reducible rfl))
  | (apply z40;rfl)
  | (with_reducible apply z78;intro hc)
  | (with_reducible apply z57;intro hc)
  | (with_reducible apply zh7;intro hc)
 · refine ⟨n+1,?_,rfl,⟨by omega,?_⟩,by omega⟩
   · repeat' first
      | exact z28
      | refine z67 rfl ?_
   · intro j hj
     by_cases h:j<n
     · exact hall j h
     · have:j=n:=by omega
       subst this
       exact ⟨_,List.getElem?_eq_getElem (by omega),hc⟩
 · refine zo4 rfl ?_ rfl
   rw [q28 hall (fun c hcc=>by rw [List.getElem?_eq_getElem (by omega)] at hcc;injection hcc with hcc;rw [← hcc];exact hc),Nat.add_sub_cancel_left]
 · refine zo4 rfl ?_ rfl
   rw [q28 hall (fun c hcc=>by rw [List.getElem?_eq_none (by omega)] at hcc;cases hcc),Nat.add_sub_cancel_left]
theorem wc2 {H:z06} {id i:Nat} {s:Sc} (hH:H[id]?=some (.var (some 8) (scC s))) (hi:i≤s.src.length) (hl:s.src.length<2^60) :
 Shr Vv 31 [.ptr id 0,.c (.int .i64 i),.c (.fn 27 [] [])] H (.c (.str (z74 z84 s.src i))) (fun H'=>H'=H):=by
 refine zm1 wd2 ?_
 repeat' first
  | apply z01
  | exact z13
  | (apply z17;rfl;rfl)
  | apply z02
  | apply z00
  | apply z03
  | apply z09
 refine zk5 (fun n:Nat=>[(0,.ptr id 0),(1,.c (.int .i64 i)),(2,.c (.fn 27 [] [])),(7,.c (.int .i64 (i+n:Nat)))]) (fun n=>i+n≤s.src.length∧∀ j,j<n→∃ c,s.src[i+j]?=some c∧z84 c=true) (fun n=>s.src.length - (i+n)) 0 ?_ ⟨by omega,by intro j hj;omega⟩ ?_
 · repeat' first
    | exact z28
    | refine z67 rfl ?_
 rintro n ⟨hn,hall⟩
 repeat' first
  | apply z01
  | exact z13
  | exact z19 rfl
  | (apply z17;rfl;rfl)
  | (apply za3;rfl;rfl;omega)
  | (apply z30;(iterate 3 rfl))
  | (apply z42;rfl)
  | (apply z18;rfl;(with_reducible rfl);rfl)
  | (apply z16;rfl;(with_reducible rfl);rfl)
  | (apply z60;(iterate 3 rfl);exact List.getElem?_eq_getElem (by omega))
  | (apply z23;rfl;rfl)
  | (apply z07;rfl;rfl)
  | (apply z27;rfl;rfl)
  | (apply zx6;(iterate 5 rfl);omega)
  | (apply z08;rfl;rfl;(assumption);rfl)
  | (apply qm4 (hc:=zf6 s.src[i+n]);rfl;rfl;rfl;rfl)
  | (apply z04;focus (repeat (first | exact z28 | (apply kq_c;rfl) | (apply z49;rfl))))
  | apply z02
  | apply z00
  | apply z03
  | apply z09
  | apply z12
  | apply z15
  | apply z61
  | (apply z35;rfl;(with_reducible rfl))
  | (apply z14;rfl)
  | (apply z50;rfl;(with_reducible rfl))
  | (apply z48;rfl;(with_reducible rfl))
  | (apply z40;rfl)
  | (with_reducible apply z78;intro hc)
  | (with_reducible apply z57;intro hc)
  | (with_reducible apply zh7;intro hc)
 · refine ⟨n+1,?_,rfl,⟨by omega,?_⟩,by omega⟩
   · repeat' first
      | exact z28
      | refine z67 rfl ?_
   · intro j hj
     by_cases h:j<n
     · exact hall j h
     · have:j=n:=by omega
       subst this
       exact ⟨_,List.getElem?_eq_getElem (by omega),hc⟩
 · refine zo4 rfl ?_ rfl
   rw [q28 hall (fun c hcc=>by rw [List.getElem?_eq_getElem (by omega)] at hcc;injection hcc with hcc;rw [← hcc];exact hc),Nat.add_sub_cancel_left]
 · refine zo4 rfl ?_ rfl
   rw [q28 hall (fun c hcc=>by rw [List.getElem?_eq_none (by omega)] at hcc;cases hcc),Nat.add_sub_cancel_left]
end Go.Proofs.TryzL
