/- Chapter 02: fail, short. -/
import Derived.Test.YtencoceemejcnaaGreatDoorRows
import Derived.Test.YtencoceemejcnaaGreatDoorTie
import Derived.Test.YtencoceemejcnaaGreatDoorCards
import Derived.Test.YtencoceemejcnaaGreatDoorLzV02
import Derived.Test.YtencoceemejcnaaGreatDoorLzRow2
import Derived.Test.YtencoceemejcnaaGreatDoorLzWCode
import Derived.ProofKit
import Derived.Lay
import Derived.Lib.LaidTab
import Derived.Lib.LaidU8
import Derived.Handed
import Derived.LaidOnce
import Derived.SevenTiedAt
set_option linter.unusedVariables false
set_option linter.unusedSimpArgs false
set_option maxRecDepth 100000
namespace Go.Proofs.YtencoceemejcnaaGreatDoor
open Go.ChangeShapes Go.WideShapes Go.ChangeAt Go.RowKit Go.Proofs.Lz
open Go.Proofs.TryzL
theorem Tryz.own:ownKnob Tryz.prog.godebug=none:=by kernel_rfl
theorem Tryz.laidOut:laidOutB Tryz.prog=true:=by kernel_rfl
def zp5:List (String×DataW Unit):=[("math/bits.deBruijn32tab",Rows.laid_math_bits_deBruijn32tab),("math/bits.deBruijn64tab",Rows.laid_math_bits_deBruijn64tab),("internal/strconv.uint64pow10",Rows.laid_internal_strconv_uint64pow10),("unicode/utf8.acceptRanges",Rows.laid_unicode_utf8_acceptRanges),("strconv.ErrRange",Rows.laid_strconv_ErrRange),("strconv.ErrSyntax",Rows.laid_strconv_ErrSyntax),("unicode/utf8.first",Rows.laid_unicode_utf8_first)]
theorem jh4 {W:World} (hS:W.ShapedOpen Tryz.prog) {g:Nat} {t:TypeId} (hg:g<Tryz.prog.globals.size) (hz:(((begin Tryz.prog (fun _ _=>0) default).world.heap[g]?).bind Obj.row?).map (fun p=>(p.1.size,p.2))=some (1,t)) (hb:Tryz.prog.buildable t=true) (hc:Tryz.prog.cellTypes Tryz.prog.depth t=some [t]) (hu:Tryz.prog.underlying t=some (.int .i64)) :
 ∃ m:Int,W.heap[g]?=some (.cells #[.int .i64 m] t):=by
 cases hw:((begin Tryz.prog (fun _ _=>0) default).world.heap[g]?).bind Obj.row? with
 | none=>rw [hw] at hz;cases hz
 | some p=>
   obtain ⟨zero,t'⟩:=p
   rw [hw] at hz
   simp only [Option.map_some,Option.some.injEq,Prod.mk.injEq] at hz
   obtain ⟨hz1,rfl⟩:=hz
   obtain ⟨cs,h1,h2,h3⟩:=hS.1 g zero t' hg hw
   obtain ⟨ts,k1,_,k3⟩:=h3 hb
   rw [hc] at k1
   injection k1 with k1;subst k1
   have hsz:cs.size=1:=by rw [h2,hz1]
   obtain ⟨l⟩:=cs
   match l,hsz,h1,k3 with
   | [v],_,h1,k3=>
     obtain ⟨u,hu1,hu2⟩:=k3 0 v (by simp)
     simp at hu1;subst hu1
     unfold Cell.ok at hu2
     rw [hu] at hu2
     cases v with
     | int k n=>
       obtain ⟨rfl,_⟩:=hu2
       exact ⟨n,h1⟩
     | _=>exact hu2.elim
theorem jf3 {W:World} {g:Nat} {cs:Array Value} {t:TypeId} {q:Nat×Nat} (h:W.heap[g]?=some (.cells cs t q)):∀ off,W.cell? ⟨g,off,none⟩=cs.toList[off]?:=by
 intro off
 simp [World.cell?,h]
theorem qx7 {W:World} {n:String} {g:Nat} {cs:Array Value} (hn:Tryz.prog.globalNamed n=some g) (h:W.var? Tryz.prog n=some cs):∀ off,W.cell? ⟨g,off,none⟩=cs.toList[off]?:=by
 intro off
 have:=World.var?_cell hn h off
 rw [this]
 simp
theorem ja7 {W:World} {n:String} {g:Nat} {d:DataW Unit} {s:String} {t:TypeId} {ms:Array (String×TypeId)} (hr:Go.Lib.VarReads Tryz.prog W n (.iface s d)) (hn:Tryz.prog.globalNamed n=some g) (ht:(Tryz.prog.globals[g]?).map (·.type)=some t) (hu:Tryz.prog.underlying t=some (.interface ms)) :
 ∃ vs,vs≠[]∧(∀ off,W.cell? ⟨g,off,none⟩=vs[off]?)∧errP vs:=by
 obtain ⟨g',t',cs,fuel,p,h1,h2,h3,h4⟩:=hr
 obtain rfl:=Option.some.inj (hn.symm.trans h1)
 obtain rfl:=Option.some.inj (ht.symm.trans h2)
 have hv:=qx7 hn h3
 obtain ⟨l⟩:=cs
 cases fuel with
 | zero=>simp [DataW.trod] at h4
 | succ fuel=>
   unfold DataW.trod at h4
   rw [hu] at h4
   have key:∃ u v,l=[.iface u v]:=by
    rcases l with _ | ⟨v,_ | ⟨v2,r⟩⟩
    · cases h4
    · cases v<;>first | exact ⟨_,_,rfl⟩ | (cases h4;done)
    · cases v<;>(cases h4;done)
   obtain ⟨u,v,rfl⟩:=key
   exact ⟨_,by simp,hv,_,rfl,.inr ⟨u,v,rfl⟩⟩
theorem wp2 {W:World} (hS:W.ShapedOpen Tryz.prog) (hL:laidMet Tryz.prog zp5 W):Glob W (fun b=>b<W.heap.size):=by
 have blk:∀ {g:Nat} {cs:List Value},cs≠[]→(∀ off,W.cell? ⟨g,off,none⟩=cs[off]?)→g<W.heap.size:=by
  intro g cs h0 h
  obtain ⟨t,q,hb⟩:=j86 h0 h
  exact (Array.getElem?_eq_some_iff.1 hb).1
 intro p hp
 have hp:p∈[(0,fun vs:List Value=>∃ m:Int,vs=[.int .i64 m]),(1,fun vs=>vs=Lib.pow10Tab.map fun z=>Value.int .u64 z),(4,errP),(5,errP)]:=hp
 simp only [List.mem_cons,List.not_mem_nil,or_false] at hp
 have key:∃ vs,vs≠[]∧(∀ off,W.cell? ⟨p.1,off,none⟩=vs[off]?)∧p.2 vs:=by
  rcases hp with rfl | rfl | rfl | rfl
  · obtain ⟨m,hm⟩:=jh4 (t:=3) hS (g:=0) (by rw [show Tryz.prog.globals.size=8 by kernel_rfl];decide) (by kernel_rfl) (by kernel_rfl) (by kernel_rfl) (by kernel_rfl)
    exact ⟨[.int .i64 m],by simp,jf3 hm,m,rfl⟩
  · obtain ⟨g',t',cs,fuel,q,h1,h2,h3,h4⟩:=Go.Lib.laidMet.reads hL (n:= "internal/strconv.uint64pow10") (d:=Rows.laid_internal_strconv_uint64pow10) (by simp [zp5])
    obtain rfl:=Option.some.inj ((show Tryz.prog.globalNamed "internal/strconv.uint64pow10"=some 1 by kernel_rfl).symm.trans h1)
    obtain rfl:=Option.some.inj ((show (Tryz.prog.globals[1]?).map (·.type)=some 139 by kernel_rfl).symm.trans h2)
    have hcs:=Go.Lib.cells_of_tab (n:=20) (e:=104) (k:=.u64) (zs:=Go.Lib.pow10Tab) (by kernel_rfl) (by kernel_rfl) (by kernel_rfl) (by kernel_rfl) (by rw [h4];rfl)
    have hv:=qx7 (g:=1) (by kernel_rfl) h3
    exact ⟨cs.toList,by rw [hcs];simp [Go.Lib.pow10Tab],hv,hcs⟩
  · exact ja7 (Go.Lib.laidMet.reads hL (n:= "strconv.ErrSyntax") (d:=Rows.laid_strconv_ErrSyntax) (by simp [zp5])) (t:=65) (ms:=#[("Error",72)]) (by kernel_rfl) (by kernel_rfl) (by kernel_rfl)
  · exact ja7 (Go.Lib.laidMet.reads hL (n:= "strconv.ErrRange") (d:=Rows.laid_strconv_ErrRange) (by simp [zp5])) (t:=65) (ms:=#[("Error",72)]) (by kernel_rfl) (by kernel_rfl) (by kernel_rfl)
 obtain ⟨vs,h0,h1,h2⟩:=key
 exact ⟨blk h0 h1,vs,h0,h1,h2⟩
theorem qy4 {H:Type} {enc:TypeId×Value→H} {a:Assume} {C:Checked} {os:Os} {f:FuncId} {fn:Func} {s:ChangeSpec} {conds:List PathCond} {apart fresh handsOn again:Bool} {X:World→Array Value→Prop}
 (hX:∀ (w w':World) (args:Array Value),w.heap=w'.heap→X w args→X w' args)
 (own:ownKnob C.prog.godebug=none) (started:os.Started) (noInit:C.prog.inits.idxOf? f=none) (hfn:C.prog.funcs[f]?=some fn)
 (witness:∃ (w:World) (tape:Tape) (i:Input),w.os=os∧(w.forCall tape i).Shaped C.prog∧i.vars=[]∧Input.okWide C.prog (w.forCall tape i) .any w.heap.size f i ∧
   ((s.pre enc C.prog fn conds apart (w.forCall tape i).memory i.args∧X (w.forCall tape i).memory i.args)∧sizedMet enc C.prog fn (OpenSpec.ofChange s) apart (w.forCall tape i).memory i.args)∧a.holds C.prog (lone (Frame.enter C.prog f i.args .normal) [] (w.forCall tape i)))
 (contract:∀ (W:World) (base:Nat) (args:Array Value) (ds gs:List (DataW H)) (before:List MemPlace),W.ShapedOpen C.prog →
   (∀ (j:Nat) t v,fn.params[j]?=some t→args[j]?=some v→Value.okWide C.prog W .any base t v) →
   DataW.Whole enc C.prog fn.params.toList s.vars apart W args.toList ds gs before→X W args →
   Calls C.prog f args W fun e W'=>∃ v,e=.returned v∧s.post enc C.prog fn apart fresh handsOn again W args v W') :
 ReturnsInHanded a C os f .any (fun w args=>(s.pre enc C.prog fn conds apart w args∧X w args)∧sizedMet enc C.prog fn (OpenSpec.ofChange s) apart w args) (s.post enc C.prog fn apart fresh handsOn again):=by
 refine returnsInHanded_of_calls own started noInit witness ?_
 intro w tape i _ hsh _ hok hpre hholds
 obtain ⟨_,_,_,fn',hfn',_,_,_,_,hval⟩:=hok
 have e:fn'=fn:=Option.some.inj (hfn'.symm.trans hfn)
 subst e
 obtain ⟨⟨⟨ds,gs,before,hw,hc⟩,hx⟩,hz⟩:=hpre
 have hw':=DataW.Whole.of_heap (w':=w.forCall tape i) (by rfl) hw
 refine (contract (w.forCall tape i) w.heap.size i.args ds gs before hsh hval hw' (hX _ _ _ (by rfl) hx)).mono fun e W' ⟨v,he,hp⟩=>?_
 subst he
 exact ChangeSpec.post_blind hp
theorem ql3 (w:World):laidMetH Tryz.prog zp5 w=laidMet Tryz.prog zp5 w:=by
 rw [MakeChecks.laidMetH_plain _ _ _ (by kernel_rfl)]
theorem jh6 (os:Os) (args:Array Value):laidMetH Tryz.prog zp5 ((World.laidAll Tryz.prog os zp5).forCall (fun _ _=>0) ⟨#[],args,[]⟩).memory:=by
 rw [ql3]
 exact laidMet_laidAll _ (by kernel_rfl) (by kernel_rfl)
theorem qz0 (os:Os):(World.laidAll Tryz.prog os zp5).Shaped Tryz.prog:=World.shaped_of_ZipB (by kernel_rfl) (by kernel_rfl)
def jy4 (P:Program) (n:Nat) (ts:List TypeId):Bool:=ts.all fun t=>supT P n t&&(ekOf P t).isSome&&P.readableRec t&&decide (t<P.types.size)
theorem qw6 {P:Program} {n:Nat} {ts:List TypeId} (h:jy4 P n ts=true):∀ t∈ts,supT P n t=true∧(ekOf P t).isSome=true∧P.readableRec t=true∧t<P.types.size:=by
 intro t ht
 have:=List.all_eq_true.1 h t ht
 simp only [Bool.and_eq_true,decide_eq_true_eq] at this
 exact ⟨this.1.1.1,this.1.1.2,this.1.2,this.2⟩
theorem v00 {f:FuncId} {fn:Func} {s:ChangeSpec} (os:Os) (started:os.Started) {H:Type} (enc:TypeId×Value→H) (hfn:Tryz.prog.funcs[f]?=some fn)
 (hni:Tryz.prog.inits.idxOf? f=none) (hargs:jy4 Tryz.prog 6 fn.params.toList=true) (hres:fn.resultTypes=#[4]) (hv:s.vars=[])
 (hsp:∀ (ds:List (DataW H)),ds.length=fn.params.toList.length→s.fn H ds={ results:=[.lit (.bool true)],args:=ds })
 (witness:∃ (w:World) (tape:Tape) (i:Input),w.os=os∧(w.forCall tape i).Shaped Tryz.checked.prog∧i.vars=[]∧Input.okWide Tryz.checked.prog (w.forCall tape i) .any w.heap.size f i ∧
   ((s.pre enc Tryz.checked.prog fn [] false (w.forCall tape i).memory i.args∧laidMetH Tryz.prog zp5 (w.forCall tape i).memory)∧sizedMet enc Tryz.checked.prog fn (OpenSpec.ofChange s) false (w.forCall tape i).memory i.args)∧({}:Assume).holds Tryz.checked.prog (lone (Frame.enter Tryz.checked.prog f i.args .normal) [] (w.forCall tape i)))
 (law:∀ xs,q82 Tryz.prog 6 fn.params.toList xs→∃ H',ev Ev f (xs.map .c) []=some (.c (.bool true),H')) :
 ReturnsInHanded {} Tryz.checked os f .any (fun w args=>(s.pre enc Tryz.prog fn [] false w args∧laidMetH Tryz.prog zp5 w)∧sizedMet enc Tryz.prog fn (OpenSpec.ofChange s) false w args) (s.post enc Tryz.prog fn false true false false):=by
 refine qy4 (C:=Tryz.checked) (X:=fun w _=>laidMetH Tryz.prog zp5 w) (fun _ _ _ hh h=>h.of_heap hh) Tryz.own started hni hfn witness ?_
 intro W base args ds gs before hS hval hW hL
 rw [ql3] at hL
 exact w04 (P:=Tryz.prog) evOk Tryz.laidOut (qw6 hargs) (tb:=4) hres (by kernel_rfl) hv hsp law hval (wp2 hS hL) hW
end Go.Proofs.YtencoceemejcnaaGreatDoor
namespace Go.Proofs.TryzL
open Go.Proofs.Lz
def bC (c:UInt8):CV:=.int .u8 c.toNat
def upperB (c:UInt8):Bool:=decide (65≤c.toNat∧c.toNat≤90)
def lowerB (c:UInt8):Bool:=decide (97≤c.toNat∧c.toNat≤122∨c.toNat=95)
def z93 (c:UInt8):Bool:=decide (48≤c.toNat∧c.toNat≤57)
def q34 (c:UInt8):Bool:=decide (c.toNat=9∨c.toNat=10∨32≤c.toNat∧c.toNat≤126)
def zb1 (c:UInt8):Bool:=upperB c||lowerB c||z93 c||decide (c.toNat=39)
theorem cb {a b:Bool} (h:a=true↔b=true):CV.bool a=CV.bool b:=by rw [Bool.eq_iff_iff.2 h]
theorem zf0 (c:UInt8):Rets Vv 24 [.c (bC c)] (.c (.bool (upperB c))):=by
 refine z67 vb9 ?_
 repeat' first
  | apply z01
  | exact z13
  | exact z19 rfl
  | (apply z15;rfl;rfl)
  | (apply z30;(iterate 3 rfl))
  | (apply z17;rfl;(with_reducible rfl);rfl)
  | (apply z16;rfl;(with_reducible rfl);rfl)
  | apply z02
  | apply z00
  | apply z03
  | apply z09
  | (apply z47;rfl;(with_reducible rfl))
  | (apply z43;rfl;(with_reducible rfl))
  | (apply z39;rfl)
  | (with_reducible apply z69;intro hc)
  | (with_reducible apply z52;intro hc)
  | (apply z98;rfl)
 all_goals (refine cb ?_;simp [upperB];omega)
theorem zj1 (c:UInt8):Rets Vv 25 [.c (bC c)] (.c (.bool (lowerB c))):=by
 refine z67 v33 ?_
 repeat' first
  | apply z01
  | exact z13
  | exact z19 rfl
  | (apply z15;rfl;rfl)
  | (apply z30;(iterate 3 rfl))
  | (apply z17;rfl;(with_reducible rfl);rfl)
  | (apply z16;rfl;(with_reducible rfl);rfl)
  | apply z02
  | apply z00
  | apply z03
  | apply z09
  | (apply z47;rfl;(with_reducible rfl))
  | (apply z43;rfl;(with_reducible rfl))
  | (apply z41;rfl;(with_reducible rfl))
  | (apply z39;rfl)
  | (with_reducible apply z69;intro hc)
  | (with_reducible apply z52;intro hc)
  | (apply z98;rfl)
 all_goals (refine cb ?_;simp [lowerB];omega)
theorem zh5 (c:UInt8):Rets Vv 27 [.c (bC c)] (.c (.bool (z93 c))):=by
 refine z67 v82 ?_
 repeat' first
  | apply z01
  | exact z13
  | exact z19 rfl
  | (apply z15;rfl;rfl)
  | (apply z30;(iterate 3 rfl))
  | (apply z17;rfl;(with_reducible rfl);rfl)
  | (apply z16;rfl;(with_reducible rfl);rfl)
  | apply z02
  | apply z00
  | apply z03
  | apply z09
  | (apply z47;rfl;(with_reducible rfl))
  | (apply z43;rfl;(with_reducible rfl))
  | (apply z39;rfl)
  | (with_reducible apply z69;intro hc)
  | (with_reducible apply z52;intro hc)
  | (apply z98;rfl)
 all_goals (refine cb ?_;simp [z93];omega)
theorem j60 (c:UInt8):Rets Vv 53 [.c (bC c)] (.c (.bool (q34 c))):=by
 refine z67 v44 ?_
 repeat' first
  | apply z01
  | exact z13
  | exact z19 rfl
  | (apply z15;rfl;rfl)
  | (apply z30;(iterate 3 rfl))
  | (apply z17;rfl;(with_reducible rfl);rfl)
  | (apply z16;rfl;(with_reducible rfl);rfl)
  | apply z02
  | apply z00
  | apply z03
  | apply z09
  | (apply z47;rfl;(with_reducible rfl))
  | (apply z43;rfl;(with_reducible rfl))
  | (apply z41;rfl;(with_reducible rfl))
  | (apply zc2;rfl)
  | (apply z39;rfl)
  | (with_reducible apply za1;intro hc)
  | (with_reducible apply z71;intro hc)
  | (with_reducible apply z69;intro hc)
  | (with_reducible apply z52;intro hc)
  | (apply z98;rfl)
 all_goals (refine cb ?_;simp [q34];omega)
theorem wr0 (c:UInt8):Rets Vv 56 [.c (bC c)] (.c (.bool (zb1 c))):=by
 refine z67 v36 ?_
 repeat' first
  | apply z01
  | exact z13
  | exact z19 rfl
  | (apply z15;rfl;rfl)
  | (apply z30;(iterate 3 rfl))
  | (apply z17;rfl;(with_reducible rfl);rfl)
  | (apply z16;rfl;(with_reducible rfl);rfl)
  | (apply z08 (hc:=zf0 c);rfl;rfl;rfl)
  | (apply z08 (hc:=zj1 c);rfl;rfl;rfl)
  | (apply z08 (hc:=zh5 c);rfl;rfl;rfl)
  | apply z02
  | apply z00
  | apply z03
  | apply z09
  | (apply z47;rfl;(with_reducible rfl))
  | (apply z41;rfl;(with_reducible rfl))
  | (apply z39;rfl)
  | (with_reducible apply zh6;intro hc)
  | (apply z98;rfl)
 all_goals (refine cb ?_;simp [zb1, *])
 all_goals omega
def symS:List UInt8:=[33,35,36,37,38,42,43,46,47,60,61,62,63,64,92,94,124,45,126,58]
def spS:List UInt8:=[40,41,91,93,123,125,44,59,96]
def symB (c:UInt8):Bool:=symS.contains c
theorem zy2 (s:List UInt8) (c:UInt8):Rets Vv 35 [.c (.str s),.c (bC c)] (.c (.int .i64 (Lib.indexByte s c))):=by
 have h:=zn3 (V:=Vv) (f:=35) (xs:=[.str s,bC c]) (u:=.int .i64 (Lib.indexByte s c)) (g:=idxG) rfl rfl (by simp [idxG,bC])
 exact h
theorem q07 (c:UInt8):∀ s:List UInt8,decide (0≤Lib.indexByte s c)=s.contains c:=by
 intro s
 induction s with
 | nil=>simp [Lib.indexByte]
 | cons x r ih=>
   have hge:=Lib.indexByte_ge r c
   simp only [Lib.indexByte,List.contains_cons,← ih]
   by_cases h:x=c
   · subst h;simp
   · have h1:(x==c)=false:=by simpa using h
     have h2:(c==x)=false:=by simpa using Ne.symm h
     simp only [h1,h2,Bool.false_eq_true,if_false,Bool.false_or]
     by_cases h3:Lib.indexByte r c=-1
     · simp [h3]
     · have h4:(Lib.indexByte r c==-1)=false:=by simpa using h3
       simp only [h4,Bool.false_eq_true,if_false,decide_eq_decide]
       omega
theorem zl0 (c:UInt8):Rets Vv 30 [.c (bC c)] (.c (.bool (symB c))):=by
 refine z67 v43 ?_
 repeat' first
  | apply z01
  | exact z13
  | (apply z15;rfl;rfl)
  | (apply z30;(iterate 3 rfl))
  | (apply z08 (hc:=zy2 symS c);rfl;rfl;rfl)
  | apply z02
  | apply z00
  | apply z03
  | apply z09
  | (apply z98;rfl)
 rw [q07]
 rfl
end Go.Proofs.TryzL
namespace Go.Proofs.TryzL
open Go.Proofs.Lz
structure Sc where
 src:List UInt8
 pos:Nat
 line:Nat
 col:Nat
 code:Nat
 name:List UInt8
 fl:Nat
 fc:Nat
def scC (s:Sc):List WV:=[.c (.str s.src),.c (.int .i64 s.pos),.c (.int .i64 s.line),.c (.int .i64 s.col),.c (.int .i64 s.code),.c (.str s.name),.c (.int .i64 s.fl),.c (.int .i64 s.fc)]
def z87 (p:UInt8→Bool) (l:List UInt8) (i:Nat):List UInt8:=(l.drop i).takeWhile p
theorem q75 {p:UInt8→Bool} {l:List UInt8} {i n:Nat} (h1:∀ j,j<n→∃ c,l[i+j]?=some c∧p c=true) (h2:∀ c,l[i+n]?=some c→p c=false):z87 p l i=(l.drop i).take n:=by
 unfold z87
 have key:∀ (l:List UInt8) (n:Nat),(∀ j,j<n→∃ c,l[j]?=some c∧p c=true)→(∀ c,l[n]?=some c→p c=false)→l.takeWhile p=l.take n:=by
  intro l
  induction l with
  | nil=>intro n _ _;simp
  | cons x l ih=>
    intro n h1 h2
    cases n with
    | zero=>
      have:=h2 x (by simp)
      simp [List.takeWhile_cons,this]
    | succ n=>
      obtain ⟨c,hc,hp⟩:=h1 0 (by omega)
      simp at hc
      subst hc
      rw [List.takeWhile_cons,if_pos hp,List.take_succ_cons,ih n]
      · intro j hj
        obtain ⟨c,hc,hp⟩:=h1 (j+1) (by omega)
        exact ⟨c,by simpa using hc,hp⟩
      · intro c hc
        exact h2 c (by simpa using hc)
 refine key _ n ?_ ?_
 · intro j hj;obtain ⟨c,hc,hp⟩:=h1 j hj;exact ⟨c,by simpa using hc,hp⟩
 · intro c hc;exact h2 c (by simpa using hc)
theorem wn8 {H:z18} {id i:Nat} {s:Sc} (hH:H[id]?=some (.var (some 8) (scC s))) (hi:i≤s.src.length) (hl:s.src.length<2^60) :
 Shr Vv 31 [.ptr id 0,.c (.int .i64 i),.c (.fn 56 [] [])] H (.c (.str (z87 zb1 s.src i))) (fun H'=>H'=H):=by
 refine zh9 wo1 ?_
 repeat' first
  | apply z01
  | exact z13
  | (apply z15;rfl;rfl)
  | apply z02
  | apply z00
  | apply z03
  | apply z05
 refine zd2 (fun n:Nat=>[(0,.ptr id 0),(1,.c (.int .i64 i)),(2,.c (.fn 56 [] [])),(7,.c (.int .i64 (i+n:Nat)))]) (fun n=>i+n≤s.src.length∧∀ j,j<n→∃ c,s.src[i+j]?=some c∧zb1 c=true) (fun n=>s.src.length - (i+n)) 0 ?_ ⟨by omega,by intro j hj;omega⟩ ?_
 · repeat' first
    | exact z23
    | refine z64 rfl ?_
 rintro n ⟨hn,hall⟩
 repeat' first
  | apply z01
  | exact z13
  | exact z19 rfl
  | (apply z15;rfl;rfl)
  | (apply z99;rfl;rfl;omega)
  | (apply z30;(iterate 3 rfl))
  | (apply z44;rfl)
  | (apply z17;rfl;(with_reducible rfl);rfl)
  | (apply z16;rfl;(with_reducible rfl);rfl)
  | (apply z68;(iterate 3 rfl);exact List.getElem?_eq_getElem (by omega))
  | (apply z24;rfl;rfl)
  | (apply z14;rfl;rfl)
  | (apply z29;rfl;rfl)
  | (apply zz0;(iterate 5 rfl);omega)
  | (apply z22;rfl;rfl;(assumption);rfl)
  | (apply qn5 (hc:=wr0 s.src[i+n]);rfl;rfl;rfl;rfl)
  | (apply z04;focus (repeat (first | exact z23 | (apply kq_c;rfl) | (apply z50;rfl))))
  | apply z02
  | apply z00
  | apply z03
  | apply z05
  | apply z07
  | apply z09
  | apply z56
  | (apply z32;rfl;(with_reducible rfl))
  | (apply z12;rfl)
  | (apply z47;rfl;(with_reducible rfl))
  | (apply z43;rfl;(with_reducible rfl))
  | (apply z39;rfl)
  | (with_reducible apply z69;intro hc)
  | (with_reducible apply z52;intro hc)
  | (with_reducible apply zh6;intro hc)
 · refine ⟨n+1,?_,rfl,⟨by omega,?_⟩,by omega⟩
   · repeat' first
      | exact z23
      | refine z64 rfl ?_
   · intro j hj
     by_cases h:j<n
     · exact hall j h
     · have:j=n:=by omega
       subst this
       exact ⟨_,List.getElem?_eq_getElem (by omega),hc⟩
 · refine zk0 rfl ?_ rfl
   rw [q75 hall (fun c hcc=>by rw [List.getElem?_eq_getElem (by omega)] at hcc;injection hcc with hcc;rw [← hcc];exact hc),Nat.add_sub_cancel_left]
 · refine zk0 rfl ?_ rfl
   rw [q75 hall (fun c hcc=>by rw [List.getElem?_eq_none (by omega)] at hcc;cases hcc),Nat.add_sub_cancel_left]
theorem wr3 {H:z18} {id i:Nat} {s:Sc} (hH:H[id]?=some (.var (some 8) (scC s))) (hi:i≤s.src.length) (hl:s.src.length<2^60) :
 Shr Vv 31 [.ptr id 0,.c (.int .i64 i),.c (.fn 30 [] [])] H (.c (.str (z87 symB s.src i))) (fun H'=>H'=H):=by
 refine zh9 wo1 ?_
 repeat' first
  | apply z01
  | exact z13
  | (apply z15;rfl;rfl)
  | apply z02
  | apply z00
  | apply z03
  | apply z05
 refine zd2 (fun n:Nat=>[(0,.ptr id 0),(1,.c (.int .i64 i)),(2,.c (.fn 30 [] [])),(7,.c (.int .i64 (i+n:Nat)))]) (fun n=>i+n≤s.src.length∧∀ j,j<n→∃ c,s.src[i+j]?=some c∧symB c=true) (fun n=>s.src.length - (i+n)) 0 ?_ ⟨by omega,by intro j hj;omega⟩ ?_
 · repeat' first
    | exact z23
    | refine z64 rfl ?_
 rintro n ⟨hn,hall⟩
 repeat' first
  | apply z01
  | exact z13
  | exact z19 rfl
  | (apply z15;rfl;rfl)
  | (apply z99;rfl;rfl;omega)
  | (apply z30;(iterate 3 rfl))
  | (apply z44;rfl)
  | (apply z17;rfl;(with_reducible rfl);rfl)
  | (apply z16;rfl;(with_reducible rfl);rfl)
  | (apply z68;(iterate 3 rfl);exact List.getElem?_eq_getElem (by omega))
  | (apply z24;rfl;rfl)
  | (apply z14;rfl;rfl)
  | (apply z29;rfl;rfl)
  | (apply zz0;(iterate 5 rfl);omega)
  | (apply z22;rfl;rfl;(assumption);rfl)
  | (apply qn5 (hc:=zl0 s.src[i+n]);rfl;rfl;rfl;rfl)
  | (apply z04;focus (repeat (first | exact z23 | (apply kq_c;rfl) | (apply z50;rfl))))
  | apply z02
  | apply z00
  | apply z03
  | apply z05
  | apply z07
  | apply z09
  | apply z56
  | (apply z32;rfl;(with_reducible rfl))
  | (apply z12;rfl)
  | (apply z47;rfl;(with_reducible rfl))
  | (apply z43;rfl;(with_reducible rfl))
  | (apply z39;rfl)
  | (with_reducible apply z69;intro hc)
  | (with_reducible apply z52;intro hc)
  | (with_reducible apply zh6;intro hc)
 · refine ⟨n+1,?_,rfl,⟨by omega,?_⟩,by omega⟩
   · repeat' first
      | exact z23
      | refine z64 rfl ?_
   · intro j hj
     by_cases h:j<n
     · exact hall j h
     · have:j=n:=by omega
       subst this
       exact ⟨_,List.getElem?_eq_getElem (by omega),hc⟩
 · refine zk0 rfl ?_ rfl
   rw [q75 hall (fun c hcc=>by rw [List.getElem?_eq_getElem (by omega)] at hcc;injection hcc with hcc;rw [← hcc];exact hc),Nat.add_sub_cancel_left]
 · refine zk0 rfl ?_ rfl
   rw [q75 hall (fun c hcc=>by rw [List.getElem?_eq_none (by omega)] at hcc;cases hcc),Nat.add_sub_cancel_left]
theorem wl1 {H:z18} {id i:Nat} {s:Sc} (hH:H[id]?=some (.var (some 8) (scC s))) (hi:i≤s.src.length) (hl:s.src.length<2^60) :
 Shr Vv 31 [.ptr id 0,.c (.int .i64 i),.c (.fn 27 [] [])] H (.c (.str (z87 z93 s.src i))) (fun H'=>H'=H):=by
 refine zh9 wo1 ?_
 repeat' first
  | apply z01
  | exact z13
  | (apply z15;rfl;rfl)
  | apply z02
  | apply z00
  | apply z03
  | apply z05
 refine zd2 (fun n:Nat=>[(0,.ptr id 0),(1,.c (.int .i64 i)),(2,.c (.fn 27 [] [])),(7,.c (.int .i64 (i+n:Nat)))]) (fun n=>i+n≤s.src.length∧∀ j,j<n→∃ c,s.src[i+j]?=some c∧z93 c=true) (fun n=>s.src.length - (i+n)) 0 ?_ ⟨by omega,by intro j hj;omega⟩ ?_
 · repeat' first
    | exact z23
    | refine z64 rfl ?_
 rintro n ⟨hn,hall⟩
 repeat' first
  | apply z01
  | exact z13
  | exact z19 rfl
  | (apply z15;rfl;rfl)
  | (apply z99;rfl;rfl;omega)
  | (apply z30;(iterate 3 rfl))
  | (apply z44;rfl)
  | (apply z17;rfl;(with_reducible rfl);rfl)
  | (apply z16;rfl;(with_reducible rfl);rfl)
  | (apply z68;(iterate 3 rfl);exact List.getElem?_eq_getElem (by omega))
  | (apply z24;rfl;rfl)
  | (apply z14;rfl;rfl)
  | (apply z29;rfl;rfl)
  | (apply zz0;(iterate 5 rfl);omega)
  | (apply z22;rfl;rfl;(assumption);rfl)
  | (apply qn5 (hc:=zh5 s.src[i+n]);rfl;rfl;rfl;rfl)
  | (apply z04;focus (repeat (first | exact z23 | (apply kq_c;rfl) | (apply z50;rfl))))
  | apply z02
  | apply z00
  | apply z03
  | apply z05
  | apply z07
  | apply z09
  | apply z56
  | (apply z32;rfl;(with_reducible rfl))
  | (apply z12;rfl)
  | (apply z47;rfl;(with_reducible rfl))
  | (apply z43;rfl;(with_reducible rfl))
  | (apply z39;rfl)
  | (with_reducible apply z69;intro hc)
  | (with_reducible apply z52;intro hc)
  | (with_reducible apply zh6;intro hc)
 · refine ⟨n+1,?_,rfl,⟨by omega,?_⟩,by omega⟩
   · repeat' first
      | exact z23
      | refine z64 rfl ?_
   · intro j hj
     by_cases h:j<n
     · exact hall j h
     · have:j=n:=by omega
       subst this
       exact ⟨_,List.getElem?_eq_getElem (by omega),hc⟩
 · refine zk0 rfl ?_ rfl
   rw [q75 hall (fun c hcc=>by rw [List.getElem?_eq_getElem (by omega)] at hcc;injection hcc with hcc;rw [← hcc];exact hc),Nat.add_sub_cancel_left]
 · refine zk0 rfl ?_ rfl
   rw [q75 hall (fun c hcc=>by rw [List.getElem?_eq_none (by omega)] at hcc;cases hcc),Nat.add_sub_cancel_left]
end Go.Proofs.TryzL
namespace Go.Proofs.TryzL
open Go.Proofs.Lz
def qi3 (t:List UInt8):Bool:=decide (2≤t.length)&&t.all (·==45)
theorem jm8 {p:UInt8→Bool}:∀ l:List UInt8,l.dropWhile p=[]↔∀ x∈l,p x=true:=by
 intro l
 induction l with
 | nil=>simp
 | cons x l ih=>
   by_cases h:p x=true
   · rw [List.dropWhile_cons_of_pos h,ih];simp [h]
   · rw [List.dropWhile_cons_of_neg h];simp [h]
theorem w17 (t:List UInt8):Lib.trimB t 45=[]↔∀ x∈t,x=45:=by
 unfold Lib.trimB Lib.trimLeftB Lib.trimRightB
 rw [jm8]
 constructor
 · intro h
   have h1:t.reverse.dropWhile (·==45)=[]:=by
    cases hd:t.reverse.dropWhile (·==45) with
    | nil=>rfl
    | cons a r=>
      have ha:=h a (by rw [hd];simp)
      have hn:=List.head_dropWhile_not (·==(45:UInt8)) (by rw [hd];simp:t.reverse.dropWhile (·==45)≠[])
      simp only [hd,List.head_cons] at hn
      rw [ha] at hn
      cases hn
   have:=(jm8 (p:=(·==(45:UInt8))) t.reverse).1 h1
   intro x hx
   simpa using this x (by simpa using hx)
 · intro h x hx
   have h1:t.reverse.dropWhile (·==45)=[]:=(jm8 (p:=(·==(45:UInt8))) t.reverse).2 (fun y hy=>by simpa using h y (by simpa using hy))
   rw [h1] at hx
   simp at hx
theorem w15 (s:List UInt8) (h:s.length<2^60):Rets Vv 84 [.c (.str s),.c (.str [45])] (.c (.str (Lib.trimB s 45))):=by
 have h:=zn3 (V:=Vv) (f:=84) (xs:=[.str s,.str [45]]) (u:=.str (Lib.trimB s 45)) (g:=jz4) rfl rfl (by simp only [jz4];rw [if_pos ⟨by decide,by omega⟩])
 exact h
theorem jb2 (t:List UInt8) (h:t.length<2^60):Rets Vv 52 [.c (.str t)] (.c (.bool (qi3 t))):=by
 refine z67 v91 ?_
 repeat' first
  | apply z01
  | exact z13
  | exact z19 rfl
  | (apply z15;rfl;rfl)
  | (apply z30;(iterate 3 rfl))
  | (apply z44;rfl)
  | (apply z17;rfl;(with_reducible rfl);rfl)
  | (apply z16;rfl;(with_reducible rfl);rfl)
  | (apply z08 (hc:=w15 t h);rfl;rfl;rfl)
  | apply z02
  | apply z00
  | apply z03
  | apply z09
  | (apply z47;rfl;(with_reducible rfl))
  | (apply z43;rfl;(with_reducible rfl))
  | (apply z39;rfl)
  | (with_reducible apply z69;intro hc)
  | (with_reducible apply z52;intro hc)
  | (apply z98;rfl)
 · refine cb ?_
   have h2:2≤t.length:=by omega
   simp [qi3,h2,w17]
 · refine cb ?_
   have h2:¬ 2≤t.length:=by omega
   simp [qi3,h2]
def zm7 (s:Sc):Sc:=match s.src[s.pos]? with
 | none=>s
 | some c=>if c=10 then { s with pos:=s.pos+1,line:=s.line+1,col:=1 } else if c=9 then { s with pos:=s.pos+1,col:=s.col+(8 - (s.col - 1) % 8) } else { s with pos:=s.pos+1,col:=s.col+1 }
def q27:Nat→Sc→Sc
 | 0,s=>s
 | n+1,s=>q27 n (zm7 s)
theorem q52:∀ (n:Nat) (s:Sc),q27 (n+1) s=zm7 (q27 n s)
 | 0,s=>rfl
 | n+1,s=>by
   show q27 (n+1) (zm7 s)=_
   rw [q52 n (zm7 s)]
   rfl
structure ScOk (s:Sc):Prop where
 line:s.line≤s.pos+1
 col:s.col≤8 * s.pos+1
 col1:1≤s.col
theorem w42 {s:Sc} (h:s.pos<s.src.length):(zm7 s).pos=s.pos+1∧(zm7 s).src=s.src:=by
 unfold zm7
 rw [List.getElem?_eq_getElem h]
 dsimp only
 split
 · exact ⟨rfl,rfl⟩
 · split<;>exact ⟨rfl,rfl⟩
theorem step_ok {s:Sc} (h:ScOk s):ScOk (zm7 s):=by
 unfold zm7
 cases hc:s.src[s.pos]? with
 | none=>exact h
 | some c=>
   dsimp only
   obtain ⟨h1,h2,h3⟩:=h
   split
   · exact ⟨by dsimp only;omega,by dsimp only;omega,by dsimp only;omega⟩
   · split
     · exact ⟨by dsimp only;omega,by dsimp only;omega,by dsimp only;omega⟩
     · exact ⟨by dsimp only;omega,by dsimp only;omega,by dsimp only;omega⟩
theorem wv1 {s:Sc} (h:ScOk s):∀ n,s.pos+n≤s.src.length→ScOk (q27 n s)∧(q27 n s).pos=s.pos+n∧(q27 n s).src=s.src:=by
 intro n
 induction n with
 | zero=>intro _;exact ⟨h,rfl,rfl⟩
 | succ n ih=>
   intro hn
   obtain ⟨h1,h2,h3⟩:=ih (by omega)
   rw [q52]
   obtain ⟨k1,k2⟩:=w42 (s:=q27 n s) (by rw [h2,h3];omega)
   exact ⟨step_ok h1,by rw [k1,h2];omega,by rw [k2,h3]⟩
def KpH (id:Nat) (H H':z18):Prop:=∀ i o,i≠id→H[i]?=some o→H'[i]?=some o
theorem jv6 {H:z18} {id n:Nat} {s:Sc} (hH:H[id]?=some (.var (some 8) (scC s))) (hok:ScOk s) (hn:s.pos+n≤s.src.length) (hl:s.src.length<2^50) :
 Shr Vv 34 [.ptr id 0,.c (.int .i64 n)] H (.tup []) (fun H'=>H'[id]?=some (.var (some 8) (scC (q27 n s)))∧KpH id H H'):=by
 refine zh9 v81 ?_
 repeat' first
  | apply z01
  | exact z13
  | (apply z15;rfl;rfl)
  | apply z02
  | apply z00
  | apply z03
  | apply z05
 refine zk7 (fun k:Nat=>[(0,.ptr id 0),(4,.c (.int .i64 n)),(5,.c (.int .i64 k))]) (fun k H'=>k≤n∧H'[id]?=some (.var (some 8) (scC (q27 k s)))∧KpH id H H') (fun k=>n - k) 0 ?_ ⟨by omega,hH,fun _ _ _ h=>h⟩ ?_
 · repeat' first
    | exact z23
    | refine z64 rfl ?_
 rintro k H1 ⟨hk,hH1,kp1⟩
 obtain ⟨⟨o1,o2,o3⟩,p1,p2⟩:=wv1 hok k (by omega)
 generalize hs':q27 k s=s' at *
 by_cases hkn:k<n
 · have hpos:s'.pos<s'.src.length:=by rw [p1,p2];omega
   have hg:s'.src[s'.pos]?=some s'.src[s'.pos]:=List.getElem?_eq_getElem hpos
   have kk:q27 (k+1) s=zm7 s':=by rw [q52,hs']
   repeat' first
    | apply z01
    | exact z13
    | exact z19 rfl
    | (apply z15;rfl;rfl)
    | (apply z99;rfl;rfl;omega)
    | (apply zp2;rfl;rfl;omega)
    | (apply z30;(iterate 3 rfl))
    | (apply z68;(iterate 3 rfl);assumption)
    | (apply z24;rfl;rfl)
    | (apply z14;rfl;rfl)
    | (apply z29;rfl;rfl)
    | (apply z22;rfl;rfl;(assumption);rfl)
    | (apply za8;(iterate 4 rfl);(assumption);rfl;rfl;intro H1 hH1 kH1)
    | (apply z04;focus (repeat (first | exact z23 | (apply kq_c;rfl) | (apply z50;rfl))))
    | apply z02
    | apply z00
    | apply z03
    | apply z05
    | apply z07
    | apply z56
    | (apply zb6;rfl)
    | apply z25
    | apply z54
    | (apply z12;rfl)
    | (apply z62;(exact rfl))
    | (with_reducible apply za1;intro hc)
    | (with_reducible apply z71;intro hc)
    | (with_reducible apply z69;intro hc)
    | (with_reducible apply z52;intro hc)
    | (apply z48;rfl)
    | (apply z55;rfl)
    | (apply q58;rfl)
    | (apply dand;rfl)
   · rename_i A1 A2 A3 B1 B2 B3
     refine ⟨k+1,?_,⟨by omega,?_,?_⟩,by omega⟩
     · repeat' first
        | exact z23
        | refine z64 rfl ?_
     · have h10:s'.src[s'.pos]=10:=UInt8.toNat_inj.1 (by simp;omega)
       rw [hH1,kk]
       simp [zm7,hg,h10,scC,z96,WV.flat]
     · exact fun i o hi ho=>kH1 i o hi (B3 i o hi (A3 i o hi (kp1 i o hi ho)))
   · rename_i B1 B2 B3
     refine ⟨k+1,?_,⟨by omega,?_,?_⟩,by omega⟩
     · repeat' first
        | exact z23
        | refine z64 rfl ?_
     · have h9:s'.src[s'.pos]=9:=UInt8.toNat_inj.1 (by simp;omega)
       have hw:IntKind.i64.wrap (↑s'.col+IntKind.i64.wrap (8 - ((s'.col:Int) - 1).tmod 8))=((s'.col+(8 - (s'.col - 1) % 8):Nat):Int):=by
        have e1:((s'.col:Int) - 1).tmod 8=((s'.col - 1) % 8:Nat):=by
         rw [Int.tmod_eq_emod_of_nonneg (by omega)];omega
        have e2:IntKind.i64.wrap (8 - (((s'.col - 1) % 8:Nat):Int))=8 - (((s'.col - 1) % 8:Nat):Int):=wrap64 (by omega)
        rw [e1,e2,wrap64 (by omega)]
        omega
       rw [hH1,kk,hw]
       simp [zm7,hg,h9,scC,z96,WV.flat]
     · exact fun i o hi ho=>kH1 i o hi (B3 i o hi (kp1 i o hi ho))
   · rename_i hc0 B1 B2 B3
     refine ⟨k+1,?_,⟨by omega,?_,?_⟩,by omega⟩
     · repeat' first
        | exact z23
        | refine z64 rfl ?_
     · have h10:s'.src[s'.pos]≠10:=fun e=>hc0 (by rw [e];rfl)
       have h9:s'.src[s'.pos]≠9:=fun e=>hc (by rw [e];rfl)
       rw [hH1,kk]
       simp [zm7,hg,h10,h9,scC,z96,WV.flat]
     · exact fun i o hi ho=>kH1 i o hi (B3 i o hi (kp1 i o hi ho))
   all_goals omega
 · have hkn':k=n:=by omega
   subst hkn'
   repeat' first
    | apply z01
    | exact z13
    | exact z19 rfl
    | (apply z15;rfl;rfl)
    | (apply z99;rfl;rfl;omega)
    | (apply zp2;rfl;rfl;omega)
    | (apply z30;(iterate 3 rfl))
    | (apply z68;(iterate 3 rfl);exact List.getElem?_eq_getElem (by omega))
    | (apply z24;rfl;rfl)
    | (apply z14;rfl;rfl)
    | (apply z29;rfl;rfl)
    | (apply z22;rfl;rfl;(assumption);rfl)
    | (apply za8;(iterate 4 rfl);(assumption);rfl;rfl;intro H1 hH1 kH1)
    | (apply z04;focus (repeat (first | exact z23 | (apply kq_c;rfl) | (apply z50;rfl))))
    | apply z02
    | apply z00
    | apply z03
    | apply z05
    | apply z07
    | apply z56
    | (apply zb6;rfl)
    | apply z25
    | apply z54
    | (apply z12;rfl)
    | (apply z62;(exact rfl))
    | (with_reducible apply za1;intro hc)
    | (with_reducible apply z71;intro hc)
    | (with_reducible apply z69;intro hc)
    | (with_reducible apply z52;intro hc)
    | (apply z48;rfl)
    | (apply z55;rfl)
    | (apply q58;rfl)
    | (apply dand;rfl)
   all_goals first
    | omega
    | exact wo9 ⟨by rw [hs'];assumption,by assumption⟩
end Go.Proofs.TryzL
namespace Go.Proofs.TryzL
open Go.Proofs.Lz
def q83 (code:Nat) (nm:List UInt8) (s:Sc):Sc:=if s.code=0 then { s with code:=code,name:=nm,fl:=s.line,fc:=s.col } else s
theorem we0 {H:z18} {id code:Nat} {nm:List UInt8} {s:Sc} (hH:H[id]?=some (.var (some 8) (scC s))) :
 Shr Vv 36 [.ptr id 0,.c (.int .i64 code),.c (.str nm)] H (.c (.bool false)) (fun H'=>H'[id]?=some (.var (some 8) (scC (q83 code nm s)))∧KpH id H H'):=by
 refine zh9 v90 ?_
 repeat' first
  | apply z01
  | exact z13
  | exact z19 rfl
  | (apply z15;rfl;rfl)
  | (apply z30;(iterate 3 rfl))
  | (apply z78;(iterate 3 rfl))
  | (apply z24;rfl;rfl)
  | (apply z14;rfl;rfl)
  | (apply z29;rfl;rfl)
  | (apply z22;rfl;rfl;(assumption);rfl)
  | (apply za8;(iterate 4 rfl);(assumption);rfl;rfl;intro H1 hH1 kH1)
  | (apply z04;focus (repeat (first | exact z23 | (apply kq_c;rfl) | (apply z50;rfl))))
  | apply z02
  | apply z00
  | apply z03
  | apply z07
  | apply z09
  | apply z25
  | apply z54
  | (apply z12;rfl)
  | (apply z62;(exact rfl))
  | (with_reducible apply za1;intro hc)
  | (with_reducible apply z71;intro hc)
  | (apply z48;rfl)
  | (apply z55;rfl)
  | (apply q58;rfl)
  | (apply dand;rfl)
 · have h0:s.code=0:=by omega
   refine zk0 rfl rfl ⟨?_,kH1⟩
   rw [hH1]
   simp [q83,h0,scC,z96,WV.flat]
 · have h0:s.code≠0:=by omega
   exact zk0 rfl rfl ⟨by rw [q83,if_neg h0];exact hH,fun _ _ _ h=>h⟩
theorem jq5 {H:z18} {id:Nat} {t:List UInt8} {s:Sc} (hH:H[id]?=some (.var (some 8) (scC s))) (hl:t.length<2^60) :
 Shr Vv 32 [.ptr id 0,.c (.str t)] H (.c (.bool (decide (t.length≤64)))) (fun H'=>H'[id]?=some (.var (some 8) (scC (if t.length≤64 then s else q83 3 (t.take 64) s)))∧KpH id H H'):=by
 refine zh9 v78 ?_
 repeat' first
  | apply z01
  | exact z13
  | exact z19 rfl
  | (apply z15;rfl;rfl)
  | (apply z30;(iterate 3 rfl))
  | (apply z44;rfl)
  | (apply z24;rfl;rfl)
  | (apply jk4;rfl;rfl;omega;omega)
  | (apply z27 (hc:=⟨(we0 (code:=3) (nm:=t.take 64) hH).run⟩);rfl;rfl;(exact rfl);rfl;(exact z13);rintro H1 ⟨r1,k1⟩)
  | (apply z04;focus (repeat (first | exact z23 | (apply kq_c;rfl) | (apply z50;rfl))))
  | apply z02
  | apply z00
  | apply z03
  | apply z07
  | apply z09
  | (apply z12;rfl)
  | (with_reducible apply z69;intro hc)
  | (with_reducible apply z52;intro hc)
 · have h0:¬ t.length≤64:=by omega
   refine zk0 rfl (by simp [h0]) ⟨?_,k1⟩
   rw [if_neg h0];exact r1
 · have h0:t.length≤64:=by omega
   exact zk0 rfl (by simp [h0]) ⟨by rw [if_pos h0];exact hH,fun _ _ _ h=>h⟩
end Go.Proofs.TryzL
