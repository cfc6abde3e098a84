/- Patterns compared: the program's SamePat and the reference's. -/
import Derived.Test.YtclbpddolhgibaaGreatDoorRows
import Derived.Test.YtclbpddolhgibaaGreatDoorTie
import Derived.Test.YtclbpddolhgibaaGreatDoorCards
import Derived.Test.YtclbpddolhgibaaGreatDoorLzV06
import Derived.Test.YtclbpddolhgibaaGreatDoorLzRow3
import Derived.Test.YtclbpddolhgibaaGreatDoorLzWCode
import Derived.ProofKit
import Derived.Lay
import Derived.Lib.LaidTab
import Derived.Lib.LaidU8
import Derived.Handed
import Derived.LaidOnce
import Derived.SevenTiedAt
set_option linter.unusedVariables false
set_option linter.unusedSimpArgs false
set_option maxRecDepth 100000
namespace Go.Proofs.YtclbpddolhgibaaGreatDoor
open Go.ChangeShapes Go.WideShapes Go.ChangeAt Go.RowKit Go.Proofs.Lz
open Go.Proofs.TryzL
theorem Tryz.own:ownKnob Tryz.prog.godebug=none:=by kernel_rfl
theorem Tryz.laidOut:laidOutB Tryz.prog=true:=by kernel_rfl
def O4:List (String×DataW Unit):=[("math/bits.deBruijn32tab",Rows.laid_math_bits_deBruijn32tab),("math/bits.deBruijn64tab",Rows.laid_math_bits_deBruijn64tab),("internal/strconv.uint64pow10",Rows.laid_internal_strconv_uint64pow10),("strconv.ErrRange",Rows.laid_strconv_ErrRange),("strconv.ErrSyntax",Rows.laid_strconv_ErrSyntax)]
theorem zd9 {W:World} (hS:W.ShapedOpen Tryz.prog) {g:Nat} {t:TypeId} (hg:g<Tryz.prog.globals.size) (hz:(((begin Tryz.prog (fun _ _=>0) default).world.heap[g]?).bind Obj.row?).map (fun p=>(p.1.size,p.2))=some (1,t)) (hb:Tryz.prog.buildable t=true) (hc:Tryz.prog.cellTypes Tryz.prog.depth t=some [t]) (hu:Tryz.prog.underlying t=some (.int .i64)) :
 ∃ m:Int,W.heap[g]?=some (.cells #[.int .i64 m] t):=by
 cases hw:((begin Tryz.prog (fun _ _=>0) default).world.heap[g]?).bind Obj.row? with
 | none=>rw [hw] at hz;cases hz
 | some p=>
   obtain ⟨zero,t'⟩:=p;rw [hw] at hz;simp only [Option.map_some,Option.some.injEq,Prod.mk.injEq] at hz;obtain ⟨hz1,rfl⟩:=hz;obtain ⟨cs,h1,h2,h3⟩:=hS.1 g zero t' hg hw;obtain ⟨ts,k1,_,k3⟩:=h3 hb;rw [hc] at k1;injection k1 with k1;subst k1;have hsz:cs.size=1:=by rw [h2,hz1]
   obtain ⟨l⟩:=cs;match l,hsz,h1,k3 with
   | [v],_,h1,k3=>
     obtain ⟨u,hu1,hu2⟩:=k3 0 v (by simp);simp at hu1;subst hu1;unfold Cell.ok at hu2;rw [hu] at hu2;cases v with
     | int k n=>
       obtain ⟨rfl,_⟩:=hu2;exact ⟨n,h1⟩
     | _=>exact hu2.elim
theorem zj3 {W:World} {g:Nat} {cs:Array Value} {t:TypeId} {q:Nat×Nat} (h:W.heap[g]?=some (.cells cs t q)):∀ off,W.cell? ⟨g,off,none⟩=cs.toList[off]?:=by
 intro off;simp [World.cell?,h]
theorem zt5 {W:World} (hS:W.ShapedOpen Tryz.prog) (hL:laidMet Tryz.prog O4 W):Glob W (fun b=>b<W.heap.size):=by
 have blk:∀ {g:Nat} {cs:List Value},cs≠[]->(∀ off,W.cell? ⟨g,off,none⟩=cs[off]?)->g<W.heap.size:=by
  intro g cs h0 h;obtain ⟨t,q,hb⟩:=z84 h0 h;exact (Array.getElem?_eq_some_iff.1 hb).1
 intro p hp;have hp:p∈[(0,fun vs:List Value=>∃ m:Int,vs=[.int .i64 m])]:=hp;simp only [List.mem_cons,List.not_mem_nil,or_false] at hp;have key:∃ vs,vs≠[]/\(∀ off,W.cell? ⟨p.1,off,none⟩=vs[off]?)/\p.2 vs:=by
  subst hp;obtain ⟨m,hm⟩:=zd9 (t:=3) hS (g:=0) (by rw [show Tryz.prog.globals.size=6 by kernel_rfl];decide) (by kernel_rfl) (by kernel_rfl) (by kernel_rfl) (by kernel_rfl);exact ⟨[.int .i64 m],by simp,zj3 hm,m,rfl⟩
 obtain ⟨vs,h0,h1,h2⟩:=key;exact ⟨blk h0 h1,vs,h0,h1,h2⟩
theorem eG {H:Type} {enc:TypeId×Value->H} {a:Assume} {C:Checked} {os:Os} {f:FuncId} {fn:Func} {s:ChangeSpec} {conds:List PathCond} {apart fresh handsOn again:Bool} {X:World->Array Value->Prop}
 (hX:∀ (w w':World) (args:Array Value),w.heap=w'.heap->X w args->X w' args)
 (own:ownKnob C.prog.godebug=none) (started:os.Started) (noInit:C.prog.inits.idxOf? f=none) (hfn:C.prog.funcs[f]?=some fn)
 (witness:∃ (w:World) (tape:Tape) (i:Input),w.os=os/\(w.forCall tape i).Shaped C.prog/\i.vars=[]/\Input.okWide C.prog (w.forCall tape i) .any w.heap.size f i /\
   ((s.pre enc C.prog fn conds apart (w.forCall tape i).memory i.args/\X (w.forCall tape i).memory i.args)/\sizedMet enc C.prog fn (OpenSpec.ofChange s) apart (w.forCall tape i).memory i.args)/\a.holds C.prog (lone (Frame.enter C.prog f i.args .normal) [] (w.forCall tape i)))
 (contract:∀ (W:World) (base:Nat) (args:Array Value) (ds gs:List (DataW H)) (before:List MemPlace),W.ShapedOpen C.prog ->
   (∀ (j:Nat) t v,fn.params[j]?=some t->args[j]?=some v->Value.okWide C.prog W .any base t v) ->
   DataW.Whole enc C.prog fn.params.toList s.vars apart W args.toList ds gs before->X W args ->
   Calls C.prog f args W fun e W'=>∃ v,e=.returned v/\s.post enc C.prog fn apart fresh handsOn again W args v W') :
 ReturnsInHanded a C os f .any (fun w args=>(s.pre enc C.prog fn conds apart w args/\X w args)/\sizedMet enc C.prog fn (OpenSpec.ofChange s) apart w args) (s.post enc C.prog fn apart fresh handsOn again):=by
 refine returnsInHanded_of_calls own started noInit witness ?_;intro w tape i _ hsh _ hok hpre hholds;obtain ⟨_,_,_,fn',hfn',_,_,_,_,hval⟩:=hok;have e:fn'=fn:=Option.some.inj (hfn'.symm.trans hfn);subst e;obtain ⟨⟨⟨ds,gs,before,hw,hc⟩,hx⟩,hz⟩:=hpre;have hw':=DataW.Whole.of_heap (w':=w.forCall tape i) (by rfl) hw;refine (contract (w.forCall tape i) w.heap.size i.args ds gs before hsh hval hw' (hX _ _ _ (by rfl) hx)).mono fun e W' ⟨v,he,hp⟩=>?_;subst he;exact ChangeSpec.post_blind hp
theorem aM (w:World):laidMetH Tryz.prog O4 w=laidMet Tryz.prog O4 w:=by
 rw [MakeChecks.laidMetH_plain _ _ _ (by kernel_rfl)]
theorem zd7 (os:Os) (args:Array Value):laidMetH Tryz.prog O4 ((World.laidAll Tryz.prog os O4).forCall (fun _ _=>0) ⟨#[],args,[]⟩).memory:=by
 rw [aM];exact laidMet_laidAll _ (by kernel_rfl) (by kernel_rfl)
theorem zh9 (os:Os):(World.laidAll Tryz.prog os O4).Shaped Tryz.prog:=World.shaped_of_ZipB (by kernel_rfl) (by kernel_rfl)
def lT (P:Program) (S ts:List TypeId):Bool:=ts.all fun t=>S.contains t&&(j7 P t).isSome&&P.readableRec t&&decide (t<P.types.size)
theorem zc7 {P:Program} {S ts:List TypeId} (h:lT P S ts=true):∀ t∈ts,S.contains t=true/\(j7 P t).isSome=true/\P.readableRec t=true/\t<P.types.size:=by
 intro t ht;have:=List.all_eq_true.1 h t ht;simp only [Bool.and_eq_true,decide_eq_true_eq] at this;exact ⟨this.1.1.1,this.1.1.2,this.1.2,this.2⟩
theorem zy6 {S:List TypeId} (hS0:zV Tryz.prog S=true) {f:FuncId} {fn:Func} {s:ChangeSpec} (os:Os) (started:os.Started) {H:Type} (enc:TypeId×Value->H) (hfn:Tryz.prog.funcs[f]?=some fn)
 (hni:Tryz.prog.inits.idxOf? f=none) (hargs:lT Tryz.prog S fn.params.toList=true) (hres:fn.resultTypes=#[4]) (hv:s.vars=[])
 (hsp:∀ (ds:List (DataW H)),ds.length=fn.params.toList.length->s.fn H ds={ results:=[.lit (.bool true)],args:=ds })
 (witness:∃ (w:World) (tape:Tape) (i:Input),w.os=os/\(w.forCall tape i).Shaped Tryz.checked.prog/\i.vars=[]/\Input.okWide Tryz.checked.prog (w.forCall tape i) .any w.heap.size f i /\
   ((s.pre enc Tryz.checked.prog fn [] false (w.forCall tape i).memory i.args/\laidMetH Tryz.prog O4 (w.forCall tape i).memory)/\sizedMet enc Tryz.checked.prog fn (OpenSpec.ofChange s) false (w.forCall tape i).memory i.args)/\({}:Assume).holds Tryz.checked.prog (lone (Frame.enter Tryz.checked.prog f i.args .normal) [] (w.forCall tape i)))
 (law:∀ xs,qQ Tryz.prog fn.params.toList xs->∃ H',ev Ev f (xs.map .c) []=some (.c (.bool true),H')) :
 ReturnsInHanded {} Tryz.checked os f .any (fun w args=>(s.pre enc Tryz.prog fn [] false w args/\laidMetH Tryz.prog O4 w)/\sizedMet enc Tryz.prog fn (OpenSpec.ofChange s) false w args) (s.post enc Tryz.prog fn false true false false):=by
 refine eG (C:=Tryz.checked) (X:=fun w _=>laidMetH Tryz.prog O4 w) (fun _ _ _ hh h=>h.of_heap hh) Tryz.own started hni hfn witness ?_;intro W base args ds gs before hS hval hW hL;rw [aM] at hL;exact zs8 (P:=Tryz.prog) z42 hS0 Tryz.laidOut (zc7 hargs) (tb:=4) hres (by kernel_rfl) hv hsp (fun xs h _=>law xs h) hval (zt5 hS hL) hW
end Go.Proofs.YtclbpddolhgibaaGreatDoor
namespace Go.Proofs.TryzL
open Go.Proofs.Lz
inductive Pat where
 | mk (op:Int) (name:List UInt8) (n:Int) (text:List UInt8) (kids:List Pat) (names:List (List UInt8))
mutual
def Pat.c:Pat->CV
 | .mk op nm n tx ks ns=>.agg [.int .i64 op,.str nm,.int .i64 n,.str tx,.frz (some 6) (Pat.cs ks),.frz none (ns.map .str)]
def Pat.cs:List Pat->List CV
 | []=>[]
 | x::r=>Pat.c x::Pat.cs r
end
theorem Pat.cs_map:∀ l:List Pat,Pat.cs l=l.map Pat.c
 | []=>rfl
 | x::r=>by rw [Pat.cs,Pat.cs_map r];rfl
mutual
def Pat.ok:Pat->Prop
 | .mk _ _ _ _ ks ns=>ks.length<=9223372036854775807/\ns.length<=9223372036854775807/\Pat.oks ks
def Pat.oks:List Pat->Prop
 | []=>True
 | x::r=>Pat.ok x/\Pat.oks r
end
theorem Pat.oks_mem:∀ {l:List Pat},Pat.oks l->∀ x∈l,Pat.ok x
 | [],_,x,hx=>by cases hx
 | y::r,h,x,hx=>by
   rcases List.mem_cons.1 hx with rfl | hx
   . exact h.1
   . exact Pat.oks_mem h.2 x hx
mutual
def F4:Pat->Pat->Bool
 | .mk a b c d ks ns,.mk a' b' c' d' ks' ns'=>a==a'&&b==b'&&c==c'&&d==d'&&(ns==ns')&&D7 ks ks'
def D7:List Pat->List Pat->Bool
 | [],[]=>true
 | x::r,y::s=>F4 x y&&D7 r s
 | _,_=>false
end
def c6 {α:Type} (r:α->α->Bool):List α->List α->Bool
 | [],[]=>true
 | x::a,y::b=>r x y&&c6 r a b
 | _,_=>false
theorem kE:∀ a b:List Pat,D7 a b=c6 F4 a b
 | [],[]=>by simp [D7,c6]
 | x::a,y::b=>by simp [D7,c6,kE a b]
 | [],_::_=>by simp [D7,c6]
 | _::_,[]=>by simp [D7,c6]
section
variable {α:Type} {r:α->α->Bool}
theorem wV:∀ {a b:List α},a.length≠b.length->c6 r a b=false
 | [],[],h=>absurd rfl h
 | x::a,y::b,h=>by
   unfold c6;rw [wV (by simpa using h),Bool.and_false]
 | [],_::_,_=>rfl
 | _::_,[],_=>rfl
theorem wQ:∀ {a b:List α} {n:Nat} (ha:n<a.length) (hb:n<b.length),r a[n] b[n]=false->c6 r a b=false
 | x::a,y::b,0,_,_,h=>by
   unfold c6;rw [show r x y=false from h,Bool.false_and]
 | x::a,y::b,n+1,ha,hb,h=>by
   unfold c6;rw [wQ (a:=a) (b:=b) (n:=n) (by simpa using ha) (by simpa using hb) (by simpa using h),Bool.and_false]
 | [],_,_,ha,_,_=>by simp at ha
 | _::_,[],_,_,hb,_=>by simp at hb
theorem wB:∀ {a b:List α} {n:Nat} (ha:n<a.length) (hb:n<b.length),c6 r (a.take n) (b.take n)=true->r a[n] b[n]=true->c6 r (a.take (n+1)) (b.take (n+1))=true
 | x::a,y::b,0,_,_,_,h=>by
   simp [c6,show r x y=true from h]
 | x::a,y::b,n+1,ha,hb,h0,h=>by
   simp only [List.take_succ_cons] at h0 ⊢;unfold c6 at h0 ⊢;rw [Bool.and_eq_true] at h0 ⊢;exact ⟨h0.1,wB (a:=a) (b:=b) (n:=n) (by simpa using ha) (by simpa using hb) h0.2 (by simpa using h)⟩
 | [],_,_,ha,_,_,_=>by simp at ha
 | _::_,[],_,_,hb,_,_=>by simp at hb
theorem xJ {a b:List α} {n:Nat} (ha:a.length<=n) (hb:b.length<=n) (h:c6 r (a.take n) (b.take n)=true):c6 r a b=true:=by
 rwa [List.take_of_length_le ha,List.take_of_length_le hb] at h
theorem iE:∀ {a:List α},(∀ x∈a,r x x=true)->c6 r a a=true
 | [],_=>rfl
 | x::a,h=>by
   unfold c6;rw [h x (by simp),iE fun y hy=>h y (by simp [hy])];rfl
theorem z50:∀ {a b:List α},(∀ x∈a,∀ y∈b,r x y=r y x)->c6 r a b=c6 r b a
 | [],[],_=>rfl
 | x::a,y::b,h=>by
   unfold c6;rw [h x (by simp) y (by simp),z50 fun u hu v hv=>h u (by simp [hu]) v (by simp [hv])]
 | [],_::_,_=>rfl
 | _::_,[],_=>rfl
end
theorem kF:∀ a b:List (List UInt8),c6 (·==·) a b=(a==b)
 | [],[]=>rfl
 | x::a,y::b=>by unfold c6;rw [kF a b];rfl
 | [],_::_=>rfl
 | _::_,[]=>rfl
mutual
theorem mL:∀ a:Pat,F4 a a=true
 | .mk a b c d ks ns=>by simp [F4,sB ks]
theorem sB:∀ a:List Pat,D7 a a=true
 | []=>by simp [D7]
 | x::r=>by simp [D7,mL x,sB r]
end
mutual
theorem mX:∀ a b:Pat,F4 a b=F4 b a
 | .mk a b c d ks ns,.mk a' b' c' d' ks' ns'=>by
   simp only [F4,dS ks ks',Bool.beq_comm]
theorem dS:∀ a b:List Pat,D7 a b=D7 b a
 | [],[]=>rfl
 | x::a,y::b=>by simp only [D7,mX x y,dS a b]
 | [],_::_=>by simp [D7]
 | _::_,[]=>by simp [D7]
end
end Go.Proofs.TryzL
namespace Go.Proofs.TryzL
open Go.Proofs.Lz
set_option maxHeartbeats 4000000
theorem zw1 (a b:List (List UInt8)) (ha:a.length<=9223372036854775807) (hb:b.length<=9223372036854775807):Rets Vv 13 [.c (.frz none (a.map .str)),.c (.frz none (b.map .str))] (.c (.bool (a==b))):=by
 refine E3 zo1 ?_;rw [<-kF];repeat' first|apply x5|exact y6|(apply y0;rfl;rfl)|(apply u6;rfl;rfl;rfl)|(apply M8;rfl)|(apply m7;focus (repeat (first | exact v6 | (apply J1;rfl))))|apply x4|apply x7|apply x6|apply l7|apply A4|apply m8|(apply d6;rfl)|(with_reducible (first|apply yD|apply uB);intro hc)|(apply o7;rfl)
 . rw [wV (by omega)]
 refine K7 (fun n:Nat=>[(0,.c (.frz none (a.map .str))),(1,.c (.frz none (b.map .str))),(12,.c (.int .i64 a.length)),(13,.c (.int .i64 n))]) (fun n=>n<=a.length/\c6 (·==·) (a.take n) (b.take n)=true) (fun n=>a.length - n) 0 ?_ ⟨Nat.zero_le _,rfl⟩ ?_
 . repeat' first|exact v6|refine o6 rfl ?_
 rintro n ⟨hn,hall⟩;have hab:a.length=b.length:=by omega
 by_cases hnl:n<a.length
 . have hnb:n<b.length:=by omega
   repeat' first|apply x5|exact y6|(apply y0;rfl;rfl)|(apply P2;rfl;rfl)|(apply W7;rfl;rfl;omega)|(apply u6;rfl;rfl;rfl)|(apply P5;rfl;rfl;rfl;exact gEg (by omega))|(apply m7;focus (repeat (first | exact v6 | (apply J1;rfl))))|apply x4|apply x7|apply x6|apply l7|apply A4|apply m8|apply C3|apply L6|apply O0|(apply d6;rfl)|(apply M3;(exact rfl))|(with_reducible first|apply P7|apply Q1)|(with_reducible (first|apply zW|apply zU|apply A7|apply A6);intro hc)|(apply M1;rfl)|(apply W5;rfl)|(apply X0)|(apply M9;rfl)|(apply o7;rfl)
   any_goals (exfalso;omega)
   any_goals rw [wQ hnl hnb (by simp_all)]
   refine ⟨n+1,?_,rfl,⟨by omega,wB hnl hnb hall (by simp_all)⟩,by omega⟩;repeat' first|exact v6|refine o6 rfl ?_
 . repeat' first|apply x5|exact y6|(apply y0;rfl;rfl)|(apply P2;rfl;rfl)|(apply W7;rfl;rfl;omega)|(apply u6;rfl;rfl;rfl)|(apply P5;rfl;rfl;rfl;exact gEg (by omega))|(apply m7;focus (repeat (first | exact v6 | (apply J1;rfl))))|apply x4|apply x7|apply x6|apply l7|apply A4|apply m8|apply C3|apply L6|apply O0|(apply d6;rfl)|(apply M3;(exact rfl))|(with_reducible first|apply P7|apply Q1)|(with_reducible (first|apply zW|apply zU|apply A7|apply A6);intro hc)|(apply M1;rfl)|(apply W5;rfl)|(apply X0)|(apply M9;rfl)|(apply o7;rfl)
   any_goals (exfalso;omega)
   rw [xJ (by omega) (by omega) hall]
theorem z58 (a b:List (List UInt8)) (ha:a.length<=9223372036854775807) (hb:b.length<=9223372036854775807):Rets Vv 15 [.c (.frz none (a.map .str)),.c (.frz none (b.map .str))] (.c (.bool (a==b))):=by
 refine E3 za2 ?_;rw [<-kF];repeat' first|apply x5|exact y6|(apply y0;rfl;rfl)|(apply u6;rfl;rfl;rfl)|(apply M8;rfl)|(apply m7;focus (repeat (first | exact v6 | (apply J1;rfl))))|apply x4|apply x7|apply x6|apply l7|apply A4|apply m8|(apply d6;rfl)|(with_reducible (first|apply yD|apply uB);intro hc)|(apply o7;rfl)
 . rw [wV (by omega)]
 refine K7 (fun n:Nat=>[(0,.c (.frz none (a.map .str))),(1,.c (.frz none (b.map .str))),(5,.c (.int .i64 n))]) (fun n=>n<=a.length/\c6 (·==·) (a.take n) (b.take n)=true) (fun n=>a.length - n) 0 ?_ ⟨Nat.zero_le _,rfl⟩ ?_
 . repeat' first|exact v6|refine o6 rfl ?_
 rintro n ⟨hn,hall⟩;have hab:a.length=b.length:=by omega
 by_cases hnl:n<a.length
 . have hnb:n<b.length:=by omega
   repeat' first|apply x5|exact y6|(apply y0;rfl;rfl)|(apply P2;rfl;rfl)|(apply W7;rfl;rfl;omega)|(apply u6;rfl;rfl;rfl)|(apply M8;rfl)|(apply P5;rfl;rfl;rfl;exact gEg (by omega))|(apply m7;focus (repeat (first | exact v6 | (apply J1;rfl))))|apply x4|apply x7|apply x6|apply l7|apply A4|apply m8|apply C3|apply L6|apply O0|(apply d6;rfl)|(apply M3;(exact rfl))|(with_reducible first|apply P7|apply Q1)|(with_reducible (first|apply zW|apply zU|apply A7|apply A6);intro hc)|(apply M1;rfl)|(apply W5;rfl)|(apply X0)|(apply M9;rfl)|(apply o7;rfl)
   any_goals (exfalso;omega)
   any_goals rw [wQ hnl hnb (by simp_all)]
   refine ⟨n+1,?_,rfl,⟨by omega,wB hnl hnb hall (by simp_all)⟩,by omega⟩;repeat' first|exact v6|refine o6 rfl ?_
 . repeat' first|apply x5|exact y6|(apply y0;rfl;rfl)|(apply P2;rfl;rfl)|(apply W7;rfl;rfl;omega)|(apply u6;rfl;rfl;rfl)|(apply M8;rfl)|(apply P5;rfl;rfl;rfl;exact gEg (by omega))|(apply m7;focus (repeat (first | exact v6 | (apply J1;rfl))))|apply x4|apply x7|apply x6|apply l7|apply A4|apply m8|apply C3|apply L6|apply O0|(apply d6;rfl)|(apply M3;(exact rfl))|(with_reducible first|apply P7|apply Q1)|(with_reducible (first|apply zW|apply zU|apply A7|apply A6);intro hc)|(apply M1;rfl)|(apply W5;rfl)|(apply X0)|(apply M9;rfl)|(apply o7;rfl)
   any_goals (exfalso;omega)
   rw [xJ (by omega) (by omega) hall]
end Go.Proofs.TryzL
namespace Go.Proofs.TryzL
open Go.Proofs.Lz
set_option maxHeartbeats 4000000
theorem vC:∀ x:Pat,fitsW (some 6) (.c x.c)=true
 | .mk ..=>rfl
theorem z81 (a b:List Pat) (ha:a.length<=9223372036854775807) (hb:b.length<=9223372036854775807) (ih:∀ x∈a,∀ y∈b,Rets Vv 6 [.c x.c,.c y.c] (.c (.bool (F4 x y)))) :
 Rets Vv 14 [.c (.frz (some 6) (a.map Pat.c)),.c (.frz (some 6) (b.map Pat.c)),.c (.fn 6 [] [])] (.c (.bool (D7 a b))):=by
 refine E3 zq3 ?_;rw [kE];repeat' first|apply x5|exact y6|(apply y0;rfl;rfl)|(apply u6;rfl;rfl;rfl)|(apply M8;rfl)|(apply m7;focus (repeat (first | exact v6 | (apply J1;rfl))))|apply x4|apply x7|apply x6|apply l7|apply A4|apply m8|(apply d6;rfl)|(with_reducible (first|apply yD|apply uB);intro hc)|(apply o7;rfl)
 . rw [wV (by omega)]
 refine K7 (fun n:Nat=>[(1,.c (.frz (some 6) (b.map Pat.c))),(2,.c (.fn 6 [] [])),(15,.c (.frz (some 6) (a.map Pat.c))),(16,.c (.int .i64 a.length)),(17,.c (.int .i64 n))]) (fun n=>n<=a.length/\c6 F4 (a.take n) (b.take n)=true) (fun n=>a.length - n) 0 ?_ ⟨Nat.zero_le _,rfl⟩ ?_
 . repeat' first|exact v6|refine o6 rfl ?_
 rintro n ⟨hn,hall⟩;have hab:a.length=b.length:=by omega
 by_cases hnl:n<a.length
 . have hnb:n<b.length:=by omega
   have hfa:=vC a[n];have hfb:=vC b[n];have hih:=ih a[n] (List.getElem_mem hnl) b[n] (List.getElem_mem hnb);repeat' first|apply x5|exact y6|(apply y0;rfl;rfl)|(apply P2;rfl;rfl)|(apply t6;rfl;rfl;rfl)|(apply W7;rfl;rfl;omega)|(apply u6;rfl;rfl;rfl)|(apply zH;rfl;rfl)|(apply P5;rfl;rfl;rfl;exact gEg (by omega))|(apply rV;rfl;rfl;rfl;rfl;(exact B8 rfl))|(apply J2;rfl;rfl;assumption;rfl;exact I4 rfl)|(apply oO (hc:=hih);rfl;rfl;rfl;rfl)|(apply m7;focus (repeat (first | exact v6 | (apply J1;rfl))))|apply x4|apply x7|apply x6|apply l7|apply A4|apply m8|apply C3|(apply d6;rfl)|(with_reducible first|apply P7|apply Q1)|(with_reducible (first|apply A7|apply A6|apply W8);intro hc)|(apply o7;rfl)
   any_goals (exfalso;omega)
   any_goals rw [wQ hnl hnb (by simp_all)]
   refine ⟨n+1,?_,rfl,⟨by omega,wB hnl hnb hall (by simp_all)⟩,by omega⟩;repeat' first|exact v6|refine o6 rfl ?_
 . repeat' first|apply x5|exact y6|(apply y0;rfl;rfl)|(apply P2;rfl;rfl)|(apply u6;rfl;rfl;rfl)|(apply P5;rfl;rfl;rfl;exact gEg (by omega))|(apply rV;rfl;rfl;rfl;rfl;(exact B8 rfl))|(apply m7;focus (repeat (first | exact v6 | (apply J1;rfl))))|apply x4|apply x7|apply x6|apply l7|apply A4|apply m8|apply C3|(apply d6;rfl)|(with_reducible (first|apply A7|apply A6);intro hc)|(apply o7;rfl)
   any_goals (exfalso;omega)
   rw [xJ (by omega) (by omega) hall]
theorem iK (a b:List Pat) (ha:a.length<=9223372036854775807) (hb:b.length<=9223372036854775807) (ih:∀ x∈a,∀ y∈b,Rets Vv 7 [.c x.c,.c y.c] (.c (.bool (F4 x y)))) :
 Rets Vv 16 [.c (.frz (some 6) (a.map Pat.c)),.c (.frz (some 6) (b.map Pat.c))] (.c (.bool (D7 a b))):=by
 refine E3 oL ?_;rw [kE];repeat' first|apply x5|exact y6|(apply y0;rfl;rfl)|(apply u6;rfl;rfl;rfl)|(apply M8;rfl)|(apply m7;focus (repeat (first | exact v6 | (apply J1;rfl))))|apply x4|apply x7|apply x6|apply l7|apply A4|apply m8|(apply d6;rfl)|(with_reducible (first|apply yD|apply uB);intro hc)|(apply o7;rfl)
 . rw [wV (by omega)]
 refine K7 (fun n:Nat=>[(0,.c (.frz (some 6) (a.map Pat.c))),(1,.c (.frz (some 6) (b.map Pat.c))),(5,.c (.int .i64 n))]) (fun n=>n<=a.length/\c6 F4 (a.take n) (b.take n)=true) (fun n=>a.length - n) 0 ?_ ⟨Nat.zero_le _,rfl⟩ ?_
 . repeat' first|exact v6|refine o6 rfl ?_
 rintro n ⟨hn,hall⟩;have hab:a.length=b.length:=by omega
 by_cases hnl:n<a.length
 . have hnb:n<b.length:=by omega
   have hfa:=vC a[n];have hfb:=vC b[n];have hih:=ih a[n] (List.getElem_mem hnl) b[n] (List.getElem_mem hnb);repeat' first|apply x5|exact y6|(apply y0;rfl;rfl)|(apply P2;rfl;rfl)|(apply W7;rfl;rfl;omega)|(apply u6;rfl;rfl;rfl)|(apply M8;rfl)|(apply zH;rfl;rfl)|(apply P5;rfl;rfl;rfl;exact gEg (by omega))|(apply m7;focus (repeat (first | exact v6 | (apply J1;rfl))))|apply x4|apply x7|apply x6|apply l7|apply A4|apply m8|apply C3|apply L6|apply O0|(apply d6;rfl)|(apply M3;(exact rfl))|(with_reducible first|apply P7|apply Q1)|(with_reducible (first|apply A7|apply A6|apply W8);intro hc)|(apply M1;rfl)|(apply W5;rfl)|(apply X0)|(apply f0 (hc:=hih);rfl;rfl;rfl)|(apply M9;rfl)|(apply o7;rfl)
   any_goals (exfalso;omega)
   any_goals rw [wQ hnl hnb (by simp_all)]
   refine ⟨n+1,?_,rfl,⟨by omega,wB hnl hnb hall (by simp_all)⟩,by omega⟩;repeat' first|exact v6|refine o6 rfl ?_
 . repeat' first|apply x5|exact y6|(apply y0;rfl;rfl)|(apply P2;rfl;rfl)|(apply u6;rfl;rfl;rfl)|(apply M8;rfl)|(apply P5;rfl;rfl;rfl;exact gEg (by omega))|(apply m7;focus (repeat (first | exact v6 | (apply J1;rfl))))|apply x4|apply x7|apply x6|apply l7|apply A4|apply m8|apply C3|apply L6|(apply d6;rfl)|(apply M3;(exact rfl))|(with_reducible (first|apply A7|apply A6);intro hc)|(apply M1;rfl)|(apply W5;rfl)|(apply X0)|(apply M9;rfl)|(apply o7;rfl)
   any_goals (exfalso;omega)
   rw [xJ (by omega) (by omega) hall]
end Go.Proofs.TryzL
