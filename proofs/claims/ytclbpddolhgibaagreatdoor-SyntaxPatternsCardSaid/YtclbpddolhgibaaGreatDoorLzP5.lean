/- The reference's counts of an expression that holds two patterns; the guard. -/
import Derived.Test.YtclbpddolhgibaaGreatDoorLzP2
set_option linter.unusedSimpArgs false
set_option linter.unusedVariables false
namespace Go.Proofs.TryzL
open Go.Proofs.Lz
set_option maxHeartbeats 4000000
theorem kV {x:Pat} {op n:Int} {nm tx:List UInt8} {ks:List Pat} {ns:List (List UInt8)} (h:x∈ks):SizeOf.sizeOf x<SizeOf.sizeOf (Pat.mk op nm n tx ks ns):=by
 have:=List.sizeOf_lt_of_mem h;simp only [Pat.mk.sizeOf_spec];omega
theorem kD:∀ (k:Nat) (a b:Pat),SizeOf.sizeOf a<=k->a.ok->b.ok->Rets Vv 6 [.c a.c,.c b.c] (.c (.bool (F4 a b))):=by
 intro k;induction k with
 | zero=>intro a b h;cases a;simp only [Pat.mk.sizeOf_spec] at h;omega
 | succ k ih=>
   intro a b hk ha hb;cases a with
   | mk p nm n tx ks ns=>
     cases b with
     | mk p' nm' n' tx' ks' ns'=>
       obtain ⟨a1,a2,a3⟩:=ha;obtain ⟨b1,b2,b3⟩:=hb;have h13:=zw1 ns ns' a2 b2;have h14:=z81 ks ks' a1 b1 (fun x hx y hy=>ih x y (by have:=kV (op:=p) (n:=n) (nm:=nm) (tx:=tx) (ns:=ns) hx;omega) (Pat.oks_mem a3 x hx) (Pat.oks_mem b3 y hy));refine E3 zx2 ?_;simp only [Pat.c,Pat.cs_map,F4];repeat' first|apply x5|exact y6|exact F9 rfl|(apply y0;rfl;rfl)|(apply t6;rfl;rfl;rfl)|(apply u6;rfl;rfl;rfl)|(apply Z3;rfl;(with_reducible rfl);rfl)|(apply Y2;rfl;(with_reducible rfl);rfl)|(apply G6;rfl;exact F5 rfl)|(apply G7;rfl;rfl;(exact B8 rfl))|(apply B6 (hc:=h13);rfl;rfl;rfl)|(apply B6 (hc:=h14);rfl;rfl;rfl)|apply x4|apply x7|apply x6|apply m8|(apply jK;rfl;(with_reducible rfl))|(apply bG;rfl;(with_reducible rfl))|(apply jP;rfl)|(with_reducible (first|apply zB|apply zW|apply X2|apply zU|apply W8);intro hc)|(apply o7;rfl)
       all_goals simp_all
theorem zu4:∀ (k:Nat) (a b:Pat),SizeOf.sizeOf a<=k->a.ok->b.ok->Rets Vv 7 [.c a.c,.c b.c] (.c (.bool (F4 a b))):=by
 intro k;induction k with
 | zero=>intro a b h;cases a;simp only [Pat.mk.sizeOf_spec] at h;omega
 | succ k ih=>
   intro a b hk ha hb;cases a with
   | mk p nm n tx ks ns=>
     cases b with
     | mk p' nm' n' tx' ks' ns'=>
       obtain ⟨a1,a2,a3⟩:=ha;obtain ⟨b1,b2,b3⟩:=hb;have h13:=z58 ns ns' a2 b2;have h14:=iK ks ks' a1 b1 (fun x hx y hy=>ih x y (by have:=kV (op:=p) (n:=n) (nm:=nm) (tx:=tx) (ns:=ns) hx;omega) (Pat.oks_mem a3 x hx) (Pat.oks_mem b3 y hy));refine E3 z96 ?_;simp only [Pat.c,Pat.cs_map,F4];repeat' first|apply x5|exact y6|exact F9 rfl|(apply y0;rfl;rfl)|(apply t6;rfl;rfl;rfl)|(apply u6;rfl;rfl;rfl)|(apply Z3;rfl;(with_reducible rfl);rfl)|(apply Y2;rfl;(with_reducible rfl);rfl)|(apply G6;rfl;exact F5 rfl)|(apply G7;rfl;rfl;(exact B8 rfl))|(apply B6 (hc:=h13);rfl;rfl;rfl)|(apply B6 (hc:=h14);rfl;rfl;rfl)|apply x4|apply x7|apply x6|apply m8|(apply jK;rfl;(with_reducible rfl))|(apply bG;rfl;(with_reducible rfl))|(apply jP;rfl)|(with_reducible (first|apply zB|apply zW|apply X2|apply zU|apply W8);intro hc)|(apply o7;rfl)
       all_goals simp_all
end Go.Proofs.TryzL
namespace Go.Proofs.TryzL
open Go.Proofs.Lz
set_option maxHeartbeats 4000000
structure Cn where
 a:Int
 b:Int
 l:Bool
def Cn.c (x:Cn):CV:=.agg [.int .i64 x.a,.int .i64 x.b,.bool x.l]
def uJ (x:Cn):Cn:=⟨IntKind.i64.wrap (x.a+1),IntKind.i64.wrap (x.b+1),x.l⟩
def x8 (x y:Cn):Cn:=⟨max x.a y.a,IntKind.i64.wrap (x.b+y.b),x.l||y.l⟩
def f8 (x:Cn) (n:Int):Cn:=⟨x.a,x.b,x.l||decide (200<n)⟩
theorem vW (x:Cn):Rets Vv 28 [.c x.c] (.c (uJ x).c):=by
 refine E3 zg8 ?_;unfold Cn.c uJ;repeat' first|apply x5|exact F9 rfl|(apply t6;rfl;rfl;rfl)|(apply u6;rfl;rfl;rfl)|(apply jM;rfl;rfl;rfl)|(apply G6;rfl;exact F5 rfl)|(apply G7;rfl;rfl;(exact B8 rfl))|(apply J2;rfl;rfl;rfl;rfl;exact I4 rfl)|apply x4|apply x7|apply x6|apply m8|(apply U1;rfl)
 all_goals rfl
theorem uZ (x y:Cn):Rets Vv 24 [.c x.c,.c y.c] (.c (x8 x y).c):=by
 refine E3 zz5 ?_;unfold Cn.c x8;repeat' first|apply x5|exact F9 rfl|(apply y0;rfl;rfl)|(apply t6;rfl;rfl;rfl)|(apply u6;rfl;rfl;rfl)|(apply Z3;rfl;(with_reducible rfl);rfl)|(apply Y2;rfl;(with_reducible rfl);rfl)|(apply jM;rfl;rfl;rfl)|(apply G6;rfl;exact F5 rfl)|(apply G7;rfl;rfl;(exact B8 rfl))|(apply J2;rfl;rfl;rfl;rfl;exact I4 rfl)|(apply zs3;rfl;rfl)|apply x4|apply x7|apply x6|apply m8|(apply jK;rfl;(with_reducible rfl))|(apply aC;rfl;(with_reducible rfl))|(apply jP;rfl)|(with_reducible apply W8;intro hc)|(apply U1;rfl)
 all_goals simp_all
theorem wL (x:Cn) (n:Int):Rets Vv 23 [.c x.c,.c (.int .i64 n)] (.c (f8 x n).c):=by
 refine E3 iC ?_;unfold Cn.c f8;repeat' first|apply x5|exact y6|exact F9 rfl|(apply y0;rfl;rfl)|(apply t6;rfl;rfl;rfl)|(apply u6;rfl;rfl;rfl)|(apply Z3;rfl;(with_reducible rfl);rfl)|(apply Y2;rfl;(with_reducible rfl);rfl)|(apply G6;rfl;exact F5 rfl)|(apply G7;rfl;rfl;(exact B8 rfl))|(apply J2;rfl;rfl;rfl;rfl;exact I4 rfl)|(apply oH;(iterate 8 rfl);exact zc5 rfl)|apply x4|apply x7|apply x6|apply m8|(apply jK;rfl;(with_reducible rfl))|(apply aC;rfl;(with_reducible rfl))|(apply jP;rfl)|(with_reducible apply W8;intro hc)|(apply U1;rfl)
 all_goals simp_all
def zc:Cn:=⟨0,0,false⟩
mutual
def b6:Pat->Cn
 | .mk p _ _ tx ks _=>if p=0 then zc else
   let c:=(yN ks).foldl x8 zc
   let c:=if p=5 then f8 c tx.length else c
   uJ (if p=8 then f8 c ks.length else c)
def yN:List Pat->List Cn
 | []=>[]
 | x::r=>b6 x::yN r
end
theorem mS:∀ l:List Pat,yN l=l.map b6
 | []=>rfl
 | x::r=>by rw [yN,mS r];rfl
theorem z41 {l:List Pat} {n:Nat} (h:n<l.length):((l.take (n+1)).map b6).foldl x8 zc=x8 (((l.take n).map b6).foldl x8 zc) (b6 l[n]):=by
 rw [List.take_add_one,gEg h];simp only [Option.toList,List.map_append,List.foldl_append,List.map,List.foldl]
theorem z65:∀ (k:Nat) (x:Pat),SizeOf.sizeOf x<=k->x.ok->Rets Vv 27 [.c x.c] (.c (b6 x).c):=by
 intro k;induction k with
 | zero=>intro a h;cases a;simp only [Pat.mk.sizeOf_spec] at h;omega
 | succ k ih=>
   intro x hk hx;cases x with
   | mk p nm n tx ks ns=>
     obtain ⟨a1,a2,a3⟩:=hx;have ihk:∀ y∈ks,Rets Vv 27 [.c y.c] (.c (b6 y).c):=fun y hy=>ih y (by have:=kV (op:=p) (n:=n) (nm:=nm) (tx:=tx) (ns:=ns) hy;omega) (Pat.oks_mem a3 y hy);refine E3 zj0 ?_;simp only [Pat.c,Pat.cs_map,b6,mS];repeat' first|apply x5|exact y6|exact F9 rfl|(apply y0;rfl;rfl)|(apply t6;rfl;rfl;rfl)|(apply u6;rfl;rfl;rfl)|(apply jM;rfl;rfl;rfl)|(apply G6;rfl;exact F5 rfl)|(apply G7;rfl;rfl;(exact B8 rfl))|(apply J2;rfl;rfl;rfl;rfl;exact I4 rfl)|(apply m7;focus (repeat (first | exact v6 | (apply H6;rfl))))|apply x4|apply x7|apply x6|apply l7|apply A4|apply m8|(apply d6;rfl)|(with_reducible (first|apply zB|apply X2);intro hc)|(apply U1;rfl)
     . rw [if_pos (by simpa using hc)];rfl
     rw [if_neg (by simpa using hc)];refine K7 (fun i:Nat=>[(1,.lbox (some 6) (.c (.agg [.int .i64 p,.str nm,.int .i64 n,.str tx,.frz (some 6) (ks.map Pat.c),.frz none (ns.map .str)]))),(2,.lbox (some 3) (.c zc.c)),(3,.lbox (some 3) (.c (((ks.take i).map b6).foldl x8 zc).c)),(4,.c (.int .i64 i))]) (fun i=>i<=ks.length) (fun i=>ks.length - i) 0 ?_ (Nat.zero_le _) ?_
     . repeat' first|exact v6|refine o6 rfl ?_
     rintro i hi;by_cases hil:i<ks.length
     . have hih:=ihk ks[i] (List.getElem_mem hil);have hpl:=uZ (((ks.take i).map b6).foldl x8 zc) (b6 ks[i]);repeat' first|apply x5|exact y6|exact F9 rfl|(apply y0;rfl;rfl)|(apply P2;rfl;rfl)|(apply t6;rfl;rfl;rfl)|(apply W7;rfl;rfl;omega)|(apply u6;rfl;rfl;rfl)|(apply M8;rfl)|(apply cD;rfl)|(apply P5;rfl;rfl;rfl;exact gEg (by omega))|(apply G6;rfl;exact F5 rfl)|(apply J2;rfl;rfl;rfl;rfl;exact I4 rfl)|(apply m7;focus (repeat (first | exact v6 | (apply J1;rfl) | (apply H6;rfl))))|apply x4|apply x7|apply x6|apply l7|apply A4|apply C3|apply L6|apply O0|(apply d6;rfl)|(apply M3;(exact rfl))|(with_reducible (first|apply zB|apply X2|apply A7|apply A6);intro hc)|(apply M1;rfl)|(apply W5;rfl)|(apply X0)|(apply zO;rfl)|(apply uI;rfl)|(apply f0 (hc:=hih);rfl;rfl;rfl)|(apply f0 (hc:=hpl);rfl;rfl;rfl)|(apply M9;rfl)
       any_goals (exfalso;omega)
       refine ⟨i+1,?_,rfl,by omega,by omega⟩;rw [z41 hil];repeat' first|exact v6|refine o6 rfl ?_
     . have hik:i=ks.length:=by omega
       subst hik;rw [List.take_length];have hl1:=wL ((ks.map b6).foldl x8 zc) tx.length;have hl2:=wL ((ks.map b6).foldl x8 zc) ks.length;have hn1:=vW (f8 ((ks.map b6).foldl x8 zc) tx.length);have hn2:=vW (f8 ((ks.map b6).foldl x8 zc) ks.length);have hn3:=vW ((ks.map b6).foldl x8 zc);repeat' first|apply x5|exact y6|exact F9 rfl|(apply y0;rfl;rfl)|(apply t6;rfl;rfl;rfl)|(apply u6;rfl;rfl;rfl)|(apply M8;rfl)|(apply cD;rfl)|(apply G6;rfl;exact F5 rfl)|(apply J2;rfl;rfl;rfl;rfl;exact I4 rfl)|(apply B6 (hc:=hl1);rfl;rfl;rfl)|(apply B6 (hc:=hl2);rfl;rfl;rfl)|(apply B6 (hc:=hn1);rfl;rfl;rfl)|(apply B6 (hc:=hn2);rfl;rfl;rfl)|(apply B6 (hc:=hn3);rfl;rfl;rfl)|(apply m7;focus (repeat (first | exact v6 | (apply H6;rfl))))|apply x4|apply x7|apply x6|apply A4|apply m8|apply C3|(apply d6;rfl)|(with_reducible apply zB;intro hc;try (exfalso;omega))|(with_reducible apply X2;intro hc;try (exfalso;omega))|(with_reducible apply A7;intro hc;try (exfalso;omega))|(with_reducible apply A6;intro hc;try (exfalso;omega))|(apply U1;rfl)
       all_goals simp_all
end Go.Proofs.TryzL
namespace Go.Proofs.TryzL
open Go.Proofs.Lz
set_option maxHeartbeats 4000000
theorem zw7 (l:List CV) (hl:l.length=0):Rets Vv 25 [.c (.frz none l)] (.c zc.c):=by
 refine E3 zu1 ?_;repeat' first|apply x5|exact y6|(apply y0;rfl;rfl)|(apply jM;rfl;rfl;rfl)|(apply G7;rfl;rfl;(exact B8 rfl))|(apply J2;rfl;rfl;rfl;rfl;exact I4 rfl)|apply x4|apply x7|apply x6|apply l7
 refine K7 (fun _:Unit=>[(0,.c (.frz none l)),(2,.lbox (some 3) (.c zc.c)),(3,.lbox (some 3) (.c zc.c)),(4,.c (.int .i64 0))]) (fun _=>True) (fun _=>0) () ?_ trivial ?_
 . repeat' first|exact v6|refine o6 rfl ?_
 rintro _ _;repeat' first|apply x5|exact y6|(apply y0;rfl;rfl)|(apply t6;rfl;rfl;rfl)|(apply u6;rfl;rfl;rfl)|(apply U5;rfl)|(apply J2;rfl;rfl;rfl;rfl;exact I4 rfl)|(apply m7;focus (repeat (first | exact v6 | (apply H6;rfl))))|apply x4|apply x7|apply x6|apply m8|apply C3|(apply d6;rfl)|(with_reducible apply A7;intro hc;try (exfalso;omega))|(with_reducible apply A6;intro hc;try (exfalso;omega))|(apply U1;rfl)
 all_goals rfl
theorem zg2 (l:List CV) (hl:l.length=0):Rets Vv 26 [.c (.frz none l)] (.c zc.c):=by
 refine E3 zh1 ?_;repeat' first|apply x5|exact y6|(apply y0;rfl;rfl)|(apply jM;rfl;rfl;rfl)|(apply G7;rfl;rfl;(exact B8 rfl))|(apply J2;rfl;rfl;rfl;rfl;exact I4 rfl)|apply x4|apply x7|apply x6|apply l7
 refine K7 (fun _:Unit=>[(0,.c (.frz none l)),(2,.lbox (some 3) (.c zc.c)),(3,.lbox (some 3) (.c zc.c)),(4,.c (.int .i64 0))]) (fun _=>True) (fun _=>0) () ?_ trivial ?_
 . repeat' first|exact v6|refine o6 rfl ?_
 rintro _ _;repeat' first|apply x5|exact y6|(apply y0;rfl;rfl)|(apply t6;rfl;rfl;rfl)|(apply u6;rfl;rfl;rfl)|(apply U5;rfl)|(apply J2;rfl;rfl;rfl;rfl;exact I4 rfl)|(apply m7;focus (repeat (first | exact v6 | (apply H6;rfl))))|apply x4|apply x7|apply x6|apply m8|apply C3|(apply d6;rfl)|(with_reducible apply A7;intro hc;try (exfalso;omega))|(with_reducible apply A6;intro hc;try (exfalso;omega))|(apply U1;rfl)
 all_goals rfl
def O2 (e:List CV) (ps:List Pat):CV:=.agg [.int .i64 9,.str [],.int .i64 0,.str [],.frz none e,.frz none e,.frz none e,.frz (some 6) (ps.map Pat.c),.frz none e,.frz none e,.frz none e,.frz none e,.frz none e,.frz none e]
def Z2 (n:Int) (ps:List Pat):Cn:=uJ (f8 (f8 ((ps.map b6).foldl x8 (f8 (x8 zc zc) n)) n) n)
theorem zm5 {l:List Pat} {n:Nat} (h:n<l.length) (c:Cn):((l.take (n+1)).map b6).foldl x8 c=x8 (((l.take n).map b6).foldl x8 c) (b6 l[n]):=by
 rw [List.take_add_one,gEg h];simp only [Option.toList,List.map_append,List.foldl_append,List.map,List.foldl]
theorem zc1 (e:List CV) (he:e.length=0) (ps:List Pat) (hp:ps.length<=9223372036854775807) (ho:∀ x∈ps,Rets Vv 27 [.c x.c] (.c (b6 x).c)):Rets Vv 17 [.c (O2 e ps)] (.c (Z2 e.length ps).c):=by
 have h25:=zw7 e he;have h26:=zg2 e he;have h24:=uZ zc zc;have h23:=wL (x8 zc zc) e.length;refine E3 z99 ?_;unfold O2;repeat' first|apply x5|exact y6|exact F9 rfl|(apply y0;rfl;rfl)|(apply t6;rfl;rfl;rfl)|(apply u6;rfl;rfl;rfl)|(apply U5;rfl)|(apply G6;rfl;exact F5 rfl)|(apply G7;rfl;rfl;(first | exact B8 rfl | exact zw3 rfl))|(apply J2;rfl;rfl;rfl;rfl;exact I4 rfl)|(apply m7;focus (repeat (first | exact v6 | (apply H6;rfl))))|apply x4|apply x7|apply x6|apply l7|apply A4|apply L6|apply O0|(apply d6;rfl)|(apply fQ;(exact rfl))|(apply M3;(exact rfl))|(with_reducible apply zB;intro hc;try (exfalso;omega))|(with_reducible apply X2;intro hc;try (exfalso;omega))|(apply M1;rfl)|(apply zO;rfl)|(apply uI;rfl)|(apply zi6)|(apply f0 (hc:=h25);rfl;rfl;rfl)|(apply f0 (hc:=h26);rfl;rfl;rfl)|(apply f0 (hc:=h24);rfl;rfl;rfl)|(apply f0 (hc:=h23);rfl;rfl;rfl)|(apply M9;rfl)
 refine K7 (fun _:Unit=>[(1,.lbox (some 14) (.c (.agg [.int .i64 9,.str [],.int .i64 0,.str [],.frz none e,.frz none e,.frz none e,.frz (some 6) (ps.map Pat.c),.frz none e,.frz none e,.frz none e,.frz none e,.frz none e,.frz none e]))),(2,.lbox (some 3) (.c (.agg [.int .i64 0,.int .i64 0,.bool false]))),(3,.lbox (some 3) (.c (f8 (x8 zc zc) e.length).c)),(4,.c (.int .i64 0))]) (fun _=>True) (fun _=>0) () ?_ trivial ?_
 . repeat' first|exact v6|refine o6 rfl ?_
 rintro _ _;repeat' first|apply x5|exact y6|exact F9 rfl|(apply y0;rfl;rfl)|(apply t6;rfl;rfl;rfl)|(apply u6;rfl;rfl;rfl)|(apply U5;rfl)|(apply G6;rfl;exact F5 rfl)|(apply m7;focus (repeat (first | exact v6 | (apply H6;rfl))))|apply x4|apply x7|apply x6|apply l7|apply C3|(apply d6;rfl)|(with_reducible apply A7;intro hc;try (exfalso;omega))|(with_reducible apply A6;intro hc;try (exfalso;omega))
 refine K7 (fun i:Nat=>[(1,.lbox (some 14) (.c (.agg [.int .i64 9,.str [],.int .i64 0,.str [],.frz none e,.frz none e,.frz none e,.frz (some 6) (ps.map Pat.c),.frz none e,.frz none e,.frz none e,.frz none e,.frz none e,.frz none e]))),(2,.lbox (some 3) (.c (.agg [.int .i64 0,.int .i64 0,.bool false]))),(3,.lbox (some 3) (.c (((ps.take i).map b6).foldl x8 (f8 (x8 zc zc) e.length)).c)),(5,.c (.int .i64 i))]) (fun i=>i<=ps.length) (fun i=>ps.length - i) 0 ?_ (Nat.zero_le _) ?_
 . repeat' first|exact v6|refine o6 rfl ?_
 rintro i hi;by_cases hil:i<ps.length
 . have hih:=ho ps[i] (List.getElem_mem hil);have hpl:=uZ (((ps.take i).map b6).foldl x8 (f8 (x8 zc zc) e.length)) (b6 ps[i]);repeat' first|apply x5|exact y6|exact F9 rfl|(apply y0;rfl;rfl)|(apply P2;rfl;rfl)|(apply t6;rfl;rfl;rfl)|(apply W7;rfl;rfl;omega)|(apply u6;rfl;rfl;rfl)|(apply M8;rfl)|(apply P5;rfl;rfl;rfl;exact gEg (by omega))|(apply G6;rfl;exact F5 rfl)|(apply J2;rfl;rfl;rfl;rfl;exact I4 rfl)|(apply m7;focus (repeat (first | exact v6 | (apply J1;rfl) | (apply H6;rfl))))|apply x4|apply x7|apply x6|apply l7|apply A4|apply L6|apply O0|(apply d6;rfl)|(apply M3;(exact rfl))|(with_reducible apply A7;intro hc;try (exfalso;omega))|(with_reducible apply A6;intro hc;try (exfalso;omega))|(apply M1;rfl)|(apply W5;rfl)|(apply X0)|(apply zO;rfl)|(apply uI;rfl)|(apply f0 (hc:=hih);rfl;rfl;rfl)|(apply f0 (hc:=hpl);rfl;rfl;rfl)|(apply M9;rfl)
   refine ⟨i+1,?_,rfl,by omega,by omega⟩;rw [zm5 hil];repeat' first|exact v6|refine o6 rfl ?_
 have hik:i=ps.length:=by omega
 subst hik;rw [List.take_length];repeat' first|apply x5|exact y6|exact F9 rfl|(apply y0;rfl;rfl)|(apply t6;rfl;rfl;rfl)|(apply u6;rfl;rfl;rfl)|(apply M8;rfl)|(apply G6;rfl;exact F5 rfl)|(apply m7;focus (repeat (first | exact v6 | (apply H6;rfl))))|apply x4|apply x7|apply x6|apply l7|apply C3|(apply d6;rfl)|(with_reducible apply A7;intro hc;try (exfalso;omega))|(with_reducible apply A6;intro hc;try (exfalso;omega))
 refine K7 (fun _:Unit=>[(1,.lbox (some 14) (.c (.agg [.int .i64 9,.str [],.int .i64 0,.str [],.frz none e,.frz none e,.frz none e,.frz (some 6) (ps.map Pat.c),.frz none e,.frz none e,.frz none e,.frz none e,.frz none e,.frz none e]))),(2,.lbox (some 3) (.c (.agg [.int .i64 0,.int .i64 0,.bool false]))),(3,.lbox (some 3) (.c ((ps.map b6).foldl x8 (f8 (x8 zc zc) e.length)).c)),(6,.c (.int .i64 0))]) (fun _=>True) (fun _=>0) () ?_ trivial ?_
 . repeat' first|exact v6|refine o6 rfl ?_
 rintro _ _;repeat' first|apply x5|exact y6|exact F9 rfl|(apply y0;rfl;rfl)|(apply t6;rfl;rfl;rfl)|(apply u6;rfl;rfl;rfl)|(apply U5;rfl)|(apply G6;rfl;exact F5 rfl)|(apply m7;focus (repeat (first | exact v6 | (apply H6;rfl))))|apply x4|apply x7|apply x6|apply l7|apply C3|(apply d6;rfl)|(with_reducible apply A7;intro hc;try (exfalso;omega))|(with_reducible apply A6;intro hc;try (exfalso;omega))
 refine K7 (fun _:Unit=>[(1,.lbox (some 14) (.c (.agg [.int .i64 9,.str [],.int .i64 0,.str [],.frz none e,.frz none e,.frz none e,.frz (some 6) (ps.map Pat.c),.frz none e,.frz none e,.frz none e,.frz none e,.frz none e,.frz none e]))),(2,.lbox (some 3) (.c (.agg [.int .i64 0,.int .i64 0,.bool false]))),(3,.lbox (some 3) (.c ((ps.map b6).foldl x8 (f8 (x8 zc zc) e.length)).c)),(7,.c (.int .i64 0))]) (fun _=>True) (fun _=>0) () ?_ trivial ?_
 . repeat' first|exact v6|refine o6 rfl ?_
 rintro _ _;repeat' first|apply x5|exact y6|exact F9 rfl|(apply y0;rfl;rfl)|(apply t6;rfl;rfl;rfl)|(apply u6;rfl;rfl;rfl)|(apply U5;rfl)|(apply G6;rfl;exact F5 rfl)|(apply m7;focus (repeat (first | exact v6 | (apply H6;rfl))))|apply x4|apply x7|apply x6|apply l7|apply C3|(apply d6;rfl)|(with_reducible apply A7;intro hc;try (exfalso;omega))|(with_reducible apply A6;intro hc;try (exfalso;omega))
 refine K7 (fun _:Unit=>[(1,.lbox (some 14) (.c (.agg [.int .i64 9,.str [],.int .i64 0,.str [],.frz none e,.frz none e,.frz none e,.frz (some 6) (ps.map Pat.c),.frz none e,.frz none e,.frz none e,.frz none e,.frz none e,.frz none e]))),(2,.lbox (some 3) (.c (.agg [.int .i64 0,.int .i64 0,.bool false]))),(3,.lbox (some 3) (.c ((ps.map b6).foldl x8 (f8 (x8 zc zc) e.length)).c)),(9,.c (.int .i64 0))]) (fun _=>True) (fun _=>0) () ?_ trivial ?_
 . repeat' first|exact v6|refine o6 rfl ?_
 rintro _ _;repeat' first|apply x5|exact y6|exact F9 rfl|(apply y0;rfl;rfl)|(apply t6;rfl;rfl;rfl)|(apply u6;rfl;rfl;rfl)|(apply U5;rfl)|(apply G6;rfl;exact F5 rfl)|(apply m7;focus (repeat (first | exact v6 | (apply H6;rfl))))|apply x4|apply x7|apply x6|apply l7|apply C3|(apply d6;rfl)|(with_reducible apply A7;intro hc;try (exfalso;omega))|(with_reducible apply A6;intro hc;try (exfalso;omega))
 refine K7 (fun _:Unit=>[(1,.lbox (some 14) (.c (.agg [.int .i64 9,.str [],.int .i64 0,.str [],.frz none e,.frz none e,.frz none e,.frz (some 6) (ps.map Pat.c),.frz none e,.frz none e,.frz none e,.frz none e,.frz none e,.frz none e]))),(2,.lbox (some 3) (.c (.agg [.int .i64 0,.int .i64 0,.bool false]))),(3,.lbox (some 3) (.c ((ps.map b6).foldl x8 (f8 (x8 zc zc) e.length)).c)),(10,.c (.int .i64 0))]) (fun _=>True) (fun _=>0) () ?_ trivial ?_
 . repeat' first|exact v6|refine o6 rfl ?_
 rintro _ _;have hl1:=wL ((ps.map b6).foldl x8 (f8 (x8 zc zc) e.length)) e.length;have hl2:=wL (f8 ((ps.map b6).foldl x8 (f8 (x8 zc zc) e.length)) e.length) e.length;have hn:=vW (f8 (f8 ((ps.map b6).foldl x8 (f8 (x8 zc zc) e.length)) e.length) e.length);repeat' first|apply x5|exact y6|exact F9 rfl|(apply y0;rfl;rfl)|(apply t6;rfl;rfl;rfl)|(apply u6;rfl;rfl;rfl)|(apply U5;rfl)|(apply G6;rfl;exact F5 rfl)|(apply J2;rfl;rfl;rfl;rfl;exact I4 rfl)|(apply m7;focus (repeat (first | exact v6 | (apply H6;rfl))))|apply x4|apply x7|apply x6|apply A4|apply m8|apply C3|apply L6|apply O0|(apply d6;rfl)|(apply M3;(exact rfl))|(with_reducible apply zB;intro hc;try (exfalso;omega))|(with_reducible apply X2;intro hc;try (exfalso;omega))|(with_reducible apply A7;intro hc;try (exfalso;omega))|(with_reducible apply A6;intro hc;try (exfalso;omega))|(apply M1;rfl)|(apply zO;rfl)|(apply uI;rfl)|(apply f0 (hc:=hl1);rfl;rfl;rfl)|(apply f0 (hc:=hl2);rfl;rfl;rfl)|(apply f0 (hc:=hn);rfl;rfl;rfl)|(apply M9;rfl)|(apply U1;rfl)
 all_goals rfl
theorem fJ (e:List CV) (ps:List Pat) (h:Rets Vv 17 [.c (O2 e ps)] (.c (Z2 e.length ps).c)):Rets Vv 8 [.c (O2 e ps)] (.c (.int .i64 (Z2 e.length ps).a)):=by
 refine E3 zc8 ?_;unfold O2 at h ⊢;repeat' first|apply x5|exact y6|(apply y0;rfl;rfl)|(apply t6;rfl;rfl;rfl)|(apply dK;rfl;rfl)|(apply G7;rfl;rfl;(exact B8 rfl))|(apply B6 (hc:=h);rfl;rfl;rfl)|apply x4|apply x7|apply x6|apply m8|(apply o7;rfl)
 all_goals rfl
theorem z82 (e:List CV) (ps:List Pat) (h:Rets Vv 17 [.c (O2 e ps)] (.c (Z2 e.length ps).c)):Rets Vv 9 [.c (O2 e ps)] (.c (.int .i64 (Z2 e.length ps).b)):=by
 refine E3 zt3 ?_;unfold O2 at h ⊢;repeat' first|apply x5|exact y6|(apply y0;rfl;rfl)|(apply t6;rfl;rfl;rfl)|(apply dK;rfl;rfl)|(apply G7;rfl;rfl;(exact B8 rfl))|(apply B6 (hc:=h);rfl;rfl;rfl)|apply x4|apply x7|apply x6|apply m8|(apply o7;rfl)
 all_goals rfl
def kT (n:Int) (ps:List Pat):Bool:=decide ((Z2 n ps).a<=110)&&decide ((Z2 n ps).b<=600)
theorem z05 (e:List CV) (he:e.length=0) (ps:List Pat) (hp:ps.length<=9223372036854775807) (ho:∀ x∈ps,x.ok):Rets Vv 4 [.c (O2 e ps)] (.c (.bool (kT e.length ps))):=by
 have h17:=zc1 e he ps hp (fun x hx=>z65 _ x (Nat.le_refl _) (ho x hx));have h8:=fJ e ps h17;have h9:=z82 e ps h17;refine E3 zg4 ?_;unfold kT;unfold O2 at h8 h9 ⊢;repeat' first|apply x5|exact y6|exact Y7 rfl|(apply y0;rfl;rfl)|(apply t6;rfl;rfl;rfl)|(apply u6;rfl;rfl;rfl)|(apply Z3;rfl;(with_reducible rfl);rfl)|(apply Y2;rfl;(with_reducible rfl);rfl)|(apply G7;rfl;rfl;(exact B8 rfl))|(apply B6 (hc:=h8);rfl;rfl;rfl)|(apply B6 (hc:=h9);rfl;rfl;rfl)|apply x4|apply x7|apply x6|apply m8|(apply jK;rfl;(with_reducible rfl))|(apply bG;rfl;(with_reducible rfl))|(apply jP;rfl)|(with_reducible (first|apply A7|apply A6);intro hc)|(apply o7;rfl)
 all_goals (simp_all;try (intros;omega))
end Go.Proofs.TryzL
