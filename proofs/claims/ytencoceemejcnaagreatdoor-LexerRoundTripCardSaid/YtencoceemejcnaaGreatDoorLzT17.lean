/- Chapter 02: the reference's literals. -/
import Derived.Test.YtencoceemejcnaaGreatDoorLzT10
import Derived.Test.YtencoceemejcnaaGreatDoorLzLays02
set_option linter.unusedSimpArgs false
set_option linter.unusedVariables false
namespace Go.Proofs.TryzL
open Go.Proofs.Lz
set_option maxHeartbeats 2000000
def z94 (s:List UInt8):Nat:=if rwordL.contains s then 5 else if rsymL.contains s then 6 else if zq6 s&&q40 s then 2 else if zq6 s then 1 else if zh4 s&&s[0]?==some 58 then 4 else if zh4 s then 3 else if (jk7 s).isSome then 7 else 0
theorem z91 (s:List UInt8) (hl:s.length<2^31):Rets Vv 60 [.c (.str s)] (.c (.int .i64 (z94 s))):=by
 refine z67 v67 ?_
 cases h0:s[0]? with
 | none=>
   have:s=[]:=by cases s<;>simp_all
   subst this
   have hb:=jn7 [] hl
   have hb':Rets Vv 92 [.c (.str [])] (qf5 none):=hb
   simp only [qf5] at hb'
   have e1:rwordL.contains []=false:=rfl
   have e2:rsymL.contains []=false:=rfl
   have e3:zq6 []=false:=rfl
   have e4:zh4 []=false:=rfl
   have h1:=zl3 []
   have h2:=zi3 []
   have h3:=qm5 [] (by simp)
   have h4:=qa5 [] (by simp)
   rw [e1] at h1;rw [e2] at h2;rw [e3] at h3;rw [e4] at h4
   repeat' first
    | apply z01
    | exact z13
    | exact z19 rfl
    | (apply z15;rfl;rfl)
    | (apply z16;rfl;(with_reducible rfl);rfl)
    | (apply z63;(iterate 3 rfl))
    | (apply za4;rfl;rfl)
    | (apply z08 (hc:=h1);rfl;rfl;rfl)
    | (apply z08 (hc:=h2);rfl;rfl;rfl)
    | (apply z08 (hc:=h3);rfl;rfl;rfl)
    | (apply z08 (hc:=h4);rfl;rfl;rfl)
    | (apply z08 (hc:=hb');rfl;rfl;rfl)
    | (apply z04;focus (repeat (first | exact z23 | (apply kq_c;rfl))))
    | apply z02
    | apply z00
    | apply z03
    | apply z05
    | apply z07
    | apply z09
    | (apply z32;rfl;(with_reducible rfl))
    | (apply z43;rfl;(with_reducible rfl))
    | (apply z98;rfl)
   all_goals rfl
 | some c=>
   cases hb:jk7 s with
   | none=>
     have hb':Rets Vv 92 [.c (.str s)] (qf5 none):=hb▸jn7 s hl
     simp only [qf5] at hb'
     repeat' first
      | apply z01
      | exact z13
      | exact z19 rfl
      | (apply z15;rfl;rfl)
      | (apply z30;(iterate 3 rfl))
      | (apply z17;rfl;(with_reducible rfl);rfl)
      | (apply z16;rfl;(with_reducible rfl);rfl)
      | (apply z68;(iterate 3 rfl);assumption)
      | (apply z63;(iterate 3 rfl))
      | (apply za4;rfl;rfl)
      | (apply z08 (hc:=zl3 s);rfl;rfl;rfl)
      | (apply z08 (hc:=zi3 s);rfl;rfl;rfl)
      | (apply z08 (hc:=qm5 s (by omega));rfl;rfl;rfl)
      | (apply z08 (hc:=qa5 s (by omega));rfl;rfl;rfl)
      | (apply z08 (hc:=qn3 c);rfl;rfl;rfl)
      | (apply z08 (hc:=hb');rfl;rfl;rfl)
      | (apply z04;focus (repeat (first | exact z23 | (apply kq_c;rfl))))
      | apply z02
      | apply z00
      | apply z03
      | apply z05
      | apply z07
      | apply z09
      | (apply z32;rfl;(with_reducible rfl))
      | (apply z12;rfl)
      | (apply z47;rfl;(with_reducible rfl))
      | (apply z43;rfl;(with_reducible rfl))
      | (apply z39;rfl)
      | (with_reducible apply za1;intro hc)
      | (with_reducible apply z71;intro hc)
      | (with_reducible apply zh6;intro hc)
      | (apply z98;rfl)
     all_goals have e58:((c.toNat:Int)=58)↔c=58:=u8eq (n:=58) (by decide)
     all_goals first
      | (exfalso;simp_all;done)
      | (congr 1;simp_all [z94,q40];done)
   | some p=>
     have hb':Rets Vv 92 [.c (.str s)] (qf5 (some p)):=hb▸jn7 s hl
     simp only [qf5] at hb'
     repeat' first
      | apply z01
      | exact z13
      | exact z19 rfl
      | (apply z15;rfl;rfl)
      | (apply z30;(iterate 3 rfl))
      | (apply z17;rfl;(with_reducible rfl);rfl)
      | (apply z16;rfl;(with_reducible rfl);rfl)
      | (apply z68;(iterate 3 rfl);assumption)
      | (apply z63;(iterate 3 rfl))
      | (apply za4;rfl;rfl)
      | (apply z08 (hc:=zl3 s);rfl;rfl;rfl)
      | (apply z08 (hc:=zi3 s);rfl;rfl;rfl)
      | (apply z08 (hc:=qm5 s (by omega));rfl;rfl;rfl)
      | (apply z08 (hc:=qa5 s (by omega));rfl;rfl;rfl)
      | (apply z08 (hc:=qn3 c);rfl;rfl;rfl)
      | (apply z08 (hc:=hb');rfl;rfl;rfl)
      | (apply z04;focus (repeat (first | exact z23 | (apply kq_c;rfl))))
      | apply z02
      | apply z00
      | apply z03
      | apply z05
      | apply z07
      | apply z09
      | (apply z35;rfl;(with_reducible rfl))
      | (apply z32;rfl;(with_reducible rfl))
      | (apply z12;rfl)
      | (apply z47;rfl;(with_reducible rfl))
      | (apply z43;rfl;(with_reducible rfl))
      | (apply z39;rfl)
      | (with_reducible apply za1;intro hc)
      | (with_reducible apply z71;intro hc)
      | (with_reducible apply zh6;intro hc)
      | (apply z98;rfl)
     all_goals have e58:((c.toNat:Int)=58)↔c=58:=u8eq (n:=58) (by decide)
     all_goals first
      | (exfalso;simp_all;done)
      | (congr 1;simp_all [z94,q40];done)
end Go.Proofs.TryzL
namespace Go.Proofs.TryzL
open Go.Proofs.Lz
set_option maxHeartbeats 2000000
theorem u8i {a b:UInt8}:((a.toNat:Int)=(b.toNat:Int))↔a=b:=by rw [← UInt8.toNat_inj];omega
end Go.Proofs.TryzL
namespace Go.Proofs.TryzL
open Go.Proofs.Lz
set_option maxHeartbeats 2000000
end Go.Proofs.TryzL
namespace Go.Proofs.TryzL
open Go.Proofs.Lz
set_option maxHeartbeats 2000000
end Go.Proofs.TryzL
namespace Go.Proofs.TryzL
open Go.Proofs.Lz
set_option maxHeartbeats 2000000
end Go.Proofs.TryzL
namespace Go.Proofs.TryzL
open Go.Proofs.Lz
set_option maxHeartbeats 2000000
end Go.Proofs.TryzL
namespace Go.Proofs.Lz
theorem wq3 {n:Int} (h:0≤n∧n<256):IntKind.u8.wrap n=n:=by
 simp [IntKind.wrap,IntKind.bits,IntKind.signed]
 omega
section
variable {V:WEnv} {fr fr':WFr} {H H':z18} {N:Post} {dst:Option Nat}
theorem qc4 {x y:Opd} {a b:Int} (hx:fr.rd x=.c (.int .u8 a)) (hy:fr.rd y=.c (.int .u8 b)) (h0:0≤a - b∧a - b<256) (hq:Put fr dst (.c (.int .u8 (a - b))) fr') (h:N fr' H):OpP V (.bin .sub x y) dst fr H N:=
 z30 hx hy (by simp only [binC,if_true,wq3 h0]) hq h
theorem wi1 {x y:Opd} {c:UInt8} (hx:fr.rd x=.c (.int .u8 c.toNat)) (hy:fr.rd y=.c (.int .u64 4)) (hq:Put fr dst (.c (.int .u8 (c.toNat / 16:Nat))) fr') (h:N fr' H):OpP V (.bin .shr x y) dst fr H N:=by
 refine z30 (v:=.int .u8 (c.toNat / 16:Nat)) hx hy ?_ hq h
 have e:((c.toNat:Int).fdiv (2 ^ (min (4:Int).toNat IntKind.u8.bits)))=((c.toNat / 16:Nat):Int):=by
  show (c.toNat:Int).fdiv 16=_
  rw [Int.fdiv_eq_ediv_of_nonneg _ (by omega)]
  omega
 show (if (0:Int)≤4 then some (CV.int .u8 ((c.toNat:Int).fdiv (2 ^ (min (4:Int).toNat IntKind.u8.bits)))) else none)=_
 rw [e]
 rfl
theorem vb0:∀ c:UInt8,IntKind.u8.wrap ((BitVec.ofInt IntKind.u8.bits c.toNat &&& BitVec.ofInt IntKind.u8.bits 15).toNat)=((c.toNat % 16:Nat):Int):=by
 have h:∀ n:Fin 256,IntKind.u8.wrap ((BitVec.ofInt IntKind.u8.bits (n.val:Int) &&& BitVec.ofInt IntKind.u8.bits 15).toNat)=((n.val % 16:Nat):Int):=by decide +kernel
 intro c
 exact h ⟨c.toNat,c.toNat_lt⟩
theorem w64 {x y:Opd} {c:UInt8} (hx:fr.rd x=.c (.int .u8 c.toNat)) (hy:fr.rd y=.c (.int .u8 15)) (hq:Put fr dst (.c (.int .u8 (c.toNat % 16:Nat))) fr') (h:N fr' H):OpP V (.bin .and x y) dst fr H N:=
 z30 (v:=.int .u8 (c.toNat % 16:Nat)) hx hy (by simp only [binC,if_true,vb0 c]) hq h
theorem j92 {l:List (Nat×WV)} {a:List (Nat×Option (Nat×Nat))} {f p:Nat} {args:List Opd} {r:WV} {Q:z18→Prop} (hm:V.md f=.S) (ht:V.tk f=[0]) (hp:zi0 [0] 0 (args.map (FL l a).rd)=[.sl p 0 0]) (hl:qs7 [0] 0 (args.map (FL l a).rd)=[]) (ho:(args.map (FL l a).rd).all okA=true)
 (hc:Shr V f (q39 [0] 0 (args.map (FL l a).rd)) H r Q) (hq:Put (FL (hitM isHp false (hitM (inK [.sl p 0 0]) false l)) a) dst r fr') (h:∀ H',Q H'→N fr' H'):OpP V (.call f args) dst (FL l a) H N:=by
 obtain ⟨H2,h1,h2⟩:=hc
 refine ⟨fr',H2,?_,h H2 h2⟩
 show zd1 V (wv V) f (args.map (FL l a).rd) dst (FL l a) H=_
 simp only [zd1,hm,ht,hp,hl,ho,List.nodup_cons,List.not_mem_nil,not_false_eq_true,List.nodup_nil,List.all_cons,List.all_nil,List.contains_nil,Bool.not_false,Bool.and_true,and_self,if_true,q36,h1,q16,hq.eq]
theorem v11 {n t e:Nat} {b:Bool} {ek:Option Nat} {xs:List CV} {r:WV} {Q:z18→Prop} (h1:fr.env t=.own b e ek xs) (hr:r=.own b e ek xs) (h:Q H):finS n [.tmp t] r Q fr H:=by
 subst hr
 refine ⟨[.view (.sl t 0 0) b 0 e ek xs],.own b e ek xs,H,?_,?_,rfl,h⟩
 · simp [zg0,h1,zv3,zk6,zo9]
 · unfold zq0
   have e:List.filter (zj4 n) [Pl.sl t 0 0]=[Pl.sl t 0 0]:=by simp [zj4]
   simp [ze3,srcC,src1,zo8,zv4,zj4,ze8,zm3,leave1,hitH,e]
theorem q15 {x:Opd} {xs:List CV} {s:List UInt8} (hx:q88 none (fr.rd x)=some xs) (hb:zf4 xs=some s) (hq:Put fr dst (.c (.str s)) fr') (h:N fr' H):OpP V (.b2s x) dst fr H N:=
 ⟨fr',H,by show wOp0 (.b2s x) dst fr H=_;simp only [wOp0,hx,Option.bind_some,hb,hq.eq],h⟩
end
end Go.Proofs.Lz
namespace Go.Proofs.TryzL
open Go.Proofs.Lz
set_option maxHeartbeats 4000000
def numF:List UInt8→Nat→Option Nat
 | [],a=>some a
 | c::r,a=>if z93 c=true∧a≤(9223372036854775807 - (c.toNat - 48)) / 10 then numF r (10 * a+(c.toNat - 48)) else none
theorem v39 (x:Int) (h:0≤x∧x≤9):IntKind.i64.wrap ((9223372036854775807 - x).tdiv 10)=(9223372036854775807 - x) / 10:=by
 rw [Int.tdiv_eq_ediv_of_nonneg (by omega)]
 exact wrap64 (by omega)
theorem jw7 {c:UInt8} (h:z93 c=true):48≤c.toNat∧c.toNat≤57:=by simpa [z93] using h
end Go.Proofs.TryzL
namespace Go.Proofs.TryzL
open Go.Proofs.Lz
set_option maxHeartbeats 4000000
def js7 (s:List UInt8):Nat→Int
 | 0=>-1
 | n+1=>if s[n]?=some 36 then (n:Int) else js7 s n
theorem w93 (s:List UInt8):∀ n,-1≤js7 s n∧js7 s n<n
 | 0=>by simp [js7]
 | n+1=>by
   have:=w93 s n
   unfold js7
   split<;>omega
end Go.Proofs.TryzL
namespace Go.Proofs.TryzL
open Go.Proofs.Lz
set_option maxHeartbeats 4000000
def hexD:List UInt8:=[48,49,50,51,52,53,54,55,56,57,97,98,99,100,101,102]
def hexd (n:Nat):UInt8:=hexD.getD n 0
theorem je9 {n:Nat} (h:n<16):hexD[n]?=some (hexd n):=by
 have:n<hexD.length:=h
 simp [hexd,List.getD,List.getElem?_eq_getElem this]
def escB (c m:UInt8):List UInt8:=if c=10 then [92,110] else if c=9 then [92,116] else if c=92∨c=m then [92,c] else if 32≤c.toNat∧c.toNat≤126 then [c] else [92,120,hexd (c.toNat / 16),hexd (c.toNat % 16)]
theorem qy5 {H:z18} {xs:List CV} (c m:UInt8) (hl:xs.length<2^40):Shr Vv 50 [.own true 5 none xs,.c (bC c),.c (bC m)] H (.own true 5 none (xs++bytesV (escB c m))) (fun H'=>H'=H):=by
 refine zh9 v28 ?_
 have hh1:([48,49,50,51,52,53,54,55,56,57,97,98,99,100,101,102]:List UInt8)[c.toNat / 16]?=some (hexd (c.toNat / 16)):=je9 (by have:=c.toNat_lt;omega)
 have hh2:([48,49,50,51,52,53,54,55,56,57,97,98,99,100,101,102]:List UInt8)[c.toNat % 16]?=some (hexd (c.toNat % 16)):=je9 (by omega)
 repeat' first
  | apply z01
  | exact z13
  | exact z19 rfl
  | exact zd8 rfl rfl
  | (apply z15;rfl;rfl)
  | (apply wi1;rfl;rfl)
  | (apply w64;rfl;rfl)
  | (apply z30;(iterate 3 rfl))
  | (apply z17;rfl;(with_reducible rfl);rfl)
  | (apply z16;rfl;(with_reducible rfl);rfl)
  | (apply z68;(iterate 3 rfl);assumption)
  | (apply q04;(iterate 6 rfl))
  | (apply z66;rfl;rfl)
  | (apply zk9;(iterate 3 rfl))
  | (apply zb9;(iterate 3 rfl))
  | (apply zo5;rfl;rfl;(simp only [List.length_map,List.length_cons,List.length_nil,List.length_append,List.length_replicate];omega))
  | (apply z04;focus (repeat (first | exact z23 | (apply kq_c;rfl) | (apply ze1;rfl;rfl))))
  | apply z02
  | apply z00
  | apply z03
  | apply z05
  | apply z07
  | apply z09
  | apply z25
  | apply z54
  | (apply z35;rfl;(with_reducible rfl))
  | (apply z32;rfl;(with_reducible rfl))
  | (apply z12;rfl)
  | (apply z47;rfl;(with_reducible rfl))
  | (apply z43;rfl;(with_reducible rfl))
  | (apply z41;rfl;(with_reducible rfl))
  | (apply z39;rfl)
  | (apply z62;(exact rfl))
  | (with_reducible apply za1;intro hc)
  | (with_reducible apply z71;intro hc)
  | (with_reducible apply z69;intro hc)
  | (with_reducible apply z52;intro hc)
  | (apply z48;rfl)
  | (apply wj8;rfl)
  | (apply wi2)
  | (apply dand;rfl)
 all_goals refine v11 rfl ?_ rfl
 all_goals have e10:((c.toNat:Int)=10)↔c=10:=u8eq (n:=10) (by decide)
 all_goals have e9:((c.toNat:Int)=9)↔c=9:=u8eq (n:=9) (by decide)
 all_goals have e92:((c.toNat:Int)=92)↔c=92:=u8eq (n:=92) (by decide)
 all_goals have em:((c.toNat:Int)=(m.toNat:Int))↔c=m:=u8i
 all_goals have e32:((32:Int)≤c.toNat)↔32≤c.toNat:=by omega
 all_goals have e126:((c.toNat:Int)≤126)↔c.toNat≤126:=by omega
 all_goals simp only [e10,e9,e92,em,e32,e126] at *
 all_goals clear hh1 hh2 hl
 all_goals first
  | (subst c;rfl)
  | (subst m;simp only [escB, *,if_true,if_false,or_true,true_or,or_self,and_self,not_false_eq_true,reduceIte];rfl)
  | (simp only [escB, *,if_true,if_false,or_true,true_or,or_self,and_self,and_true,true_and,and_false,false_and,not_false_eq_true,reduceIte];rfl)
theorem j31 (c m:UInt8):(escB c m).length≤4:=by
 unfold escB
 repeat' split
 all_goals simp
def escS (s:List UInt8) (m:UInt8):List UInt8:=s.flatMap (escB · m)
theorem qo1 (s:List UInt8) (m:UInt8):(escS s m).length≤4 * s.length:=by
 induction s with
 | nil=>simp [escS]
 | cons c r ih=>
   have:=j31 c m
   simp only [escS,List.flatMap_cons,List.length_append,List.length_cons] at *
   omega
theorem ju5 {s:List UInt8} {m:UInt8} {n:Nat} (h:n<s.length):escS (s.take (n+1)) m=escS (s.take n) m++escB s[n] m:=by
 rw [List.take_add_one,List.getElem?_eq_getElem h]
 simp only [escS,List.flatMap_append,Option.toList,List.flatMap_cons,List.flatMap_nil,List.append_nil]
theorem zn2 (a b:List UInt8):bytesV (a++b)=bytesV a++bytesV b:=by simp [bytesV]
theorem qq4:∀ s:List UInt8,zf4 (bytesV s)=some s:=by
 intro s
 induction s with
 | nil=>rfl
 | cons c r ih=>
   show (match zf4 (bytesV r) with
    | some l=>some (UInt8.ofNat (c.toNat:Int).toNat::l)
    | none=>none)=_
   rw [ih]
   simp
theorem wf2 (s:List UInt8) (hl:s.length<2^31):Rets Vv 19 [.c (.str s)] (.c (.str ([34]++escS s 34++[34]))):=by
 refine z67 v48 ?_
 have hel:=qo1 s 34
 repeat' first
  | apply z01
  | exact z13
  | exact zd8 rfl rfl
  | (apply z15;rfl;rfl)
  | (apply j46;(iterate 6 rfl))
  | (apply zk9;(iterate 3 rfl))
  | apply z02
  | apply z00
  | apply z03
  | apply z05
 refine zd2 (fun n:Nat=>[(0,.c (.str s)),(3,.own true 5 none (bytesV ([34]++escS (s.take n) 34))),(4,.c (.int .i64 n))]) (fun n=>n≤s.length) (fun n=>s.length - n) 0 ?_ (Nat.zero_le _) ?_
 · repeat' first
    | exact z23
    | refine z64 rfl ?_
 intro n hn
 have hen:=qo1 (s.take n) 34
 rw [List.length_take] at hen
 have hbl:(bytesV ([34]++escS (s.take n) 34)).length<2^40:=by simp [bytesV];omega
 by_cases hns:n<s.length
 · repeat' first
    | apply z01
    | exact z13
    | exact z19 rfl
    | exact zd8 rfl rfl
    | (apply z15;rfl;rfl)
    | (apply z99;rfl;rfl;omega)
    | (apply z30;(iterate 3 rfl))
    | (apply z44;rfl)
    | (apply z68;(iterate 3 rfl);exact List.getElem?_eq_getElem (by omega))
    | (apply q04;(iterate 6 rfl))
    | (apply zk9;(iterate 3 rfl))
    | (apply zb9;(iterate 3 rfl))
    | (apply zo5;rfl;rfl;(omega))
    | (apply j92 (hc:=⟨(qy5 s[n] 34 hbl).run⟩);rfl;rfl;rfl;rfl;rfl;(exact zd8 rfl rfl);rintro H1 hQ1)
    | (apply z04;focus (repeat (first | exact z23 | (apply kq_c;rfl) | (apply ze1;rfl;rfl))))
    | apply z02
    | apply z00
    | apply z03
    | apply z05
    | apply z07
    | apply z56
    | (apply z12;rfl)
    | (with_reducible apply z69;intro hc)
    | (with_reducible apply z52;intro hc)
   any_goals (exfalso;omega)
   subst hQ1
   refine ⟨n+1,?_,rfl,by omega,by omega⟩
   have e:bytesV ([34]++escS (s.take (n+1)) 34)=bytesV ([34]++escS (s.take n) 34)++bytesV (escB s[n] 34):=by
    rw [ju5 hns,← zn2,List.append_assoc]
   rw [e]
   repeat' first
    | exact z23
    | refine z64 rfl ?_
 · have hnl:n=s.length:=by omega
   subst hnl
   have hb2:zf4 (bytesV ([34]++escS (s.take s.length) 34)++[CV.int .u8 34])=some ([34]++escS s 34++[34]):=by
    have:[CV.int .u8 34]=bytesV [34]:=rfl
    rw [this,← zn2,qq4,List.take_length]
   repeat' first
    | apply z01
    | exact z13
    | exact z19 rfl
    | exact zd8 rfl rfl
    | (apply z15;rfl;rfl)
    | (apply q15;rfl;assumption)
    | (apply z30;(iterate 3 rfl))
    | (apply z44;rfl)
    | (apply z68;(iterate 3 rfl);exact List.getElem?_eq_getElem (by omega))
    | (apply q04;(iterate 6 rfl))
    | (apply zb9;(iterate 3 rfl))
    | (apply zo5;rfl;rfl;(simp only [List.length_map,List.length_cons,List.length_nil,List.length_append,List.length_replicate];omega))
    | (apply z04;focus (repeat (first | exact z23 | (apply kq_c;rfl) | (apply ze1;rfl;rfl))))
    | apply z02
    | apply z00
    | apply z03
    | apply z05
    | apply z07
    | apply z09
    | apply z56
    | (apply z12;rfl)
    | (with_reducible apply z69;intro hc)
    | (with_reducible apply z52;intro hc)
    | (apply z98;rfl)
   any_goals (exfalso;omega)
   rfl
theorem j79 (n:Int):∃ r,Rets Vv 20 [.c (.int .i64 n)] (.c (.str r))∧(∀ c:UInt8,n=c.toNat→r=[39]++escB c 39++[39])∧(¬ (0≤n∧n≤255)→r=[]):=by
 by_cases h:0≤n∧n≤255
 · obtain ⟨c,rfl⟩:∃ c:UInt8,n=c.toNat:=⟨UInt8.ofNat n.toNat,by simp;omega⟩
   refine ⟨[39]++escB c 39++[39],?_,?_,fun hn=>absurd h hn⟩
   · refine z67 wx8 ?_
     have hbl:([CV.int .u8 39]:List CV).length<2^40:=by simp
     have hb2:zf4 ([CV.int .u8 39]++bytesV (escB c 39)++[CV.int .u8 39])=some ([39]++escB c 39++[39]):=by
      have:[CV.int .u8 39]=bytesV [39]:=rfl
      rw [this,← zn2,← zn2,qq4]
     have hel:=j31 c 39
     have hw:IntKind.u8.wrap (c.toNat:Int)=c.toNat:=wq3 (by omega)
     repeat' first
      | apply z01
      | exact z13
      | exact z19 rfl
      | exact zd8 rfl rfl
      | (apply z15;rfl;rfl)
      | (apply z30;(iterate 3 rfl))
      | (apply z17;rfl;(with_reducible rfl);rfl)
      | (apply z16;rfl;(with_reducible rfl);rfl)
      | (apply j46;(iterate 6 rfl))
      | (apply jc6;rfl)
      | (apply z04;focus (repeat (first | exact z23 | (apply kq_c;rfl))))
      | apply z02
      | apply z00
      | apply z03
      | apply z07
      | apply z09
      | (apply z35;rfl;(with_reducible rfl))
      | (apply z12;rfl)
      | (apply z47;rfl;(with_reducible rfl))
      | (apply z41;rfl;(with_reducible rfl))
      | (apply z39;rfl)
      | (with_reducible apply z69;intro hc)
      | (with_reducible apply z52;intro hc)
      | (apply z98;rfl)
     any_goals (exfalso;omega)
     rw [hw]
     have hbv:(bytesV (escB c 39)).length≤4:=by simpa [bytesV] using hel
     repeat' first
      | apply z01
      | exact z13
      | exact zd8 rfl rfl
      | (apply z15;rfl;rfl)
      | (apply q15;rfl;assumption)
      | (apply q04;(iterate 6 rfl))
      | (apply zo5;rfl;rfl;(simp only [List.length_map,List.length_cons,List.length_nil,List.length_append,List.length_replicate];omega))
      | (apply j92 (hc:=⟨(qy5 c 39 hbl).run⟩);rfl;rfl;rfl;rfl;rfl;(exact zd8 rfl rfl);rintro H1 hQ1)
      | apply z03
      | apply z09
      | (apply z98;rfl)
     all_goals first
      | rfl
      | (exfalso;omega)
   · intro c' hc
     have:c'=c:=UInt8.toNat_inj.1 (by omega)
     rw [this]
 · refine ⟨[],?_,fun c hc=>absurd ⟨by omega,by have:=c.toNat_lt;omega⟩ h,fun _=>rfl⟩
   refine z67 wx8 ?_
   repeat' first
    | apply z01
    | exact z13
    | exact z19 rfl
    | exact zd8 rfl rfl
    | (apply z15;rfl;rfl)
    | (apply z30;(iterate 3 rfl))
    | (apply z17;rfl;(with_reducible rfl);rfl)
    | (apply z16;rfl;(with_reducible rfl);rfl)
    | (apply j46;(iterate 6 rfl))
    | (apply jc6;rfl)
    | (apply z04;focus (repeat (first | exact z23 | (apply kq_c;rfl))))
    | apply z02
    | apply z00
    | apply z03
    | apply z07
    | apply z09
    | (apply z35;rfl;(with_reducible rfl))
    | (apply z12;rfl)
    | (apply z47;rfl;(with_reducible rfl))
    | (apply z41;rfl;(with_reducible rfl))
    | (apply z39;rfl)
    | (with_reducible apply z69;intro hc)
    | (with_reducible apply z52;intro hc)
    | (apply z98;rfl)
   any_goals (exfalso;omega)
   all_goals rfl
end Go.Proofs.TryzL
namespace Go.Proofs.Lz
section
variable {V:WEnv} {fr fr':WFr} {H H':z18} {N:Post} {dst:Option Nat}
theorem zx6 {x lo hi:Opd} {s:List UInt8} {k k':IntKind} {m:Nat} {b:UInt8} (hx:fr.rd x=.c (.str s)) (hl:fr.rd lo=.c (.int k (m:Int))) (hh:fr.rd hi=.c (.int k' ((m:Int)+1))) (hb:s[m]?=some b) (hq:Put fr dst (.c (.str [b])) fr') (hN:N fr' H):OpP V (.slc true none x (some lo) (some hi)) dst fr H N:=by
 have hm:m<s.length:=(List.getElem?_eq_some_iff.1 hb).1
 refine zz0 (m:=m) (m':=m+1) hx hl hh rfl (by simp) ⟨by omega,by omega⟩ ?_ hN
 have e:(s.drop m).take (m+1 - m)=[b]:=by
  rw [Nat.add_sub_cancel_left,List.take_one,List.head?_drop,hb]
  rfl
 rw [e]
 exact hq
end
end Go.Proofs.Lz
namespace Go.Proofs.TryzL
open Go.Proofs.Lz
set_option maxHeartbeats 4000000
end Go.Proofs.TryzL
