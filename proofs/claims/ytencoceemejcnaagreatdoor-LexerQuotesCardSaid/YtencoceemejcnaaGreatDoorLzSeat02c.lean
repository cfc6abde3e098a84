/- Chapter 02: what the rows' arguments are. -/
import Derived.Test.YtencoceemejcnaaGreatDoorLzT15
import Derived.Test.YtencoceemejcnaaGreatDoorLzT3
set_option linter.unusedSimpArgs false
set_option linter.unusedVariables false
namespace Go.Proofs.TryzL
open Go.Proofs.Lz
set_option maxHeartbeats 4000000
def hexD:List UInt8:=[48,49,50,51,52,53,54,55,56,57,97,98,99,100,101,102]
def hexd (n:Nat):UInt8:=hexD.getD n 0
theorem q77 {n:Nat} (h:n<16):hexD[n]?=some (hexd n):=by
 have:n<hexD.length:=h
 simp [hexd,List.getD,List.getElem?_eq_getElem this]
def escB (c m:UInt8):List UInt8:=if c=10 then [92,110] else if c=9 then [92,116] else if c=92∨c=m then [92,c] else if 32≤c.toNat∧c.toNat≤126 then [c] else [92,120,hexd (c.toNat / 16),hexd (c.toNat % 16)]
theorem qw8 {H:z06} {xs:List CV} (c m:UInt8) (hl:xs.length<2^40):Shr Vv 50 [.own true 5 none xs,.c (bC c),.c (bC m)] H (.own true 5 none (xs++bytesV (escB c m))) (fun H'=>H'=H):=by
 refine zm1 v19 ?_
 have hh1:([48,49,50,51,52,53,54,55,56,57,97,98,99,100,101,102]:List UInt8)[c.toNat / 16]?=some (hexd (c.toNat / 16)):=q77 (by have:=c.toNat_lt;omega)
 have hh2:([48,49,50,51,52,53,54,55,56,57,97,98,99,100,101,102]:List UInt8)[c.toNat % 16]?=some (hexd (c.toNat % 16)):=q77 (by omega)
 repeat' first
  | apply z01
  | exact z13
  | exact z19 rfl
  | exact zd5 rfl rfl
  | (apply z17;rfl;rfl)
  | (apply wm7;rfl;rfl)
  | (apply w02;rfl;rfl)
  | (apply z30;(iterate 3 rfl))
  | (apply z18;rfl;(with_reducible rfl);rfl)
  | (apply z16;rfl;(with_reducible rfl);rfl)
  | (apply z60;(iterate 3 rfl);assumption)
  | (apply q67;(iterate 6 rfl))
  | (apply z58;rfl;rfl)
  | (apply zj3;(iterate 3 rfl))
  | (apply za5;(iterate 3 rfl))
  | (apply zm5;rfl;rfl;(simp only [List.length_map,List.length_cons,List.length_nil,List.length_append,List.length_replicate];omega))
  | (apply z04;focus (repeat (first | exact z28 | (apply kq_c;rfl) | (apply zc6;rfl;rfl))))
  | apply z02
  | apply z00
  | apply z03
  | apply z09
  | apply z12
  | apply z15
  | apply z22
  | apply z45
  | (apply z39;rfl;(with_reducible rfl))
  | (apply z35;rfl;(with_reducible rfl))
  | (apply z14;rfl)
  | (apply z50;rfl;(with_reducible rfl))
  | (apply z48;rfl;(with_reducible rfl))
  | (apply z41;rfl;(with_reducible rfl))
  | (apply z40;rfl)
  | (apply z56;(exact rfl))
  | (with_reducible apply za2;intro hc)
  | (with_reducible apply z73;intro hc)
  | (with_reducible apply z78;intro hc)
  | (with_reducible apply z57;intro hc)
  | (apply z44;rfl)
  | (apply wh5;rfl)
  | (apply wl4)
  | (apply dand;rfl)
 all_goals refine wo5 rfl ?_ rfl
 all_goals have e10:((c.toNat:Int)=10)↔c=10:=u8eq (n:=10) (by decide)
 all_goals have e9:((c.toNat:Int)=9)↔c=9:=u8eq (n:=9) (by decide)
 all_goals have e92:((c.toNat:Int)=92)↔c=92:=u8eq (n:=92) (by decide)
 all_goals have em:((c.toNat:Int)=(m.toNat:Int))↔c=m:=u8i
 all_goals have e32:((32:Int)≤c.toNat)↔32≤c.toNat:=by omega
 all_goals have e126:((c.toNat:Int)≤126)↔c.toNat≤126:=by omega
 all_goals simp only [e10,e9,e92,em,e32,e126] at *
 all_goals clear hh1 hh2 hl
 all_goals first
  | (subst c;rfl)
  | (subst m;simp only [escB, *,if_true,if_false,or_true,true_or,or_self,and_self,not_false_eq_true,reduceIte];rfl)
  | (simp only [escB, *,if_true,if_false,or_true,true_or,or_self,and_self,and_true,true_and,and_false,false_and,not_false_eq_true,reduceIte];rfl)
theorem qp7 (c m:UInt8):(escB c m).length≤4:=by
 unfold escB
 repeat' split
 all_goals simp
def escS (s:List UInt8) (m:UInt8):List UInt8:=s.flatMap (escB · m)
theorem q76 (s:List UInt8) (m:UInt8):(escS s m).length≤4 * s.length:=by
 induction s with
 | nil=>simp [escS]
 | cons c r ih=>
   have:=qp7 c m
   simp only [escS,List.flatMap_cons,List.length_append,List.length_cons] at *
   omega
theorem qv6 {s:List UInt8} {m:UInt8} {n:Nat} (h:n<s.length):escS (s.take (n+1)) m=escS (s.take n) m++escB s[n] m:=by
 rw [List.take_add_one,List.getElem?_eq_getElem h]
 simp only [escS,List.flatMap_append,Option.toList,List.flatMap_cons,List.flatMap_nil,List.append_nil]
theorem zw9 (a b:List UInt8):bytesV (a++b)=bytesV a++bytesV b:=by simp [bytesV]
theorem qp9:∀ s:List UInt8,zd2 (bytesV s)=some s:=by
 intro s
 induction s with
 | nil=>rfl
 | cons c r ih=>
   show (match zd2 (bytesV r) with
    | some l=>some (UInt8.ofNat (c.toNat:Int).toNat::l)
    | none=>none)=_
   rw [ih]
   simp
theorem wc3 (s:List UInt8) (hl:s.length<2^31):Rets Vv 19 [.c (.str s)] (.c (.str ([34]++escS s 34++[34]))):=by
 refine z83 v16 ?_
 have hel:=q76 s 34
 repeat' first
  | apply z01
  | exact z13
  | exact zd5 rfl rfl
  | (apply z17;rfl;rfl)
  | (apply qo3;(iterate 6 rfl))
  | (apply zj3;(iterate 3 rfl))
  | apply z02
  | apply z00
  | apply z03
  | apply z09
 refine zk5 (fun n:Nat=>[(0,.c (.str s)),(3,.own true 5 none (bytesV ([34]++escS (s.take n) 34))),(4,.c (.int .i64 n))]) (fun n=>n≤s.length) (fun n=>s.length - n) 0 ?_ (Nat.zero_le _) ?_
 · repeat' first
    | exact z28
    | refine z67 rfl ?_
 intro n hn
 have hen:=q76 (s.take n) 34
 rw [List.length_take] at hen
 have hbl:(bytesV ([34]++escS (s.take n) 34)).length<2^40:=by simp [bytesV];omega
 by_cases hns:n<s.length
 · repeat' first
    | apply z01
    | exact z13
    | exact z19 rfl
    | exact zd5 rfl rfl
    | (apply z17;rfl;rfl)
    | (apply za3;rfl;rfl;omega)
    | (apply z30;(iterate 3 rfl))
    | (apply z42;rfl)
    | (apply z60;(iterate 3 rfl);exact List.getElem?_eq_getElem (by omega))
    | (apply q67;(iterate 6 rfl))
    | (apply zj3;(iterate 3 rfl))
    | (apply za5;(iterate 3 rfl))
    | (apply zm5;rfl;rfl;(omega))
    | (apply j68 (hc:=⟨(qw8 s[n] 34 hbl).run⟩);rfl;rfl;rfl;rfl;rfl;(exact zd5 rfl rfl);rintro H1 hQ1)
    | (apply z04;focus (repeat (first | exact z28 | (apply kq_c;rfl) | (apply zc6;rfl;rfl))))
    | apply z02
    | apply z00
    | apply z03
    | apply z09
    | apply z12
    | apply z61
    | (apply z14;rfl)
    | (with_reducible apply z78;intro hc)
    | (with_reducible apply z57;intro hc)
   any_goals (exfalso;omega)
   subst hQ1
   refine ⟨n+1,?_,rfl,by omega,by omega⟩
   have e:bytesV ([34]++escS (s.take (n+1)) 34)=bytesV ([34]++escS (s.take n) 34)++bytesV (escB s[n] 34):=by
    rw [qv6 hns,← zw9,List.append_assoc]
   rw [e]
   repeat' first
    | exact z28
    | refine z67 rfl ?_
 · have hnl:n=s.length:=by omega
   subst hnl
   have hb2:zd2 (bytesV ([34]++escS (s.take s.length) 34)++[CV.int .u8 34])=some ([34]++escS s 34++[34]):=by
    have:[CV.int .u8 34]=bytesV [34]:=rfl
    rw [this,← zw9,qp9,List.take_length]
   repeat' first
    | apply z01
    | exact z13
    | exact z19 rfl
    | exact zd5 rfl rfl
    | (apply z17;rfl;rfl)
    | (apply q57;rfl;assumption)
    | (apply z30;(iterate 3 rfl))
    | (apply z42;rfl)
    | (apply z60;(iterate 3 rfl);exact List.getElem?_eq_getElem (by omega))
    | (apply q67;(iterate 6 rfl))
    | (apply za5;(iterate 3 rfl))
    | (apply zm5;rfl;rfl;(simp only [List.length_map,List.length_cons,List.length_nil,List.length_append,List.length_replicate];omega))
    | (apply z04;focus (repeat (first | exact z28 | (apply kq_c;rfl) | (apply zc6;rfl;rfl))))
    | apply z02
    | apply z00
    | apply z03
    | apply z09
    | apply z12
    | apply z15
    | apply z61
    | (apply z14;rfl)
    | (with_reducible apply z78;intro hc)
    | (with_reducible apply z57;intro hc)
    | (apply zb5;rfl)
   any_goals (exfalso;omega)
   rfl
theorem j29 (n:Int):∃ r,Rets Vv 20 [.c (.int .i64 n)] (.c (.str r))∧(∀ c:UInt8,n=c.toNat→r=[39]++escB c 39++[39])∧(¬ (0≤n∧n≤255)→r=[]):=by
 by_cases h:0≤n∧n≤255
 · obtain ⟨c,rfl⟩:∃ c:UInt8,n=c.toNat:=⟨UInt8.ofNat n.toNat,by simp;omega⟩
   refine ⟨[39]++escB c 39++[39],?_,?_,fun hn=>absurd h hn⟩
   · refine z83 wq8 ?_
     have hbl:([CV.int .u8 39]:List CV).length<2^40:=by simp
     have hb2:zd2 ([CV.int .u8 39]++bytesV (escB c 39)++[CV.int .u8 39])=some ([39]++escB c 39++[39]):=by
      have:[CV.int .u8 39]=bytesV [39]:=rfl
      rw [this,← zw9,← zw9,qp9]
     have hel:=qp7 c 39
     have hw:IntKind.u8.wrap (c.toNat:Int)=c.toNat:=je7 (by omega)
     repeat' first
      | apply z01
      | exact z13
      | exact z19 rfl
      | exact zd5 rfl rfl
      | (apply z17;rfl;rfl)
      | (apply z30;(iterate 3 rfl))
      | (apply z18;rfl;(with_reducible rfl);rfl)
      | (apply z16;rfl;(with_reducible rfl);rfl)
      | (apply qo3;(iterate 6 rfl))
      | (apply qj0;rfl)
      | (apply z04;focus (repeat (first | exact z28 | (apply kq_c;rfl))))
      | apply z02
      | apply z00
      | apply z03
      | apply z12
      | apply z15
      | (apply z39;rfl;(with_reducible rfl))
      | (apply z14;rfl)
      | (apply z50;rfl;(with_reducible rfl))
      | (apply z41;rfl;(with_reducible rfl))
      | (apply z40;rfl)
      | (with_reducible apply z78;intro hc)
      | (with_reducible apply z57;intro hc)
      | (apply zb5;rfl)
     any_goals (exfalso;omega)
     rw [hw]
     have hbv:(bytesV (escB c 39)).length≤4:=by simpa [bytesV] using hel
     repeat' first
      | apply z01
      | exact z13
      | exact zd5 rfl rfl
      | (apply z17;rfl;rfl)
      | (apply q57;rfl;assumption)
      | (apply q67;(iterate 6 rfl))
      | (apply zm5;rfl;rfl;(simp only [List.length_map,List.length_cons,List.length_nil,List.length_append,List.length_replicate];omega))
      | (apply j68 (hc:=⟨(qw8 c 39 hbl).run⟩);rfl;rfl;rfl;rfl;rfl;(exact zd5 rfl rfl);rintro H1 hQ1)
      | apply z03
      | apply z15
      | (apply zb5;rfl)
     all_goals first
      | rfl
      | (exfalso;omega)
   · intro c' hc
     have:c'=c:=UInt8.toNat_inj.1 (by omega)
     rw [this]
 · refine ⟨[],?_,fun c hc=>absurd ⟨by omega,by have:=c.toNat_lt;omega⟩ h,fun _=>rfl⟩
   refine z83 wq8 ?_
   repeat' first
    | apply z01
    | exact z13
    | exact z19 rfl
    | exact zd5 rfl rfl
    | (apply z17;rfl;rfl)
    | (apply z30;(iterate 3 rfl))
    | (apply z18;rfl;(with_reducible rfl);rfl)
    | (apply z16;rfl;(with_reducible rfl);rfl)
    | (apply qo3;(iterate 6 rfl))
    | (apply qj0;rfl)
    | (apply z04;focus (repeat (first | exact z28 | (apply kq_c;rfl))))
    | apply z02
    | apply z00
    | apply z03
    | apply z12
    | apply z15
    | (apply z39;rfl;(with_reducible rfl))
    | (apply z14;rfl)
    | (apply z50;rfl;(with_reducible rfl))
    | (apply z41;rfl;(with_reducible rfl))
    | (apply z40;rfl)
    | (with_reducible apply z78;intro hc)
    | (with_reducible apply z57;intro hc)
    | (apply zb5;rfl)
   any_goals (exfalso;omega)
   all_goals rfl
end Go.Proofs.TryzL
namespace Go.Proofs.Lz
section
variable {V:WEnv} {fr fr':WFr} {H H':z06} {N:Post} {dst:Option Nat}
theorem we9 {x y:Opd} {a b:Int} (hx:fr.rd x=.c (.int .u8 a)) (hy:fr.rd y=.c (.int .u8 b)) (h0:0≤a+b∧a+b<256) (hq:Put fr dst (.c (.int .u8 (a+b))) fr') (h:N fr' H):OpP V (.bin .add x y) dst fr H N:=
 z30 hx hy (by simp only [binC,if_true,je7 h0]) hq h
theorem w17 {x y:Opd} {c:UInt8} (hx:fr.rd x=.c (.int .u8 c.toNat)) (hy:fr.rd y=.c (.int .u8 16)) (hq:Put fr dst (.c (.int .u8 (c.toNat / 16:Nat))) fr') (h:N fr' H):OpP V (.bin .quo x y) dst fr H N:=by
 refine z30 (v:=.int .u8 (c.toNat / 16:Nat)) hx hy ?_ hq h
 have hc:=c.toNat_lt
 have e:IntKind.u8.wrap ((c.toNat:Int).tdiv 16)=((c.toNat / 16:Nat):Int):=by
  rw [Int.tdiv_eq_ediv_of_nonneg (by omega),je7 (by omega)]
  omega
 show (if IntKind.u8=IntKind.u8∧(16:Int)≠0 then some (CV.int .u8 (IntKind.u8.wrap ((c.toNat:Int).tdiv 16))) else none)=_
 rw [if_pos ⟨rfl,by decide⟩,e]
theorem w14 {x y:Opd} {c:UInt8} (hx:fr.rd x=.c (.int .u8 c.toNat)) (hy:fr.rd y=.c (.int .u8 16)) (hq:Put fr dst (.c (.int .u8 (c.toNat % 16:Nat))) fr') (h:N fr' H):OpP V (.bin .rem x y) dst fr H N:=by
 refine z30 (v:=.int .u8 (c.toNat % 16:Nat)) hx hy ?_ hq h
 have e:((c.toNat:Int).tmod 16)=((c.toNat % 16:Nat):Int):=by
  rw [Int.tmod_eq_emod_of_nonneg (by omega)]
  omega
 show (if IntKind.u8=IntKind.u8∧(16:Int)≠0 then some (CV.int .u8 ((c.toNat:Int).tmod 16)) else none)=_
 rw [if_pos ⟨rfl,by decide⟩,e]
theorem zo9 {x lo hi:Opd} {s:List UInt8} {k k':IntKind} {m:Nat} {b:UInt8} (hx:fr.rd x=.c (.str s)) (hl:fr.rd lo=.c (.int k (m:Int))) (hh:fr.rd hi=.c (.int k' ((m:Int)+1))) (hb:s[m]?=some b) (hq:Put fr dst (.c (.str [b])) fr') (hN:N fr' H):OpP V (.slc true none x (some lo) (some hi)) dst fr H N:=by
 have hm:m<s.length:=(List.getElem?_eq_some_iff.1 hb).1
 refine zx6 (m:=m) (m':=m+1) hx hl hh rfl (by simp) ⟨by omega,by omega⟩ ?_ hN
 have e:(s.drop m).take (m+1 - m)=[b]:=by
  rw [Nat.add_sub_cancel_left,List.take_one,List.head?_drop,hb]
  rfl
 rw [e]
 exact hq
end
end Go.Proofs.Lz
namespace Go.Proofs.TryzL
open Go.Proofs.Lz
set_option maxHeartbeats 4000000
theorem qw1 (c m:UInt8):Rets Vv 51 [.c (bC c),.c (bC m)] (.c (.str (escB c m))):=by
 refine z83 ww1 ?_
 have hc0:=c.toNat_lt
 have hh1:([48,49,50,51,52,53,54,55,56,57,97,98,99,100,101,102]:List UInt8)[c.toNat / 16]?=some (hexd (c.toNat / 16)):=q77 (by omega)
 have hh2:([48,49,50,51,52,53,54,55,56,57,97,98,99,100,101,102]:List UInt8)[c.toNat % 16]?=some (hexd (c.toNat % 16)):=q77 (by omega)
 have hb2:zd2 [bC c]=some [c]:=qp9 [c]
 repeat' first
  | apply z01
  | exact z13
  | exact z19 rfl
  | exact zd5 rfl rfl
  | (apply z17;rfl;rfl)
  | (apply we9;rfl;rfl;omega)
  | (apply w17;rfl;rfl)
  | (apply w14;rfl;rfl)
  | (apply zo9;(iterate 3 rfl);assumption)
  | (apply q57;rfl;assumption)
  | (apply qi6;rfl;rfl;(simp only [List.length_map,List.length_cons,List.length_nil,List.length_append,List.length_replicate];omega))
  | (apply z30;(iterate 3 rfl))
  | (apply z18;rfl;(with_reducible rfl);rfl)
  | (apply z16;rfl;(with_reducible rfl);rfl)
  | (apply qo3;(iterate 6 rfl))
  | (apply z04;focus (repeat (first | exact z28 | (apply kq_c;rfl))))
  | apply z02
  | apply z00
  | apply z03
  | apply z09
  | apply z12
  | apply z15
  | apply z22
  | apply z45
  | (apply z39;rfl;(with_reducible rfl))
  | (apply z35;rfl;(with_reducible rfl))
  | (apply z14;rfl)
  | (apply z50;rfl;(with_reducible rfl))
  | (apply z48;rfl;(with_reducible rfl))
  | (apply z41;rfl;(with_reducible rfl))
  | (apply z40;rfl)
  | (apply z56;(exact rfl))
  | (with_reducible apply za2;intro hc)
  | (with_reducible apply z73;intro hc)
  | (with_reducible apply z78;intro hc)
  | (with_reducible apply z57;intro hc)
  | (apply z44;rfl)
  | (apply zf8)
  | (apply dand;rfl)
  | (apply zb5;rfl)
 all_goals have e10:((c.toNat:Int)=10)↔c=10:=u8eq (n:=10) (by decide)
 all_goals have e9:((c.toNat:Int)=9)↔c=9:=u8eq (n:=9) (by decide)
 all_goals have e92:((c.toNat:Int)=92)↔c=92:=u8eq (n:=92) (by decide)
 all_goals have em:((c.toNat:Int)=(m.toNat:Int))↔c=m:=u8i
 all_goals have e32:((32:Int)≤c.toNat)↔32≤c.toNat:=by omega
 all_goals have e126:((c.toNat:Int)≤126)↔c.toNat≤126:=by omega
 all_goals simp only [e10,e9,e92,em,e32,e126] at *
 all_goals clear hh1 hh2 hb2 hc0
 all_goals first
  | (subst c;rfl)
  | (subst m;simp only [escB, *,if_true,if_false,or_true,true_or,or_self,and_self,not_false_eq_true,reduceIte];first | done | rfl)
  | (simp only [escB, *,if_true,if_false,or_true,true_or,or_self,and_self,and_true,true_and,and_false,false_and,not_false_eq_true,reduceIte];first | done | rfl)
theorem wm8 (s:List UInt8) (hl:s.length<2^31):Rets Vv 21 [.c (.str s)] (.c (.str ([34]++escS s 34++[34]))):=by
 refine z83 wy6 ?_
 have hel:=q76 s 34
 repeat' first
  | apply z01
  | exact z13
  | (apply z17;rfl;rfl)
  | apply z02
  | apply z00
  | apply z03
  | apply z09
 refine zk5 (fun n:Nat=>[(0,.c (.str s)),(3,.c (.str ([34]++escS (s.take n) 34))),(4,.c (.int .i64 n))]) (fun n=>n≤s.length) (fun n=>s.length - n) 0 ?_ (Nat.zero_le _) ?_
 · repeat' first
    | exact z28
    | refine z67 rfl ?_
 intro n hn
 have hen:=q76 (s.take n) 34
 rw [List.length_take] at hen
 by_cases hns:n<s.length
 · have he4:=qp7 s[n] 34
   repeat' first
    | apply z01
    | exact z13
    | (apply z17;rfl;rfl)
    | (apply za3;rfl;rfl;omega)
    | (apply qi6;rfl;rfl;(first | omega | (simp only [List.length_map,List.length_cons,List.length_nil,List.length_append,List.length_replicate];omega)))
    | (apply z30;(iterate 3 rfl))
    | (apply z42;rfl)
    | (apply z60;(iterate 3 rfl);exact List.getElem?_eq_getElem (by omega))
    | (apply z05 (hc:=qw1 s[n] 34);rfl;rfl;rfl)
    | (apply z04;focus (repeat (first | exact z28 | (apply kq_c;rfl))))
    | apply z02
    | apply z00
    | apply z03
    | apply z09
    | apply z12
    | apply z15
    | apply z61
    | (apply z14;rfl)
    | (with_reducible apply z78;intro hc)
    | (with_reducible apply z57;intro hc)
    | (apply zb5;rfl)
   any_goals (exfalso;omega)
   refine ⟨n+1,?_,rfl,by omega,by omega⟩
   have e:[34]++escS (s.take (n+1)) 34=([34]++escS (s.take n) 34)++escB s[n] 34:=by rw [qv6 hns,List.append_assoc]
   rw [e]
   repeat' first
    | exact z28
    | refine z67 rfl ?_
 · have hnl:n=s.length:=by omega
   subst hnl
   repeat' first
    | apply z01
    | exact z13
    | (apply z17;rfl;rfl)
    | (apply qi6;rfl;rfl;(simp only [List.length_map,List.length_cons,List.length_nil,List.length_append,List.length_replicate];omega))
    | (apply z30;(iterate 3 rfl))
    | (apply z42;rfl)
    | (apply z60;(iterate 3 rfl);exact List.getElem?_eq_getElem (by omega))
    | (apply z04;focus (repeat (first | exact z28 | (apply kq_c;rfl))))
    | apply z02
    | apply z00
    | apply z03
    | apply z09
    | apply z12
    | apply z15
    | apply z61
    | (apply z14;rfl)
    | (with_reducible apply z78;intro hc)
    | (with_reducible apply z57;intro hc)
    | (apply zb5;rfl)
   any_goals (exfalso;omega)
   rw [List.take_length]
theorem qz0 (n:Int):∃ r,Rets Vv 22 [.c (.int .i64 n)] (.c (.str r))∧(∀ c:UInt8,n=c.toNat→r=[39]++escB c 39++[39])∧(¬ (0≤n∧n≤255)→r=[]):=by
 by_cases h:0≤n∧n≤255
 · obtain ⟨c,rfl⟩:∃ c:UInt8,n=c.toNat:=⟨UInt8.ofNat n.toNat,by simp;omega⟩
   refine ⟨[39]++escB c 39++[39],?_,?_,fun hn=>absurd h hn⟩
   · refine z83 wu1 ?_
     have hel:=qp7 c 39
     have hw:IntKind.u8.wrap (c.toNat:Int)=c.toNat:=je7 (by omega)
     repeat' first
      | apply z01
      | exact z13
      | exact z19 rfl
      | (apply z17;rfl;rfl)
      | (apply z30;(iterate 3 rfl))
      | (apply z18;rfl;(with_reducible rfl);rfl)
      | (apply z16;rfl;(with_reducible rfl);rfl)
      | (apply qj0;rfl)
      | (apply z04;focus (repeat (first | exact z28 | (apply kq_c;rfl))))
      | apply z02
      | apply z00
      | apply z03
      | apply z12
      | apply z15
      | (apply z39;rfl;(with_reducible rfl))
      | (apply z14;rfl)
      | (apply z50;rfl;(with_reducible rfl))
      | (apply z41;rfl;(with_reducible rfl))
      | (apply z40;rfl)
      | (with_reducible apply z78;intro hc)
      | (with_reducible apply z57;intro hc)
      | (apply zb5;rfl)
     any_goals (exfalso;omega)
     rw [hw]
     repeat' first
      | apply z01
      | exact z13
      | (apply z17;rfl;rfl)
      | (apply qi6;rfl;rfl;(simp only [List.length_map,List.length_cons,List.length_nil,List.length_append,List.length_replicate];omega))
      | (apply z05 (hc:=qw1 c 39);rfl;rfl;rfl)
      | apply z03
      | apply z15
      | (apply zb5;rfl)
     all_goals first
      | rfl
      | (exfalso;omega)
   · intro c' hc
     have:c'=c:=UInt8.toNat_inj.1 (by omega)
     rw [this]
 · refine ⟨[],?_,fun c hc=>absurd ⟨by omega,by have:=c.toNat_lt;omega⟩ h,fun _=>rfl⟩
   refine z83 wu1 ?_
   repeat' first
    | apply z01
    | exact z13
    | exact z19 rfl
    | (apply z17;rfl;rfl)
    | (apply z30;(iterate 3 rfl))
    | (apply z18;rfl;(with_reducible rfl);rfl)
    | (apply z16;rfl;(with_reducible rfl);rfl)
    | (apply qj0;rfl)
    | (apply z04;focus (repeat (first | exact z28 | (apply kq_c;rfl))))
    | apply z02
    | apply z00
    | apply z03
    | apply z12
    | apply z15
    | (apply z39;rfl;(with_reducible rfl))
    | (apply z14;rfl)
    | (apply z50;rfl;(with_reducible rfl))
    | (apply z41;rfl;(with_reducible rfl))
    | (apply z40;rfl)
    | (with_reducible apply z78;intro hc)
    | (with_reducible apply z57;intro hc)
    | (apply zb5;rfl)
   any_goals (exfalso;omega)
   all_goals rfl
end Go.Proofs.TryzL
namespace Go.Proofs.TryzL
open Go.Proofs.Lz
set_option maxHeartbeats 4000000
structure Tok where
 op:Int
 qual:List UInt8
 text:List UInt8
 n:Int
 auto:Bool
 line:Int
 col:Int
def tokC (t:Tok):CV:=.agg [.int .i64 t.op,.str t.qual,.str t.text,.int .i64 t.n,.bool t.auto,.int .i64 t.line,.int .i64 t.col]
def w42 (op:Int) (text:List UInt8) (n:Int):Bool:=
 if op=1 then decide (z86 text=1)&&decide (n=0) else if op=2 then decide (z86 text=2)&&decide (n=0) else if op=3 then decide (z86 text=3)&&decide (n=0)
 else if op=4 then decide (z86 text=4)&&decide (n=0) else if op=9 then decide (z86 text=5)&&decide (n=0) else if op=10 then decide (z86 text=6)&&decide (n=0)
 else if op=8 then decide (text.length=1)&&(spS.contains (text.headD 0))&&decide (n=0) else if op=7 then decide (text.length≤200)&&decide (n=0)
 else if op=5 then decide (text=[])&&decide (0≤n) else if op=6 then decide (text=[])&&decide (0≤n)&&decide (n≤255) else false
def tokA (op:Int) (qual text:List UInt8) (n:Int) (auto:Bool) (line col:Int):CV:=.agg [.int .i64 op,.str qual,.str text,.int .i64 n,.bool auto,.int .i64 line,.int .i64 col]
def q01 (op:Int) (qual text:List UInt8) (n:Int):Bool:=(decide (qual=[])||(decide (1≤op)&&decide (op≤4)&&decide (z86 qual=2)))&&w42 op text n
end Go.Proofs.TryzL
namespace Go.Proofs.TryzL
open Go.Proofs.Lz
set_option maxHeartbeats 4000000
end Go.Proofs.TryzL
namespace Go.Proofs.TryzL
open Go.Proofs.Lz
set_option maxHeartbeats 4000000
def qcS (n:Int):List UInt8:=if 0≤n∧n≤255 then [39]++escB (UInt8.ofNat n.toNat) 39++[39] else []
theorem wu0 {n:Int} {r:List UInt8} (h1:∀ c:UInt8,n=c.toNat→r=[39]++escB c 39++[39]) (h2:¬ (0≤n∧n≤255)→r=[]):r=qcS n:=by
 unfold qcS
 split
 · rename_i h
   exact h1 _ (by simp;omega)
 · rename_i h
   exact h2 h
theorem qc20 (n:Int):Rets Vv 20 [.c (.int .i64 n)] (.c (.str (qcS n))):=by
 obtain ⟨r,h,h1,h2⟩:=j29 n
 rw [← wu0 h1 h2];exact h
theorem qc22 (n:Int):Rets Vv 22 [.c (.int .i64 n)] (.c (.str (qcS n))):=by
 obtain ⟨r,h,h1,h2⟩:=qz0 n
 rw [← wu0 h1 h2];exact h
def textS (op:Int) (qual text:List UInt8) (n:Int):List UInt8:=if op=5 then Lib.itoa n else if op=6 then qcS n else if op=7 then [34]++escS text 34++[34] else if qual=[] then text else qual++[46]++text
end Go.Proofs.TryzL
namespace Go.Proofs.TryzL
open Go.Proofs.Lz
set_option maxHeartbeats 4000000
section
variable {V:WEnv} {fr fr':WFr} {H H':z06} {N:Post} {dst:Option Nat}
end
end Go.Proofs.TryzL
namespace Go.Proofs.TryzL
open Go.Proofs.Lz
set_option maxHeartbeats 4000000
theorem qv9 (s:List UInt8):∀ k,Lib.repeatL s (k+1)=Lib.repeatL s k++s
 | 0=>by simp [Lib.repeatL]
 | k+1=>by
   show s++Lib.repeatL s (k+1)=(s++Lib.repeatL s k)++s
   rw [qv9 s k,List.append_assoc]
end Go.Proofs.TryzL
namespace Go.Proofs.TryzL
open Go.Proofs.Lz
end Go.Proofs.TryzL
namespace Go.Proofs.TryzL
open Go.Proofs.Lz
set_option maxHeartbeats 4000000
end Go.Proofs.TryzL
namespace Go.Proofs.TryzL
open Go.Proofs.Lz
set_option maxHeartbeats 4000000
end Go.Proofs.TryzL
namespace Go.Proofs.TryzL
open Go.Proofs.Lz
set_option maxHeartbeats 4000000
end Go.Proofs.TryzL
namespace Go.Proofs.Lz
section
variable {V:WEnv} {fr fr':WFr} {H H':z06} {N:Post} {dst:Option Nat}
theorem qh1 {n a b:Nat} {u v:CV} {r:WV} {Q:z06→Prop} (h1:fr.env a=.c u) (h2:fr.env b=.c v) (hr:r=.tup [.c u,.c v]) (h:Q H):finS n [.tmp a,.tmp b] r Q fr H:=by
 subst hr
 refine ⟨[.c u,.c v],.tup [.c u,.c v],H,?_,?_,rfl,h⟩
 · simp only [ze3,h1,h2];rfl
 · rfl
theorem zs7 {n a b:Nat} {ek:Option Nat} {u v:CV} {r:WV} {Q:z06→Prop} (h1:fr.env a=.lbox ek (.c u)) (h2:fr.env b=.c v) (hr:r=.tup [.c u,.c v]) (h:Q H):finS n [.cell a ek,.tmp b] r Q fr H:=by
 subst hr
 refine ⟨[.c u,.c v],.tup [.c u,.c v],H,?_,?_,rfl,h⟩
 · simp only [ze3,h1,h2,if_true];rfl
 · rfl
end
end Go.Proofs.Lz
namespace Go.Proofs.TryzL
open Go.Proofs.Lz
end Go.Proofs.TryzL
namespace Go.Proofs.TryzL
open Go.Proofs.Lz
set_option maxHeartbeats 4000000
structure TokOk (t:Tok):Prop where
 text:t.text.length<2^20
 qual:t.qual.length<2^20
 n:-9223372036854775808≤t.n∧t.n≤9223372036854775807
 line:-9223372036854775808≤t.line∧t.line≤9223372036854775807
 col:-9223372036854775808≤t.col∧t.col≤9223372036854775807
def tokT (t:Tok):List UInt8:=textS t.op t.qual t.text t.n
structure RS where
 out:List UInt8
 line:Nat
 col:Nat
 first:Bool
def nlK (t:Tok) (s:RS):Nat:=min 200 (t.line - s.line).toNat
def rnl (t:Tok) (s:RS):RS:=if nlK t s=0 then s else ⟨s.out++List.replicate (nlK t s) 10,s.line+nlK t s,1,true⟩
def rsp (t:Tok) (s:RS):RS:=if (s.col:Int)<t.col∧t.col≤1000 then { s with out:=s.out++Lib.repeatL [32] (t.col - s.col).toNat,col:=t.col.toNat } else if s.first then s else { s with out:=s.out++[32],col:=s.col+1 }
def rtx (t:Tok) (s:RS):RS:=⟨s.out++tokT t,s.line,s.col+(tokT t).length,false⟩
def wu9 (t:Tok) (s:RS):RS:=rtx t (rsp t (rnl t s))
def rend:List Tok→RS→Option (List UInt8)
 | [],s=>some s.out
 | t::ts,s=>if 65536<(wu9 t s).out.length then none else rend ts (wu9 t s)
structure RsOk (s:RS):Prop where
 out:s.out.length≤65536
 col:s.col≤1000+s.out.length
 line:s.line≤9223372036854775807
end Go.Proofs.TryzL
namespace Go.Proofs.TryzL
open Go.Proofs.Lz
set_option maxHeartbeats 4000000
theorem KpH.trans {id:Nat} {H H1 H2:z06} (h:KpH id H H1) (k:KpH id H1 H2):KpH id H H2:=fun i o hi ho=>k i o hi (h i o hi ho)
end Go.Proofs.TryzL
namespace Go.Proofs.TryzL
open Go.Proofs.Lz
set_option maxHeartbeats 4000000
end Go.Proofs.TryzL
namespace Go.Proofs.TryzL
open Go.Proofs.Lz
set_option maxHeartbeats 4000000
end Go.Proofs.TryzL
namespace Go.Proofs.TryzL
open Go.Proofs.Lz
set_option maxHeartbeats 4000000
def wk4:Option (WV×z06)→Bool
 | some (.c (.bool b),_)=>b
 | _=>false
theorem je3 {f:Nat} (n:Nat) (h:wk4 (wF Vv n f [] [])=true):Rets Vv f [] (.c (.bool true)):=by
 cases hw:wF Vv n f [] [] with
 | none=>rw [hw] at h;cases h
 | some p=>
   obtain ⟨v,H⟩:=p
   rw [hw] at h
   have hv:=w22 hw
   cases v with
   | c u=>
     cases u with
     | bool b=>
       have hb:b=true:=h
       subst hb
       exact ⟨_,H,hv,rfl⟩
     | _=>cases h
   | _=>cases h
theorem j40:Rets Vv 10 [] (.c (.bool true)):=je3 40 (by kernel_rfl)
structure TokI (t:Tok):Prop where
 n:-9223372036854775808≤t.n∧t.n≤9223372036854775807
 line:-9223372036854775808≤t.line∧t.line≤9223372036854775807
 col:-9223372036854775808≤t.col∧t.col≤9223372036854775807
end Go.Proofs.TryzL
set_option maxRecDepth 100000
namespace Go.Proofs.YtencoceemejcnaaGreatDoor
open Go.ChangeShapes Go.WideShapes Go.ChangeAt Go.RowKit Go.Proofs.Lz
open Go.Proofs.TryzL
theorem wn3 {m:Int} (h:(Lit.int .i64 m).wf=true):-9223372036854775808≤m∧m≤9223372036854775807:=by
 simpa [Lit.wf,IntKind.min,IntKind.max,IntKind.signed,IntKind.bits] using h
theorem ek3:ekOf Tryz.prog 3=some none:=by kernel_rfl
theorem jt9 {zs:List CV} {x:CV} (h2:zs5 Tryz.prog 6 3 zs) (h4:zb2 none zs=some x):∃ m:Int,x=.int .i64 m∧-9223372036854775808≤m∧m≤9223372036854775807:=by
 unfold zs5 at h2
 rw [Tryz.underlying3] at h2
 obtain ⟨m,rfl,hm⟩:=h2
 simp only [zb2,List.getElem?_cons_zero,Option.some.injEq] at h4
 exact ⟨m,h4.symm,wn3 hm⟩
theorem qv4 {P:Program} {n:Nat} {t:TypeId} {ts:List TypeId} {xs:List CV} (h:q70 P n (t::ts) xs):∃ x ys,xs=x::ys∧ji1 P n t x∧q70 P n ts ys:=by
 cases xs with
 | nil=>exact h.elim
 | cons x ys=>exact ⟨x,ys,rfl,h⟩
theorem w56 {P:Program} {n:Nat} {xs:List CV} (h:q70 P n [] xs):xs=[]:=by
 cases xs with
 | nil=>rfl
 | cons x ys=>exact h.elim
theorem qs0 {P:Program} {n:Nat} {t:TypeId} {x:CV} {e:Option Nat} (he:ekOf P t=some e) (h:ji1 P n t x):∃ zs,zs5 P n t zs∧zb2 e zs=some x:=by
 obtain ⟨zs,ek,h1,h2,_,h4⟩:=h
 rw [he] at h1
 injection h1 with h1
 subst h1
 exact ⟨zs,h2,h4⟩
theorem wh0 {x:CV} (h:ji1 Tryz.prog 6 3 x):∃ m:Int,x=.int .i64 m∧-9223372036854775808≤m∧m≤9223372036854775807:=by
 obtain ⟨zs,h2,h4⟩:=qs0 ek3 h
 exact jt9 h2 h4
theorem ek9:ekOf Tryz.prog 9=some none:=by kernel_rfl
theorem jp3 {zs:List CV} {x:CV} (h2:zs5 Tryz.prog 6 9 zs) (h4:zb2 none zs=some x):∃ s:List UInt8,x=.str s∧s.length≤9223372036854775807:=by
 unfold zs5 at h2
 rw [Tryz.underlying9] at h2
 obtain ⟨s,rfl,hs⟩:=h2
 simp only [zb2,List.getElem?_cons_zero,Option.some.injEq] at h4
 exact ⟨s,h4.symm,by simpa [maxLen] using hs⟩
theorem wf4 {x:CV} (h:ji1 Tryz.prog 6 9 x):∃ s:List UInt8,x=.str s∧s.length≤9223372036854775807:=by
 obtain ⟨zs,h2,h4⟩:=qs0 ek9 h
 exact jp3 h2 h4
end Go.Proofs.YtencoceemejcnaaGreatDoor
