/- Chapter 02: names: generated names; the class of a name. -/
import Derived.Test.YtencoceemejcnaaGreatDoorLzT5
import Derived.Lib.ItoaLen
set_option linter.unusedSimpArgs false
set_option linter.unusedVariables false
namespace Go.Proofs.TryzL
open Go.Proofs.Lz
def rsymL:List (List UInt8):=[[46,46],[58,58],[61],[92],[124],[60,45],[45,62],[64],[126],[61,62]]
def rwordL:List (List UInt8):=[[97,115],[99,97,115,101],[99,108,97,115,115],[100,97,116,97],[100,101,114,105,118,105,110,103],[100,111],[101,108,115,101],[104,105,100,105,110,103],[105,102],[105,109,112,111,114,116],[105,110],[105,110,102,105,120],[105,110,102,105,120,108],[105,110,102,105,120,114],[105,110,115,116,97,110,99,101],[108,101,116],[109,111,100,117,108,101],[111,102],[113,117,97,108,105,102,105,101,100],[116,104,101,110],[119,104,101,114,101],[95]]
theorem zi3 (s:List UInt8):Rets Vv 88 [.c (.str s)] (.c (.bool (rsymL.contains s))):=by
 refine z67 v58 ?_
 repeat' first
  | apply z01
  | exact z13
  | (apply z15;rfl;rfl)
  | (apply z30;(iterate 3 rfl))
  | (apply z04;focus (repeat (first | exact z23 | (apply kq_c;rfl))))
  | apply z02
  | apply z00
  | apply z03
  | apply z05
  | apply z07
  | apply z09
  | (apply z35;rfl;(with_reducible rfl))
  | (apply z12;rfl)
  | (with_reducible apply zh3;intro hc)
  | (with_reducible apply zb2;intro hc)
  | (apply z98;rfl)
 all_goals (refine cb ?_;simp_all [rsymL])
set_option maxHeartbeats 4000000 in
theorem zl3 (s:List UInt8):Rets Vv 87 [.c (.str s)] (.c (.bool (rwordL.contains s))):=by
 refine z67 v87 ?_
 repeat' first
  | apply z01
  | exact z13
  | (apply z15;rfl;rfl)
  | (apply z30;(iterate 3 rfl))
  | (apply z04;focus (repeat (first | exact z23 | (apply kq_c;rfl))))
  | apply z02
  | apply z00
  | apply z03
  | apply z05
  | apply z07
  | apply z09
  | (apply z35;rfl;(with_reducible rfl))
  | (apply z12;rfl)
  | (with_reducible apply zh3;intro hc)
  | (with_reducible apply zb2;intro hc)
  | (apply z98;rfl)
 all_goals (refine cb ?_;simp_all [rwordL])
end Go.Proofs.TryzL
namespace Go.Proofs.TryzL
open Go.Proofs.Lz
def q70 (c:UInt8):Bool:=upperB c||decide (97≤c.toNat∧c.toNat≤122)
theorem qn3 (c:UInt8):Rets Vv 90 [.c (bC c)] (.c (.bool (upperB c))):=by
 refine z67 vb1 ?_
 repeat' first
  | apply z01
  | exact z13
  | exact z19 rfl
  | (apply z15;rfl;rfl)
  | (apply z30;(iterate 3 rfl))
  | (apply z17;rfl;(with_reducible rfl);rfl)
  | (apply z16;rfl;(with_reducible rfl);rfl)
  | apply z02
  | apply z00
  | apply z03
  | apply z09
  | (apply z47;rfl;(with_reducible rfl))
  | (apply z43;rfl;(with_reducible rfl))
  | (apply z39;rfl)
  | (with_reducible apply z69;intro hc)
  | (with_reducible apply z52;intro hc)
  | (apply z98;rfl)
 all_goals (refine cb ?_;simp [upperB];omega)
theorem w46 (c:UInt8):Rets Vv 115 [.c (bC c)] (.c (.bool (z93 c))):=by
 refine z67 v22 ?_
 repeat' first
  | apply z01
  | exact z13
  | exact z19 rfl
  | (apply z15;rfl;rfl)
  | (apply z30;(iterate 3 rfl))
  | (apply z17;rfl;(with_reducible rfl);rfl)
  | (apply z16;rfl;(with_reducible rfl);rfl)
  | apply z02
  | apply z00
  | apply z03
  | apply z09
  | (apply z47;rfl;(with_reducible rfl))
  | (apply z43;rfl;(with_reducible rfl))
  | (apply z39;rfl)
  | (with_reducible apply z69;intro hc)
  | (with_reducible apply z52;intro hc)
  | (apply z98;rfl)
 all_goals (refine cb ?_;simp [z93];omega)
theorem qw7 (c:UInt8):Rets Vv 114 [.c (bC c)] (.c (.bool (q70 c))):=by
 refine z67 v07 ?_
 repeat' first
  | apply z01
  | exact z13
  | exact z19 rfl
  | (apply z15;rfl;rfl)
  | (apply z30;(iterate 3 rfl))
  | (apply z17;rfl;(with_reducible rfl);rfl)
  | (apply z16;rfl;(with_reducible rfl);rfl)
  | (apply z08 (hc:=qn3 c);rfl;rfl;rfl)
  | apply z02
  | apply z00
  | apply z03
  | apply z09
  | (apply z47;rfl;(with_reducible rfl))
  | (apply z43;rfl;(with_reducible rfl))
  | (apply z41;rfl;(with_reducible rfl))
  | (apply zc2;rfl)
  | (apply z39;rfl)
  | (with_reducible apply z69;intro hc)
  | (with_reducible apply z52;intro hc)
  | (with_reducible apply zh6;intro hc)
  | (apply z98;rfl)
 all_goals (refine cb ?_;simp [q70, *])
 all_goals omega
theorem j65 (c:UInt8):Rets Vv 116 [.c (bC c)] (.c (.bool (symB c))):=by
 refine z67 wv5 ?_
 repeat' first
  | apply z01
  | exact z13
  | (apply z15;rfl;rfl)
  | (apply z30;(iterate 3 rfl))
  | (apply z08 (hc:=zy2 symS c);rfl;rfl;rfl)
  | apply z02
  | apply z00
  | apply z03
  | apply z09
  | (apply z98;rfl)
 rw [q07]
 rfl
def wcB (c:UInt8):Bool:=q70 c||z93 c||c==95||c==39
def wsB (c:UInt8):Bool:=q70 c||c==95
def zq6 (s:List UInt8):Bool:=match s[0]? with
 | none=>false
 | some c=>decide (s.length≤64)&&wsB c&&s.all wcB
theorem u8eq {c:UInt8} {n:Nat} (hn:n<256):((c.toNat:Int)=(n:Int))↔c=UInt8.ofNat n:=by
 constructor
 · intro h
   have h1:c.toNat=n:=by omega
   apply UInt8.toNat_inj.1
   rw [h1]
   simp
   omega
 · intro h
   subst h
   simp
   omega
theorem tk0 {α:Type} {s:List α} {p:α→Bool}:(s.take 0).all p=true:=by simp
theorem tkS {α:Type} {s:List α} {p:α→Bool} {n:Nat} (h:n<s.length) (h1:(s.take n).all p=true) (h2:p s[n]=true):(s.take (n+1)).all p=true:=by
 rw [List.take_add_one,List.all_append,h1,List.getElem?_eq_getElem h]
 simpa using h2
theorem tkE {α:Type} {s:List α} {p:α→Bool} {n:Nat} (h:s.length≤n) (h1:(s.take n).all p=true):s.all p=true:=by rwa [List.take_of_length_le h] at h1
theorem tkF {α:Type} {s:List α} {p:α→Bool} {n:Nat} (h:n<s.length) (h2:p s[n]=false):s.all p=false:=by
 rw [List.all_eq_false]
 exact ⟨s[n],List.getElem_mem h,by rw [h2];simp⟩
set_option maxHeartbeats 2000000
theorem qm5 (s:List UInt8) (hl:s.length<2^60):Rets Vv 89 [.c (.str s)] (.c (.bool (zq6 s))):=by
 refine z67 v99 ?_
 cases h0:s[0]? with
 | none=>
   have:s=[]:=by cases s<;>simp_all
   subst this
   repeat' first
    | apply z01
    | exact z13
    | exact z19 rfl
    | (apply z15;rfl;rfl)
    | (apply z30;(iterate 3 rfl))
    | (apply z44;rfl)
    | (apply z17;rfl;(with_reducible rfl);rfl)
    | (apply z16;rfl;(with_reducible rfl);rfl)
    | (apply z04;focus (repeat (exact z23)))
    | apply z02
    | apply z00
    | apply z03
    | apply z09
    | (apply z35;rfl;(with_reducible rfl))
    | (apply z47;rfl;(with_reducible rfl))
    | (apply z41;rfl;(with_reducible rfl))
    | (apply zc2;rfl)
    | (apply z39;rfl)
    | (with_reducible apply zh3;intro hc)
    | (with_reducible apply zb2;intro hc)
    | (with_reducible apply z69;intro hc)
    | (with_reducible apply z52;intro hc)
    | (apply z98;rfl)
   all_goals first
    | rfl
    | (exfalso;simp_all;done)
 | some c=>
   have hne:s≠[]:=by intro e;rw [e] at h0;cases h0
   repeat' first
    | apply z01
    | exact z13
    | exact z19 rfl
    | (apply z15;rfl;rfl)
    | (apply z30;(iterate 3 rfl))
    | (apply z44;rfl)
    | (apply z84;rfl;rfl)
    | (apply z17;rfl;(with_reducible rfl);rfl)
    | (apply z16;rfl;(with_reducible rfl);rfl)
    | (apply z68;(iterate 3 rfl);assumption)
    | (apply z08 (hc:=qw7 c);rfl;rfl;rfl)
    | (apply z04;focus (repeat (first | exact z23 | (apply kq_c;rfl))))
    | apply z02
    | apply z00
    | apply z03
    | apply z05
    | apply z07
    | apply z09
    | (apply z35;rfl;(with_reducible rfl))
    | (apply z32;rfl;(with_reducible rfl))
    | (apply z12;rfl)
    | (apply z47;rfl;(with_reducible rfl))
    | (apply z43;rfl;(with_reducible rfl))
    | (apply z41;rfl;(with_reducible rfl))
    | (apply zc2;rfl)
    | (apply z39;rfl)
    | with_reducible apply z57
    | with_reducible apply z58
    | (with_reducible apply zh3;intro hc)
    | (with_reducible apply zb2;intro hc)
    | (with_reducible apply zd3;intro hc)
    | (with_reducible apply za6;intro hc)
    | (with_reducible apply z69;intro hc)
    | (with_reducible apply z52;intro hc)
    | (with_reducible apply zh6;intro hc)
    | (apply z98;rfl)
   any_goals contradiction
   any_goals (refine cb ?_;simp [zq6,h0];omega)
   any_goals (refine cb ?_;simp [zq6,wsB,h0,← UInt8.toNat_inj, *];omega)
   any_goals
    refine zd2 (fun n:Nat=>[(0,.c (.str s)),(3,.c (.int .i64 n))]) (fun n=>n≤s.length∧(s.take n).all wcB=true) (fun n=>s.length - n) 0 ?_ ⟨by omega,tk0⟩ ?_
    · repeat' first
       | exact z23
       | refine z64 rfl ?_
    rintro n ⟨hn,hall⟩
    repeat' first
     | apply z01
     | exact z13
     | exact z19 rfl
     | (apply z15;rfl;rfl)
     | (apply z99;rfl;rfl;omega)
     | (apply z30;(iterate 3 rfl))
     | (apply z44;rfl)
     | (apply z84;rfl;rfl)
     | (apply z17;rfl;(with_reducible rfl);rfl)
     | (apply z16;rfl;(with_reducible rfl);rfl)
     | (apply z68;(iterate 3 rfl);exact List.getElem?_eq_getElem (by omega))
     | (apply z08 (hc:=qw7 s[n]);rfl;rfl;rfl)
     | (apply z08 (hc:=w46 s[n]);rfl;rfl;rfl)
     | (apply z04;focus (repeat (first | exact z23 | (apply kq_c;rfl))))
     | apply z02
     | apply z00
     | apply z03
     | apply z05
     | apply z07
     | apply z09
     | apply z56
     | (apply z32;rfl;(with_reducible rfl))
     | (apply z12;rfl)
     | (apply z47;rfl;(with_reducible rfl))
     | (apply z43;rfl;(with_reducible rfl))
     | (apply z39;rfl)
     | with_reducible apply z57
     | with_reducible apply z58
     | (with_reducible apply zd3;intro hc)
     | (with_reducible apply za6;intro hc)
     | (with_reducible apply z69;intro hc)
     | (with_reducible apply z52;intro hc)
     | (with_reducible apply zh6;intro hc)
     | (apply z98;rfl)
    any_goals
     refine ⟨n+1,?_,rfl,⟨by omega,tkS (by omega) hall ?_⟩,by omega⟩
     · repeat' first
        | exact z23
        | refine z64 rfl ?_
     · simp [wcB,← UInt8.toNat_inj, *]<;>omega
    any_goals
     refine cb ?_
     simp only [zq6,h0]
     first
     | (rw [tkF (p:=wcB) (n:=n) (by omega) (by simp [wcB,← UInt8.toNat_inj, *]<;>omega)];simp;done)
     | (rw [tkE (by omega) hall];simp [wsB,← UInt8.toNat_inj, *]<;>omega)
end Go.Proofs.TryzL
namespace Go.Proofs.TryzL
open Go.Proofs.Lz
set_option maxHeartbeats 2000000
end Go.Proofs.TryzL
namespace Go.Proofs.TryzL
open Go.Proofs.Lz
def zh4 (s:List UInt8):Bool:=match s[0]? with
 | none=>false
 | some _=>decide (s.length≤64)&&s.all symB&&(decide (s.length=1)||decide (s.count 45<s.length))
theorem ctS {s:List UInt8} {n:Nat} (h:n<s.length):(s.take (n+1)).count 45=(s.take n).count 45+(if s[n]=45 then 1 else 0):=by
 rw [List.take_add_one,List.count_append,List.getElem?_eq_getElem h]
 by_cases e:s[n]=45
 · simp [e]
 · simp [e,List.count_cons]
set_option maxHeartbeats 2000000
theorem qa5 (s:List UInt8) (hl:s.length<2^60):Rets Vv 91 [.c (.str s)] (.c (.bool (zh4 s))):=by
 refine z67 v30 ?_
 cases h0:s[0]? with
 | none=>
   have:s=[]:=by cases s<;>simp_all
   subst this
   repeat' first
    | apply z01
    | exact z13
    | (apply z15;rfl;rfl)
    | apply z02
    | apply z00
    | apply z03
   refine q66 (fun _:Unit=>[]) (fun _ _=>False) (fun _=>0) ?_ (fun _ _ h=>h.elim)
   repeat' first
    | apply z01
    | exact z13
    | exact z19 rfl
    | (apply z15;rfl;rfl)
    | (apply z30;(iterate 3 rfl))
    | (apply z44;rfl)
    | (apply z17;rfl;(with_reducible rfl);rfl)
    | (apply z16;rfl;(with_reducible rfl);rfl)
    | (apply z04;focus (repeat (first | exact z23 | (apply kq_c;rfl))))
    | apply z02
    | apply z00
    | apply z03
    | apply z05
    | apply z07
    | apply z09
    | apply q68
    | (apply z35;rfl;(with_reducible rfl))
    | (apply z12;rfl)
    | (apply z47;rfl;(with_reducible rfl))
    | (apply z41;rfl;(with_reducible rfl))
    | (apply z39;rfl)
    | (with_reducible apply zh3;intro hc)
    | (with_reducible apply zb2;intro hc)
    | (with_reducible apply z69;intro hc)
    | (with_reducible apply z52;intro hc)
    | (apply z98;rfl)
   all_goals first
    | rfl
    | (exfalso;simp_all;done)
 | some c=>
   have hne:s≠[]:=by intro e;rw [e] at h0;cases h0
   have hlen:0<s.length:=by cases s<;>simp_all
   repeat' first
    | apply z01
    | exact z13
    | (apply z15;rfl;rfl)
    | apply z02
    | apply z00
    | apply z03
   refine q66 (fun _:Unit=>[]) (fun _ _=>False) (fun _=>0) ?_ (fun _ _ h=>h.elim)
   repeat' first
    | apply z01
    | exact z13
    | exact z19 rfl
    | (apply z15;rfl;rfl)
    | (apply z30;(iterate 3 rfl))
    | (apply z44;rfl)
    | (apply z17;rfl;(with_reducible rfl);rfl)
    | (apply z16;rfl;(with_reducible rfl);rfl)
    | (apply z04;focus (repeat (first | exact z23 | (apply kq_c;rfl))))
    | apply z02
    | apply z00
    | apply z03
    | apply z05
    | apply z07
    | apply z09
    | apply q68
    | (apply z35;rfl;(with_reducible rfl))
    | (apply z12;rfl)
    | (apply z47;rfl;(with_reducible rfl))
    | (apply z41;rfl;(with_reducible rfl))
    | (apply z39;rfl)
    | (with_reducible apply zh3;intro hc)
    | (with_reducible apply zb2;intro hc)
    | (with_reducible apply z69;intro hc)
    | (with_reducible apply z52;intro hc)
    | (apply z98;rfl)
   any_goals contradiction
   any_goals (refine cb ?_;simp [zh4,h0];omega)
   any_goals
    refine zd2 (fun n:Nat=>[(0,.c (.str s)),(3,.c (.int .i64 ((s.take n).count 45:Nat))),(4,.c (.int .i64 n))]) (fun n=>n≤s.length∧(s.take n).all symB=true) (fun n=>s.length - n) 0 ?_ ⟨by omega,tk0⟩ ?_
    · repeat' first
       | exact z23
       | refine z64 rfl ?_
    rintro n ⟨hn,hall⟩
    have hcn:(s.take n).count 45≤n:=by have:=List.count_le_length (a:=(45:UInt8)) (l:=s.take n);rw [List.length_take] at this;omega
    by_cases hns:n<s.length
    · repeat' first
       | apply z01
       | exact z13
       | exact z19 rfl
       | (apply z15;rfl;rfl)
       | (apply z99;rfl;rfl;omega)
       | (apply z30;(iterate 3 rfl))
       | (apply z44;rfl)
       | (apply z84;rfl;rfl)
       | (apply z17;rfl;(with_reducible rfl);rfl)
       | (apply z16;rfl;(with_reducible rfl);rfl)
       | (apply z68;(iterate 3 rfl);exact List.getElem?_eq_getElem (by omega))
       | (apply z08 (hc:=j65 s[n]);rfl;rfl;rfl)
       | (apply z04;focus (repeat (first | exact z23 | (apply kq_c;rfl))))
       | apply z02
       | apply z00
       | apply z03
       | apply z05
       | apply z07
       | apply z09
       | apply z56
       | (apply z12;rfl)
       | (apply z47;rfl;(with_reducible rfl))
       | (apply z41;rfl;(with_reducible rfl))
       | (apply z39;rfl)
       | with_reducible apply z57
       | with_reducible apply z58
       | (with_reducible apply za1;intro hc)
       | (with_reducible apply z71;intro hc)
       | (with_reducible apply zh6;intro hc)
       | (apply z98;rfl)
      any_goals omega
      any_goals
       refine ⟨n+1,?_,rfl,⟨by omega,tkS (by omega) hall ?_⟩,by omega⟩
       · rw [ctS hns]
         have e1:(s[n]=45)↔((s[n].toNat:Int)=45):=by rw [← UInt8.toNat_inj];simp;omega
         simp only [e1, *,if_true,if_false]
         repeat' first
          | exact z23
          | refine z64 rfl ?_
       · simp [*]
      any_goals
       refine cb ?_
       simp only [zh4,h0]
       rw [tkF (p:=symB) (n:=n) hns (by simp [*])]
       simp
    · have hnl:n=s.length:=by omega
      subst hnl
      repeat' first
       | apply z01
       | exact z13
       | exact z19 rfl
       | (apply z15;rfl;rfl)
       | (apply z30;(iterate 3 rfl))
       | (apply z44;rfl)
       | (apply z17;rfl;(with_reducible rfl);rfl)
       | (apply z16;rfl;(with_reducible rfl);rfl)
       | (apply z68;(iterate 3 rfl);exact List.getElem?_eq_getElem (by omega))
       | (apply z04;focus (repeat (first | exact z23 | (apply kq_c;rfl))))
       | apply z02
       | apply z00
       | apply z03
       | apply z05
       | apply z07
       | apply z09
       | apply z56
       | (apply z12;rfl)
       | (apply z47;rfl;(with_reducible rfl))
       | (apply z41;rfl;(with_reducible rfl))
       | (apply z39;rfl)
       | (with_reducible apply za1;intro hc)
       | (with_reducible apply z71;intro hc)
       | (apply z98;rfl)
      any_goals omega
      all_goals
       refine cb ?_
       simp only [zh4,h0]
       rw [List.take_length] at hall
       simp [*,List.take_length]
       try omega
end Go.Proofs.TryzL
namespace Go.Proofs.TryzL
open Go.Proofs.Lz
def qs2 (s:List UInt8):Bool:=(zq6 s&&!rwordL.contains s)||(zh4 s&&!rsymL.contains s)
set_option maxHeartbeats 2000000
theorem qt9 (s:List UInt8) (hl:s.length<2^60):Rets Vv 161 [.c (.str s)] (.c (.bool (qs2 s))):=by
 refine z67 v16 ?_
 repeat' first
  | apply z01
  | exact z13
  | exact z19 rfl
  | (apply z15;rfl;rfl)
  | (apply z84;rfl;rfl)
  | (apply z17;rfl;(with_reducible rfl);rfl)
  | (apply z16;rfl;(with_reducible rfl);rfl)
  | (apply z08 (hc:=qm5 s hl);rfl;rfl;rfl)
  | (apply z08 (hc:=zl3 s);rfl;rfl;rfl)
  | (apply z08 (hc:=qa5 s hl);rfl;rfl;rfl)
  | (apply z08 (hc:=zi3 s);rfl;rfl;rfl)
  | apply z02
  | apply z00
  | apply z03
  | apply z09
  | (apply z47;rfl;(with_reducible rfl))
  | (apply z43;rfl;(with_reducible rfl))
  | (apply z41;rfl;(with_reducible rfl))
  | (apply zc2;rfl)
  | (apply z39;rfl)
  | with_reducible apply z57
  | with_reducible apply z58
  | (with_reducible apply zh6;intro hc)
  | (apply z98;rfl)
 all_goals (simp only [qs2, *];rfl)
def q40 (s:List UInt8):Bool:=match s[0]? with
 | none=>false
 | some c=>upperB c
def w36 (m n:List UInt8):List UInt8:=if zq6 m&&q40 m&&qs2 n then m++[46]++n else []
theorem wn3 (m n:List UInt8) (hm:m.length<2^59) (hn:n.length<2^59):Rets Vv 174 [.c (.str m),.c (.str n)] (.c (.str (w36 m n))):=by
 refine z67 wx0 ?_
 cases h0:m[0]? with
 | none=>
   have hw:zq6 m=false:=by simp [zq6,h0]
   repeat' first
    | apply z01
    | exact z13
    | exact z19 rfl
    | (apply z15;rfl;rfl)
    | (apply z84;rfl;rfl)
    | (apply z17;rfl;(with_reducible rfl);rfl)
    | (apply z08 (hc:=qm5 m (by omega));rfl;rfl;rfl)
    | (apply z04;focus (repeat (exact z23)))
    | apply z02
    | apply z00
    | apply z03
    | apply z09
    | (apply z35;rfl;(with_reducible rfl))
    | (apply z47;rfl;(with_reducible rfl))
    | (apply z41;rfl;(with_reducible rfl))
    | (apply z39;rfl)
    | with_reducible apply z57
    | with_reducible apply z58
    | (with_reducible apply zh6;intro hc)
    | (apply z98;rfl)
   all_goals first
    | (congr 1;simp [w36, *];done)
    | (exfalso;simp_all;done)
 | some c=>
   repeat' first
    | apply z01
    | exact z13
    | exact z19 rfl
    | (apply z15;rfl;rfl)
    | (apply jl4;rfl;rfl;(simp only [List.length_map,List.length_cons,List.length_nil,List.length_append,List.length_replicate];omega))
    | (apply z84;rfl;rfl)
    | (apply z17;rfl;(with_reducible rfl);rfl)
    | (apply z16;rfl;(with_reducible rfl);rfl)
    | (apply z68;(iterate 3 rfl);assumption)
    | (apply z08 (hc:=qm5 m (by omega));rfl;rfl;rfl)
    | (apply z08 (hc:=qt9 n (by omega));rfl;rfl;rfl)
    | (apply z08 (hc:=qn3 c);rfl;rfl;rfl)
    | (apply z04;focus (repeat (first | exact z23 | (apply kq_c;rfl))))
    | apply z02
    | apply z00
    | apply z03
    | apply z07
    | apply z09
    | (apply z35;rfl;(with_reducible rfl))
    | (apply z12;rfl)
    | (apply z47;rfl;(with_reducible rfl))
    | (apply z41;rfl;(with_reducible rfl))
    | (apply z39;rfl)
    | with_reducible apply z57
    | with_reducible apply z58
    | (with_reducible apply zh6;intro hc)
    | (apply z98;rfl)
   all_goals first
    | (congr 1;simp [w36,q40, *];done)
    | (exfalso;simp_all;done)
def j82 (s:List UInt8):Option (List UInt8×List UInt8):=if (Lib.cut s [46]).2.2&&!(w36 (Lib.cut s [46]).1 (Lib.cut s [46]).2.1==[]) then some ((Lib.cut s [46]).1,(Lib.cut s [46]).2.1) else none
def splitV (o:Option (List UInt8×List UInt8)):WV:=match o with
 | none=>.tup [.c (.str []),.c (.str []),.c (.bool false)]
 | some p=>.tup [.c (.str p.1),.c (.str p.2),.c (.bool true)]
theorem wa4 (s:List UInt8) (h:s.length<2^31):Rets Vv 173 [.c (.str s),.c (.str [46])] (.tup [.c (.str (Lib.cut s [46]).1),.c (.str (Lib.cut s [46]).2.1),.c (.bool (Lib.cut s [46]).2.2)]):=
 q31 (V:=Vv) (f:=173) (xs:=[.str s,.str [46]]) (us:=[.str (Lib.cut s [46]).1,.str (Lib.cut s [46]).2.1,.bool (Lib.cut s [46]).2.2]) (g:=cutG) rfl rfl (by simp only [cutG];rw [if_pos (by omega)]) (by simp)
theorem wq6 (s:List UInt8):(Lib.cut s [46]).1.length≤s.length∧(Lib.cut s [46]).2.1.length≤s.length:=by
 unfold Lib.cut
 split
 · simp;omega
 · simp
theorem jc8 (s:List UInt8) (hl:s.length<2^31):Rets Vv 160 [.c (.str s)] (splitV (j82 s)):=by
 refine z67 v09 ?_
 obtain ⟨l1,l2⟩:=wq6 s
 repeat' first
  | apply z01
  | exact z13
  | exact z19 rfl
  | (apply z15;rfl;rfl)
  | (apply z30;(iterate 3 rfl))
  | (apply z84;rfl;rfl)
  | (apply z17;rfl;(with_reducible rfl);rfl)
  | (apply z16;rfl;(with_reducible rfl);rfl)
  | (apply z63;(iterate 3 rfl))
  | (apply za4;rfl;rfl)
  | (apply z08 (hc:=wa4 s hl);rfl;rfl;rfl)
  | (apply z08 (hc:=wn3 (Lib.cut s [46]).1 (Lib.cut s [46]).2.1 (by omega) (by omega));rfl;rfl;rfl)
  | (apply z04;focus (repeat (first | exact z23 | (apply kq_c;rfl))))
  | apply z02
  | apply z00
  | apply z03
  | apply z07
  | apply z09
  | (apply z35;rfl;(with_reducible rfl))
  | (apply z12;rfl)
  | (apply z47;rfl;(with_reducible rfl))
  | (apply z41;rfl;(with_reducible rfl))
  | (apply z39;rfl)
  | with_reducible apply z57
  | with_reducible apply z58
  | (with_reducible apply zh3;intro hc)
  | (with_reducible apply zb2;intro hc)
  | (with_reducible apply zh6;intro hc)
  | (apply ju9;(exact ShI.c rfl);(exact ShI.c rfl);(exact ShI.c rfl);(exact by decide))
 all_goals (simp [j82,splitV, *])
def qr3 (s:List UInt8):Bool:=(j82 s).isSome||qs2 s
theorem jo3 (s:List UInt8) (hl:s.length<2^31):Rets Vv 139 [.c (.str s)] (.c (.bool (qr3 s))):=by
 refine z67 wz4 ?_
 cases h:j82 s with
 | none=>
   have hs:Rets Vv 160 [.c (.str s)] (.tup [.c (.str []),.c (.str []),.c (.bool false)]):=by have:=jc8 s hl;rw [h] at this;exact this
   repeat' first
    | apply z01
    | exact z13
    | exact z19 rfl
    | (apply z15;rfl;rfl)
    | (apply z16;rfl;(with_reducible rfl);rfl)
    | (apply z63;(iterate 3 rfl))
    | (apply za4;rfl;rfl)
    | (apply z08 (hc:=hs);rfl;rfl;rfl)
    | (apply z08 (hc:=qt9 s (by omega));rfl;rfl;rfl)
    | apply z02
    | apply z00
    | apply z03
    | apply z09
    | (apply z47;rfl;(with_reducible rfl))
    | (apply z98;rfl)
   all_goals (simp only [qr3,h];rfl)
 | some p=>
   have hs:Rets Vv 160 [.c (.str s)] (.tup [.c (.str p.1),.c (.str p.2),.c (.bool true)]):=by have:=jc8 s hl;rw [h] at this;exact this
   repeat' first
    | apply z01
    | exact z13
    | exact z19 rfl
    | (apply z15;rfl;rfl)
    | (apply z17;rfl;(with_reducible rfl);rfl)
    | (apply z63;(iterate 3 rfl))
    | (apply za4;rfl;rfl)
    | (apply z08 (hc:=hs);rfl;rfl;rfl)
    | apply z02
    | apply z00
    | apply z03
    | apply z09
    | (apply z41;rfl;(with_reducible rfl))
    | (apply z98;rfl)
   all_goals (simp only [qr3,h];rfl)
def w34 (b:List UInt8) (n:Int):List UInt8:=if decide (0≤n)&&qr3 b then b++[36]++Lib.itoa n else []
theorem qy0 (n:Int) (h:-9223372036854775808≤n∧n≤9223372036854775807):Rets Vv 81 [.c (.int .i64 n)] (.c (.str (Lib.itoa n))):=
 zn3 (V:=Vv) (f:=81) (xs:=[.int .i64 n]) (u:=.str (Lib.itoa n)) (g:=jx4) rfl rfl (by simp only [jx4];rw [if_pos h])
theorem wk7 (b:List UInt8) (n:Int) (hl:b.length<2^31) (hn:-9223372036854775808≤n∧n≤9223372036854775807):Rets Vv 119 [.c (.str b),.c (.int .i64 n)] (.c (.str (w34 b n))):=by
 refine z67 v04 ?_
 have hi:=Lib.itoa_length_le n hn.1 hn.2
 repeat' first
  | apply z01
  | exact z13
  | exact z19 rfl
  | (apply z15;rfl;rfl)
  | (apply jl4;rfl;rfl;(simp only [List.length_map,List.length_cons,List.length_nil,List.length_append,List.length_replicate];omega))
  | (apply z30;(iterate 3 rfl))
  | (apply z84;rfl;rfl)
  | (apply z17;rfl;(with_reducible rfl);rfl)
  | (apply z16;rfl;(with_reducible rfl);rfl)
  | (apply z08 (hc:=jo3 b hl);rfl;rfl;rfl)
  | (apply z08 (hc:=qy0 n hn);rfl;rfl;rfl)
  | (apply z04;focus (repeat (first | exact z23 | (apply kq_c;rfl))))
  | apply z02
  | apply z00
  | apply z03
  | apply z07
  | apply z09
  | (apply z35;rfl;(with_reducible rfl))
  | (apply z12;rfl)
  | (apply z47;rfl;(with_reducible rfl))
  | (apply z41;rfl;(with_reducible rfl))
  | (apply z39;rfl)
  | with_reducible apply z57
  | with_reducible apply z58
  | (with_reducible apply z69;intro hc)
  | (with_reducible apply z52;intro hc)
  | (with_reducible apply zh6;intro hc)
  | (apply z98;rfl)
 all_goals first
  | (have:¬ 0≤n:=by omega
     simp [w34, *];done)
  | (have:0≤n:=by omega
     simp [w34, *];done)
theorem last_call (s:List UInt8) (h:s.length<2^31):Rets Vv 117 [.c (.str s),.c (.int .u8 36)] (.c (.int .i64 (Lib.lastIndexByte ⟨s.toArray⟩ 36))):=
 zn3 (V:=Vv) (f:=117) (xs:=[.str s,.int .u8 36]) (u:=.int .i64 (Lib.lastIndexByte ⟨s.toArray⟩ 36)) (g:=jr3) rfl rfl (by simp only [jr3];rw [if_pos (by omega)])
theorem wg8 (s:List UInt8):-1≤Lib.lastIndexByte ⟨s.toArray⟩ 36∧Lib.lastIndexByte ⟨s.toArray⟩ 36<s.length:=by
 have h:=Lib.lastIndexByte_spec ⟨s.toArray⟩ 36
 have hsz:(⟨s.toArray⟩:ByteArray).size=s.length:=by simp [ByteArray.size]
 rcases h with ⟨h,_⟩ | ⟨i,h1,h2,_⟩
 · rw [h];omega
 · rw [h2];rw [hsz] at h1;omega
def j55 (s:List UInt8):WV:=match Lib.atoiAll s with
 | .ok v=>.tup [.c (.int .i64 v),.c .nili]
 | .range=>.tup [.c (.int .i64 (Lib.atoiSat s)),.c .opq]
 | _=>.tup [.c (.int .i64 0),.c .opq]
theorem jx5 (s:List UInt8) (h:s.length<2^31):Rets Vv 118 [.c (.str s)] (j55 s):=by
 cases ha:Lib.atoiAll s with
 | ok v=>
   simp only [j55,ha]
   exact q31 (V:=Vv) (f:=118) (xs:=[.str s]) (us:=[.int .i64 v,.nili]) (g:=qs0) rfl rfl (by simp only [qs0,ha];rw [if_pos (by omega)]) (by simp)
 | range=>
   simp only [j55,ha]
   exact q31 (V:=Vv) (f:=118) (xs:=[.str s]) (us:=[.int .i64 (Lib.atoiSat s),.opq]) (g:=qs0) rfl rfl (by simp only [qs0,ha];rw [if_pos (by omega)]) (by simp)
 | _=>
   simp only [j55,ha]
   exact q31 (V:=Vv) (f:=118) (xs:=[.str s]) (us:=[.int .i64 0,.opq]) (g:=qs0) rfl rfl (by simp only [qs0,ha];rw [if_pos (by omega)]) (by simp)
end Go.Proofs.TryzL
namespace Go.Proofs.TryzL
open Go.Proofs.Lz
def okA:Lib.NumEnd Int→Option Int
 | .ok v=>some v
 | _=>none
def qt2 (s:List UInt8) (k:Nat):Option (List UInt8×Int):=match okA (Lib.atoiAll (s.drop (k+1))) with
 | none=>none
 | some v=>if w34 (s.take k) v=s then some (s.take k,v) else none
def jk7 (s:List UInt8):Option (List UInt8×Int):=if Lib.lastIndexByte ⟨s.toArray⟩ 36<0 then none else qt2 s (Lib.lastIndexByte ⟨s.toArray⟩ 36).toNat
def qf5 (o:Option (List UInt8×Int)):WV:=match o with
 | none=>.tup [.c (.str []),.c (.int .i64 0),.c (.bool false)]
 | some p=>.tup [.c (.str p.1),.c (.int .i64 p.2),.c (.bool true)]
set_option maxHeartbeats 2000000
theorem jn7 (s:List UInt8) (hl:s.length<2^31):Rets Vv 92 [.c (.str s)] (qf5 (jk7 s)):=by
 refine z67 v88 ?_
 obtain ⟨b1,b2⟩:=wg8 s
 by_cases h0:Lib.lastIndexByte ⟨s.toArray⟩ 36<0
 · repeat' first
    | apply z01
    | exact z13
    | (apply z15;rfl;rfl)
    | (apply z99;rfl;rfl;omega)
    | (apply z30;(iterate 3 rfl))
    | (apply qt6;rfl;rfl;omega;omega)
    | (apply z08 (hc:=last_call s hl);rfl;rfl;rfl)
    | (apply z04;focus (repeat (first | exact z23 | (apply kq_c;rfl))))
    | apply z02
    | apply z00
    | apply z03
    | apply z07
    | apply z09
    | (apply z12;rfl)
    | (with_reducible apply z69;intro hc)
    | (with_reducible apply z52;intro hc)
    | (apply ju9;(exact ShI.c rfl);(exact ShI.c rfl);(exact ShI.c rfl);(exact by decide))
   · simp [jk7,h0,qf5]
   · omega
 · obtain ⟨k,hk⟩:∃ k:Nat,Lib.lastIndexByte ⟨s.toArray⟩ 36=k:=⟨_,(Int.toNat_of_nonneg (by omega)).symm⟩
   have hc:=last_call s hl
   rw [hk] at hc b2 h0
   have hb:jk7 s=qt2 s k:=by simp only [jk7,hk];rw [if_neg h0];simp
   have hd:(s.drop (k+1)).length<2^31:=by rw [List.length_drop];omega
   have hat:=jx5 (s.drop (k+1)) hd
   cases ha:Lib.atoiAll (s.drop (k+1)) with
   | ok v=>
     have hv:=Lib.atoiAll_bounds ha
     simp only [j55,ha] at hat
     have hm:=wk7 (s.take k) v (by rw [List.length_take];omega) hv
     repeat' first
      | apply z01
      | exact z13
      | exact z19 rfl
      | (apply z15;rfl;rfl)
      | (apply z99;rfl;rfl;omega)
      | (apply z30;(iterate 3 rfl))
      | (apply z17;rfl;(with_reducible rfl);rfl)
      | (apply z16;rfl;(with_reducible rfl);rfl)
      | (apply z63;(iterate 3 rfl))
      | (apply za4;rfl;rfl)
      | (apply qz8;rfl)
      | (apply zu7;rfl;rfl;omega)
      | (apply q41;(iterate 3 rfl);omega)
      | (apply z08 (hc:=hc);rfl;rfl;rfl)
      | (apply z08 (hc:=hat);rfl;rfl;rfl)
      | (apply z08 (hc:=hm);rfl;rfl;rfl)
      | (apply z04;focus (repeat (first | exact z23 | (apply kq_c;rfl))))
      | apply z02
      | apply z00
      | apply z03
      | apply z07
      | apply z09
      | (apply z35;rfl;(with_reducible rfl))
      | (apply z12;rfl)
      | (apply z47;rfl;(with_reducible rfl))
      | (apply z41;rfl;(with_reducible rfl))
      | (apply z39;rfl)
      | with_reducible apply z57
      | with_reducible apply z58
      | (with_reducible apply zh3;intro hc)
      | (with_reducible apply zb2;intro hc)
      | (with_reducible apply z69;intro hc)
      | (with_reducible apply z52;intro hc)
      | (with_reducible apply zh6;intro hc)
      | (apply ju9;(exact ShI.c rfl);(exact ShI.c rfl);(exact ShI.c rfl);(exact by decide))
     all_goals first
      | (exfalso;omega)
      | (exfalso;simp at hc;done)
      | (rw [hb];simp [qt2,ha,okA,qf5, *];done)
   | range=>
     simp only [j55,ha] at hat
     repeat' first
      | apply z01
      | exact z13
      | exact z19 rfl
      | (apply z15;rfl;rfl)
      | (apply z99;rfl;rfl;omega)
      | (apply z30;(iterate 3 rfl))
      | (apply z17;rfl;(with_reducible rfl);rfl)
      | (apply z63;(iterate 3 rfl))
      | (apply za4;rfl;rfl)
      | (apply qz8;rfl)
      | (apply zu7;rfl;rfl;omega)
      | (apply q41;(iterate 3 rfl);omega)
      | (apply z08 (hc:=hc);rfl;rfl;rfl)
      | (apply z08 (hc:=hat);rfl;rfl;rfl)
      | (apply z04;focus (repeat (first | exact z23 | (apply kq_c;rfl))))
      | apply z02
      | apply z00
      | apply z03
      | apply z07
      | apply z09
      | (apply z35;rfl;(with_reducible rfl))
      | (apply z12;rfl)
      | (apply z47;rfl;(with_reducible rfl))
      | (apply z41;rfl;(with_reducible rfl))
      | (apply z39;rfl)
      | (with_reducible apply z69;intro hc)
      | (with_reducible apply z52;intro hc)
      | (with_reducible apply zh6;intro hc)
      | (apply ju9;(exact ShI.c rfl);(exact ShI.c rfl);(exact ShI.c rfl);(exact by decide))
     all_goals first
      | (exfalso;omega)
      | (exfalso;simp at hc;done)
      | (rw [hb];simp [qt2,ha,okA,qf5, *];done)
   | _=>
     simp only [j55,ha] at hat
     repeat' first
      | apply z01
      | exact z13
      | exact z19 rfl
      | (apply z15;rfl;rfl)
      | (apply z99;rfl;rfl;omega)
      | (apply z30;(iterate 3 rfl))
      | (apply z17;rfl;(with_reducible rfl);rfl)
      | (apply z63;(iterate 3 rfl))
      | (apply za4;rfl;rfl)
      | (apply qz8;rfl)
      | (apply zu7;rfl;rfl;omega)
      | (apply q41;(iterate 3 rfl);omega)
      | (apply z08 (hc:=hc);rfl;rfl;rfl)
      | (apply z08 (hc:=hat);rfl;rfl;rfl)
      | (apply z04;focus (repeat (first | exact z23 | (apply kq_c;rfl))))
      | apply z02
      | apply z00
      | apply z03
      | apply z07
      | apply z09
      | (apply z35;rfl;(with_reducible rfl))
      | (apply z12;rfl)
      | (apply z47;rfl;(with_reducible rfl))
      | (apply z41;rfl;(with_reducible rfl))
      | (apply z39;rfl)
      | (with_reducible apply z69;intro hc)
      | (with_reducible apply z52;intro hc)
      | (with_reducible apply zh6;intro hc)
      | (apply ju9;(exact ShI.c rfl);(exact ShI.c rfl);(exact ShI.c rfl);(exact by decide))
     all_goals first
      | (exfalso;omega)
      | (exfalso;simp at hc;done)
      | (rw [hb];simp [qt2,ha,okA,qf5, *];done)
end Go.Proofs.TryzL
