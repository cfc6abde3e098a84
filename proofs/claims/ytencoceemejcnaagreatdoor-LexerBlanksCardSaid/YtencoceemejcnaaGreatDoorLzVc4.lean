/- More rules of the calculus. -/
import Derived.Test.YtencoceemejcnaaGreatDoorLzT6
import Derived.Lib.ItoaLen
import Derived.Test.YtencoceemejcnaaGreatDoorLzLays02
set_option linter.unusedSimpArgs false
set_option linter.unusedVariables false
namespace Go.Proofs.TryzL
open Go.Proofs.Lz
def q82 (c:UInt8):Bool:=upperB c||decide (97≤c.toNat∧c.toNat≤122)
theorem qq1 (c:UInt8):Rets Vv 90 [.c (bC c)] (.c (.bool (upperB c))):=by
 refine z73 v81 ?_
 repeat' first|apply z01|exact z12|exact z19 rfl|(apply z15;rfl;rfl)|(apply z30;(iterate 3 rfl))|(apply z17;rfl;(with_reducible rfl);rfl)|(apply z14;rfl;(with_reducible rfl);rfl)|apply z02|apply z00|apply z03|apply z09|(apply z48;rfl;(with_reducible rfl))|(apply z44;rfl;(with_reducible rfl))|(apply z38;rfl)|(with_reducible apply z67;intro hc)|(with_reducible apply z49;intro hc)|(apply z97;rfl)
 all_goals (refine cb ?_;simp [upperB];omega)
theorem w97 (c:UInt8):Rets Vv 115 [.c (bC c)] (.c (.bool (z93 c))):=by
 refine z73 v14 ?_
 repeat' first|apply z01|exact z12|exact z19 rfl|(apply z15;rfl;rfl)|(apply z30;(iterate 3 rfl))|(apply z17;rfl;(with_reducible rfl);rfl)|(apply z14;rfl;(with_reducible rfl);rfl)|apply z02|apply z00|apply z03|apply z09|(apply z48;rfl;(with_reducible rfl))|(apply z44;rfl;(with_reducible rfl))|(apply z38;rfl)|(with_reducible apply z67;intro hc)|(with_reducible apply z49;intro hc)|(apply z97;rfl)
 all_goals (refine cb ?_;simp [z93];omega)
theorem qv9 (c:UInt8):Rets Vv 114 [.c (bC c)] (.c (.bool (q82 c))):=by
 refine z73 wy2 ?_
 repeat' first|apply z01|exact z12|exact z19 rfl|(apply z15;rfl;rfl)|(apply z30;(iterate 3 rfl))|(apply z17;rfl;(with_reducible rfl);rfl)|(apply z14;rfl;(with_reducible rfl);rfl)|(apply z07 (hc:=qq1 c);rfl;rfl;rfl)|apply z02|apply z00|apply z03|apply z09|(apply z48;rfl;(with_reducible rfl))|(apply z44;rfl;(with_reducible rfl))|(apply z39;rfl;(with_reducible rfl))|(apply zb4;rfl)|(apply z38;rfl)|(with_reducible apply z67;intro hc)|(with_reducible apply z49;intro hc)|(with_reducible apply zi4;intro hc)|(apply z97;rfl)
 all_goals (refine cb ?_;simp [q82, *])
 all_goals omega
theorem j39 (c:UInt8):Rets Vv 116 [.c (bC c)] (.c (.bool (symB c))):=by
 refine z73 ww4 ?_
 repeat' first|apply z01|exact z12|(apply z15;rfl;rfl)|(apply z30;(iterate 3 rfl))|(apply z07 (hc:=zz6 symS c);rfl;rfl;rfl)|apply z02|apply z00|apply z03|apply z09|(apply z97;rfl)
 rw [q09]
 rfl
def wcB (c:UInt8):Bool:=q82 c||z93 c||c==95||c==39
def wsB (c:UInt8):Bool:=q82 c||c==95
def zr2 (s:List UInt8):Bool:=match s[0]? with
 | none=>false
 | some c=>decide (s.length≤64)&&wsB c&&s.all wcB
theorem u8eq {c:UInt8} {n:Nat} (hn:n<256):((c.toNat:Int)=(n:Int))↔c=UInt8.ofNat n:=by
 constructor
 · intro h
   have h1:c.toNat=n:=by omega
   apply UInt8.toNat_inj.1
   rw [h1]
   simp
   omega
 · intro h
   subst h
   simp
   omega
theorem tk0 {α:Type} {s:List α} {p:α→Bool}:(s.take 0).all p=true:=by simp
theorem tkS {α:Type} {s:List α} {p:α→Bool} {n:Nat} (h:n<s.length) (h1:(s.take n).all p=true) (h2:p s[n]=true):(s.take (n+1)).all p=true:=by
 rw [List.take_add_one,List.all_append,h1,List.getElem?_eq_getElem h]
 simpa using h2
theorem tkE {α:Type} {s:List α} {p:α→Bool} {n:Nat} (h:s.length≤n) (h1:(s.take n).all p=true):s.all p=true:=by rwa [List.take_of_length_le h] at h1
theorem tkF {α:Type} {s:List α} {p:α→Bool} {n:Nat} (h:n<s.length) (h2:p s[n]=false):s.all p=false:=by
 rw [List.all_eq_false]
 exact ⟨s[n],List.getElem_mem h,by rw [h2];simp⟩
set_option maxHeartbeats 2000000
theorem qm0 (s:List UInt8) (hl:s.length<2^60):Rets Vv 89 [.c (.str s)] (.c (.bool (zr2 s))):=by
 refine z73 v93 ?_
 cases h0:s[0]? with
 | none=>
   have:s=[]:=by cases s<;>simp_all
   subst this
   repeat' first|apply z01|exact z12|exact z19 rfl|(apply z15;rfl;rfl)|(apply z30;(iterate 3 rfl))|(apply z41;rfl)|(apply z17;rfl;(with_reducible rfl);rfl)|(apply z14;rfl;(with_reducible rfl);rfl)|(apply z04;focus (repeat (exact z23)))|apply z02|apply z00|apply z03|apply z09|(apply z35;rfl;(with_reducible rfl))|(apply z48;rfl;(with_reducible rfl))|(apply z39;rfl;(with_reducible rfl))|(apply zb4;rfl)|(apply z38;rfl)|(with_reducible apply zi9;intro hc)|(with_reducible apply zb9;intro hc)|(with_reducible apply z67;intro hc)|(with_reducible apply z49;intro hc)|(apply z97;rfl)
   all_goals first|rfl|(exfalso;simp_all;done)
 | some c=>
   have hne:s≠[]:=by intro e;rw [e] at h0;cases h0
   repeat' first|apply z01|exact z12|exact z19 rfl|(apply z15;rfl;rfl)|(apply z30;(iterate 3 rfl))|(apply z41;rfl)|(apply z84;rfl;rfl)|(apply z17;rfl;(with_reducible rfl);rfl)|(apply z14;rfl;(with_reducible rfl);rfl)|(apply z71;(iterate 3 rfl);assumption)|(apply z07 (hc:=qv9 c);rfl;rfl;rfl)|(apply z04;focus (repeat (first | exact z23 | (apply kq_c;rfl))))|apply z02|apply z00|apply z03|apply z06|apply z08|apply z09|(apply z35;rfl;(with_reducible rfl))|(apply z32;rfl;(with_reducible rfl))|(apply z13;rfl)|(apply z48;rfl;(with_reducible rfl))|(apply z44;rfl;(with_reducible rfl))|(apply z39;rfl;(with_reducible rfl))|(apply zb4;rfl)|(apply z38;rfl)|with_reducible apply z58|with_reducible apply z60|(with_reducible apply zi9;intro hc)|(with_reducible apply zb9;intro hc)|(with_reducible apply zd3;intro hc)|(with_reducible apply za8;intro hc)|(with_reducible apply z67;intro hc)|(with_reducible apply z49;intro hc)|(with_reducible apply zi4;intro hc)|(apply z97;rfl)
   any_goals contradiction
   any_goals (refine cb ?_;simp [zr2,h0];omega)
   any_goals (refine cb ?_;simp [zr2,wsB,h0,← UInt8.toNat_inj, *];omega)
   any_goals
    refine ze9 (fun n:Nat=>[(0,.c (.str s)),(3,.c (.int .i64 n))]) (fun n=>n≤s.length∧(s.take n).all wcB=true) (fun n=>s.length - n) 0 ?_ ⟨by omega,tk0⟩ ?_
    · repeat' first|exact z23|refine z64 rfl ?_
    rintro n ⟨hn,hall⟩
    repeat' first|apply z01|exact z12|exact z19 rfl|(apply z15;rfl;rfl)|(apply za2;rfl;rfl;omega)|(apply z30;(iterate 3 rfl))|(apply z41;rfl)|(apply z84;rfl;rfl)|(apply z17;rfl;(with_reducible rfl);rfl)|(apply z14;rfl;(with_reducible rfl);rfl)|(apply z71;(iterate 3 rfl);exact List.getElem?_eq_getElem (by omega))|(apply z07 (hc:=qv9 s[n]);rfl;rfl;rfl)|(apply z07 (hc:=w97 s[n]);rfl;rfl;rfl)|(apply z04;focus (repeat (first | exact z23 | (apply kq_c;rfl))))|apply z02|apply z00|apply z03|apply z06|apply z08|apply z09|apply z56|(apply z32;rfl;(with_reducible rfl))|(apply z13;rfl)|(apply z48;rfl;(with_reducible rfl))|(apply z44;rfl;(with_reducible rfl))|(apply z38;rfl)|with_reducible apply z58|with_reducible apply z60|(with_reducible apply zd3;intro hc)|(with_reducible apply za8;intro hc)|(with_reducible apply z67;intro hc)|(with_reducible apply z49;intro hc)|(with_reducible apply zi4;intro hc)|(apply z97;rfl)
    any_goals
     refine ⟨n+1,?_,rfl,⟨by omega,tkS (by omega) hall ?_⟩,by omega⟩
     · repeat' first|exact z23|refine z64 rfl ?_
     · simp [wcB,← UInt8.toNat_inj, *]<;>omega
    any_goals
     refine cb ?_
     simp only [zr2,h0]
     first
     | (rw [tkF (p:=wcB) (n:=n) (by omega) (by simp [wcB,← UInt8.toNat_inj, *]<;>omega)];simp;done)
     | (rw [tkE (by omega) hall];simp [wsB,← UInt8.toNat_inj, *]<;>omega)
end Go.Proofs.TryzL
namespace Go.Proofs.TryzL
open Go.Proofs.Lz
set_option maxHeartbeats 2000000
end Go.Proofs.TryzL
namespace Go.Proofs.TryzL
open Go.Proofs.Lz
def zh8 (s:List UInt8):Bool:=match s[0]? with
 | none=>false
 | some _=>decide (s.length≤64)&&s.all symB&&(decide (s.length=1)||decide (s.count 45<s.length))
theorem ctS {s:List UInt8} {n:Nat} (h:n<s.length):(s.take (n+1)).count 45=(s.take n).count 45+(if s[n]=45 then 1 else 0):=by
 rw [List.take_add_one,List.count_append,List.getElem?_eq_getElem h]
 by_cases e:s[n]=45
 · simp [e]
 · simp [e,List.count_cons]
set_option maxHeartbeats 2000000
theorem qa9 (s:List UInt8) (hl:s.length<2^60):Rets Vv 91 [.c (.str s)] (.c (.bool (zh8 s))):=by
 refine z73 v52 ?_
 cases h0:s[0]? with
 | none=>
   have:s=[]:=by cases s<;>simp_all
   subst this
   repeat' first|apply z01|exact z12|(apply z15;rfl;rfl)|apply z02|apply z00|apply z03
   refine q57 (fun _:Unit=>[]) (fun _ _=>False) (fun _=>0) ?_ (fun _ _ h=>h.elim)
   repeat' first|apply z01|exact z12|exact z19 rfl|(apply z15;rfl;rfl)|(apply z30;(iterate 3 rfl))|(apply z41;rfl)|(apply z17;rfl;(with_reducible rfl);rfl)|(apply z14;rfl;(with_reducible rfl);rfl)|(apply z04;focus (repeat (first | exact z23 | (apply kq_c;rfl))))|apply z02|apply z00|apply z03|apply z06|apply z08|apply z09|apply q56|(apply z35;rfl;(with_reducible rfl))|(apply z13;rfl)|(apply z48;rfl;(with_reducible rfl))|(apply z39;rfl;(with_reducible rfl))|(apply z38;rfl)|(with_reducible apply zi9;intro hc)|(with_reducible apply zb9;intro hc)|(with_reducible apply z67;intro hc)|(with_reducible apply z49;intro hc)|(apply z97;rfl)
   all_goals first|rfl|(exfalso;simp_all;done)
 | some c=>
   have hne:s≠[]:=by intro e;rw [e] at h0;cases h0
   have hlen:0<s.length:=by cases s<;>simp_all
   repeat' first|apply z01|exact z12|(apply z15;rfl;rfl)|apply z02|apply z00|apply z03
   refine q57 (fun _:Unit=>[]) (fun _ _=>False) (fun _=>0) ?_ (fun _ _ h=>h.elim)
   repeat' first|apply z01|exact z12|exact z19 rfl|(apply z15;rfl;rfl)|(apply z30;(iterate 3 rfl))|(apply z41;rfl)|(apply z17;rfl;(with_reducible rfl);rfl)|(apply z14;rfl;(with_reducible rfl);rfl)|(apply z04;focus (repeat (first | exact z23 | (apply kq_c;rfl))))|apply z02|apply z00|apply z03|apply z06|apply z08|apply z09|apply q56|(apply z35;rfl;(with_reducible rfl))|(apply z13;rfl)|(apply z48;rfl;(with_reducible rfl))|(apply z39;rfl;(with_reducible rfl))|(apply z38;rfl)|(with_reducible apply zi9;intro hc)|(with_reducible apply zb9;intro hc)|(with_reducible apply z67;intro hc)|(with_reducible apply z49;intro hc)|(apply z97;rfl)
   any_goals contradiction
   any_goals (refine cb ?_;simp [zh8,h0];omega)
   any_goals
    refine ze9 (fun n:Nat=>[(0,.c (.str s)),(3,.c (.int .i64 ((s.take n).count 45:Nat))),(4,.c (.int .i64 n))]) (fun n=>n≤s.length∧(s.take n).all symB=true) (fun n=>s.length - n) 0 ?_ ⟨by omega,tk0⟩ ?_
    · repeat' first|exact z23|refine z64 rfl ?_
    rintro n ⟨hn,hall⟩
    have hcn:(s.take n).count 45≤n:=by have:=List.count_le_length (a:=(45:UInt8)) (l:=s.take n);rw [List.length_take] at this;omega
    by_cases hns:n<s.length
    · repeat' first|apply z01|exact z12|exact z19 rfl|(apply z15;rfl;rfl)|(apply za2;rfl;rfl;omega)|(apply z30;(iterate 3 rfl))|(apply z41;rfl)|(apply z84;rfl;rfl)|(apply z17;rfl;(with_reducible rfl);rfl)|(apply z14;rfl;(with_reducible rfl);rfl)|(apply z71;(iterate 3 rfl);exact List.getElem?_eq_getElem (by omega))|(apply z07 (hc:=j39 s[n]);rfl;rfl;rfl)|(apply z04;focus (repeat (first | exact z23 | (apply kq_c;rfl))))|apply z02|apply z00|apply z03|apply z06|apply z08|apply z09|apply z56|(apply z13;rfl)|(apply z48;rfl;(with_reducible rfl))|(apply z39;rfl;(with_reducible rfl))|(apply z38;rfl)|with_reducible apply z58|with_reducible apply z60|(with_reducible apply za1;intro hc)|(with_reducible apply z74;intro hc)|(with_reducible apply zi4;intro hc)|(apply z97;rfl)
      any_goals omega
      any_goals
       refine ⟨n+1,?_,rfl,⟨by omega,tkS (by omega) hall ?_⟩,by omega⟩
       · rw [ctS hns]
         have e1:(s[n]=45)↔((s[n].toNat:Int)=45):=by rw [← UInt8.toNat_inj];simp;omega
         simp only [e1, *,if_true,if_false]
         repeat' first|exact z23|refine z64 rfl ?_
       · simp [*]
      any_goals
       refine cb ?_
       simp only [zh8,h0]
       rw [tkF (p:=symB) (n:=n) hns (by simp [*])]
       simp
    · have hnl:n=s.length:=by omega
      subst hnl
      repeat' first|apply z01|exact z12|exact z19 rfl|(apply z15;rfl;rfl)|(apply z30;(iterate 3 rfl))|(apply z41;rfl)|(apply z17;rfl;(with_reducible rfl);rfl)|(apply z14;rfl;(with_reducible rfl);rfl)|(apply z71;(iterate 3 rfl);exact List.getElem?_eq_getElem (by omega))|(apply z04;focus (repeat (first | exact z23 | (apply kq_c;rfl))))|apply z02|apply z00|apply z03|apply z06|apply z08|apply z09|apply z56|(apply z13;rfl)|(apply z48;rfl;(with_reducible rfl))|(apply z39;rfl;(with_reducible rfl))|(apply z38;rfl)|(with_reducible apply za1;intro hc)|(with_reducible apply z74;intro hc)|(apply z97;rfl)
      any_goals omega
      all_goals
       refine cb ?_
       simp only [zh8,h0]
       rw [List.take_length] at hall
       simp [*,List.take_length]
       try omega
end Go.Proofs.TryzL
namespace Go.Proofs.TryzL
open Go.Proofs.Lz
def qp1 (s:List UInt8):Bool:=(zr2 s&&!rwordL.contains s)||(zh8 s&&!rsymL.contains s)
set_option maxHeartbeats 2000000
theorem qt3 (s:List UInt8) (hl:s.length<2^60):Rets Vv 161 [.c (.str s)] (.c (.bool (qp1 s))):=by
 refine z73 ww0 ?_
 repeat' first|apply z01|exact z12|exact z19 rfl|(apply z15;rfl;rfl)|(apply z84;rfl;rfl)|(apply z17;rfl;(with_reducible rfl);rfl)|(apply z14;rfl;(with_reducible rfl);rfl)|(apply z07 (hc:=qm0 s hl);rfl;rfl;rfl)|(apply z07 (hc:=zl7 s);rfl;rfl;rfl)|(apply z07 (hc:=qa9 s hl);rfl;rfl;rfl)|(apply z07 (hc:=zi8 s);rfl;rfl;rfl)|apply z02|apply z00|apply z03|apply z09|(apply z48;rfl;(with_reducible rfl))|(apply z44;rfl;(with_reducible rfl))|(apply z39;rfl;(with_reducible rfl))|(apply zb4;rfl)|(apply z38;rfl)|with_reducible apply z58|with_reducible apply z60|(with_reducible apply zi4;intro hc)|(apply z97;rfl)
 all_goals (simp only [qp1, *];rfl)
def q25 (s:List UInt8):Bool:=match s[0]? with
 | none=>false
 | some c=>upperB c
def w40 (m n:List UInt8):List UInt8:=if zr2 m&&q25 m&&qp1 n then m++[46]++n else []
theorem wl9 (m n:List UInt8) (hm:m.length<2^59) (hn:n.length<2^59):Rets Vv 174 [.c (.str m),.c (.str n)] (.c (.str (w40 m n))):=by
 refine z73 v43 ?_
 cases h0:m[0]? with
 | none=>
   have hw:zr2 m=false:=by simp [zr2,h0]
   repeat' first|apply z01|exact z12|exact z19 rfl|(apply z15;rfl;rfl)|(apply z84;rfl;rfl)|(apply z17;rfl;(with_reducible rfl);rfl)|(apply z07 (hc:=qm0 m (by omega));rfl;rfl;rfl)|(apply z04;focus (repeat (exact z23)))|apply z02|apply z00|apply z03|apply z09|(apply z35;rfl;(with_reducible rfl))|(apply z48;rfl;(with_reducible rfl))|(apply z39;rfl;(with_reducible rfl))|(apply z38;rfl)|with_reducible apply z58|with_reducible apply z60|(with_reducible apply zi4;intro hc)|(apply z97;rfl)
   all_goals first|(congr 1;simp [w40, *];done)|(exfalso;simp_all;done)
 | some c=>
   repeat' first|apply z01|exact z12|exact z19 rfl|(apply z15;rfl;rfl)|(apply qv8;rfl;rfl;(simp only [List.length_map,List.length_cons,List.length_nil,List.length_append,List.length_replicate];omega))|(apply z84;rfl;rfl)|(apply z17;rfl;(with_reducible rfl);rfl)|(apply z14;rfl;(with_reducible rfl);rfl)|(apply z71;(iterate 3 rfl);assumption)|(apply z07 (hc:=qm0 m (by omega));rfl;rfl;rfl)|(apply z07 (hc:=qt3 n (by omega));rfl;rfl;rfl)|(apply z07 (hc:=qq1 c);rfl;rfl;rfl)|(apply z04;focus (repeat (first | exact z23 | (apply kq_c;rfl))))|apply z02|apply z00|apply z03|apply z08|apply z09|(apply z35;rfl;(with_reducible rfl))|(apply z13;rfl)|(apply z48;rfl;(with_reducible rfl))|(apply z39;rfl;(with_reducible rfl))|(apply z38;rfl)|with_reducible apply z58|with_reducible apply z60|(with_reducible apply zi4;intro hc)|(apply z97;rfl)
   all_goals first|(congr 1;simp [w40,q25, *];done)|(exfalso;simp_all;done)
def jf7 (s:List UInt8):Option (List UInt8×List UInt8):=if (Lib.cut s [46]).2.2&&!(w40 (Lib.cut s [46]).1 (Lib.cut s [46]).2.1==[]) then some ((Lib.cut s [46]).1,(Lib.cut s [46]).2.1) else none
def splitV (o:Option (List UInt8×List UInt8)):WV:=match o with
 | none=>.tup [.c (.str []),.c (.str []),.c (.bool false)]
 | some p=>.tup [.c (.str p.1),.c (.str p.2),.c (.bool true)]
theorem wa8 (s:List UInt8) (h:s.length<2^31):Rets Vv 173 [.c (.str s),.c (.str [46])] (.tup [.c (.str (Lib.cut s [46]).1),.c (.str (Lib.cut s [46]).2.1),.c (.bool (Lib.cut s [46]).2.2)]):=
 q48 (V:=Vv) (f:=173) (xs:=[.str s,.str [46]]) (us:=[.str (Lib.cut s [46]).1,.str (Lib.cut s [46]).2.1,.bool (Lib.cut s [46]).2.2]) (g:=cutG) rfl rfl (by simp only [cutG];rw [if_pos (by omega)]) (by simp)
theorem wi7 (s:List UInt8):(Lib.cut s [46]).1.length≤s.length∧(Lib.cut s [46]).2.1.length≤s.length:=by
 unfold Lib.cut
 split
 · simp;omega
 · simp
theorem j96 (s:List UInt8) (hl:s.length<2^31):Rets Vv 160 [.c (.str s)] (splitV (jf7 s)):=by
 refine z73 ww2 ?_
 obtain ⟨l1,l2⟩:=wi7 s
 repeat' first|apply z01|exact z12|exact z19 rfl|(apply z15;rfl;rfl)|(apply z30;(iterate 3 rfl))|(apply z84;rfl;rfl)|(apply z17;rfl;(with_reducible rfl);rfl)|(apply z14;rfl;(with_reducible rfl);rfl)|(apply z57;(iterate 3 rfl))|(apply z94;rfl;rfl)|(apply z07 (hc:=wa8 s hl);rfl;rfl;rfl)|(apply z07 (hc:=wl9 (Lib.cut s [46]).1 (Lib.cut s [46]).2.1 (by omega) (by omega));rfl;rfl;rfl)|(apply z04;focus (repeat (first | exact z23 | (apply kq_c;rfl))))|apply z02|apply z00|apply z03|apply z08|apply z09|(apply z35;rfl;(with_reducible rfl))|(apply z13;rfl)|(apply z48;rfl;(with_reducible rfl))|(apply z39;rfl;(with_reducible rfl))|(apply z38;rfl)|with_reducible apply z58|with_reducible apply z60|(with_reducible apply zi9;intro hc)|(with_reducible apply zb9;intro hc)|(with_reducible apply zi4;intro hc)|(apply jv5;(exact ShI.c rfl);(exact ShI.c rfl);(exact ShI.c rfl);(exact by decide))
 all_goals (simp [jf7,splitV, *])
def qp7 (s:List UInt8):Bool:=(jf7 s).isSome||qp1 s
theorem jo8 (s:List UInt8) (hl:s.length<2^31):Rets Vv 139 [.c (.str s)] (.c (.bool (qp7 s))):=by
 refine z73 wu9 ?_
 cases h:jf7 s with
 | none=>
   have hs:Rets Vv 160 [.c (.str s)] (.tup [.c (.str []),.c (.str []),.c (.bool false)]):=by have:=j96 s hl;rw [h] at this;exact this
   repeat' first|apply z01|exact z12|exact z19 rfl|(apply z15;rfl;rfl)|(apply z14;rfl;(with_reducible rfl);rfl)|(apply z57;(iterate 3 rfl))|(apply z94;rfl;rfl)|(apply z07 (hc:=hs);rfl;rfl;rfl)|(apply z07 (hc:=qt3 s (by omega));rfl;rfl;rfl)|apply z02|apply z00|apply z03|apply z09|(apply z48;rfl;(with_reducible rfl))|(apply z97;rfl)
   all_goals (simp only [qp7,h];rfl)
 | some p=>
   have hs:Rets Vv 160 [.c (.str s)] (.tup [.c (.str p.1),.c (.str p.2),.c (.bool true)]):=by have:=j96 s hl;rw [h] at this;exact this
   repeat' first|apply z01|exact z12|exact z19 rfl|(apply z15;rfl;rfl)|(apply z17;rfl;(with_reducible rfl);rfl)|(apply z57;(iterate 3 rfl))|(apply z94;rfl;rfl)|(apply z07 (hc:=hs);rfl;rfl;rfl)|apply z02|apply z00|apply z03|apply z09|(apply z39;rfl;(with_reducible rfl))|(apply z97;rfl)
   all_goals (simp only [qp7,h];rfl)
def w63 (b:List UInt8) (n:Int):List UInt8:=if decide (0≤n)&&qp7 b then b++[36]++Lib.itoa n else []
theorem qt5 (n:Int) (h:-9223372036854775808≤n∧n≤9223372036854775807):Rets Vv 81 [.c (.int .i64 n)] (.c (.str (Lib.itoa n))):=
 zo0 (V:=Vv) (f:=81) (xs:=[.int .i64 n]) (u:=.str (Lib.itoa n)) (g:=jy7) rfl rfl (by simp only [jy7];rw [if_pos h])
theorem wo9 (b:List UInt8) (n:Int) (hl:b.length<2^31) (hn:-9223372036854775808≤n∧n≤9223372036854775807):Rets Vv 119 [.c (.str b),.c (.int .i64 n)] (.c (.str (w63 b n))):=by
 refine z73 v24 ?_
 have hi:=Lib.itoa_length_le n hn.1 hn.2
 repeat' first|apply z01|exact z12|exact z19 rfl|(apply z15;rfl;rfl)|(apply qv8;rfl;rfl;(simp only [List.length_map,List.length_cons,List.length_nil,List.length_append,List.length_replicate];omega))|(apply z30;(iterate 3 rfl))|(apply z84;rfl;rfl)|(apply z17;rfl;(with_reducible rfl);rfl)|(apply z14;rfl;(with_reducible rfl);rfl)|(apply z07 (hc:=jo8 b hl);rfl;rfl;rfl)|(apply z07 (hc:=qt5 n hn);rfl;rfl;rfl)|(apply z04;focus (repeat (first | exact z23 | (apply kq_c;rfl))))|apply z02|apply z00|apply z03|apply z08|apply z09|(apply z35;rfl;(with_reducible rfl))|(apply z13;rfl)|(apply z48;rfl;(with_reducible rfl))|(apply z39;rfl;(with_reducible rfl))|(apply z38;rfl)|with_reducible apply z58|with_reducible apply z60|(with_reducible apply z67;intro hc)|(with_reducible apply z49;intro hc)|(with_reducible apply zi4;intro hc)|(apply z97;rfl)
 all_goals first
  | (have:¬ 0≤n:=by omega
     simp [w63, *];done)
  | (have:0≤n:=by omega
     simp [w63, *];done)
theorem last_call (s:List UInt8) (h:s.length<2^31):Rets Vv 117 [.c (.str s),.c (.int .u8 36)] (.c (.int .i64 (Lib.lastIndexByte ⟨s.toArray⟩ 36))):=
 zo0 (V:=Vv) (f:=117) (xs:=[.str s,.int .u8 36]) (u:=.int .i64 (Lib.lastIndexByte ⟨s.toArray⟩ 36)) (g:=js3) rfl rfl (by simp only [js3];rw [if_pos (by omega)])
theorem wj6 (s:List UInt8):-1≤Lib.lastIndexByte ⟨s.toArray⟩ 36∧Lib.lastIndexByte ⟨s.toArray⟩ 36<s.length:=by
 have h:=Lib.lastIndexByte_spec ⟨s.toArray⟩ 36
 have hsz:(⟨s.toArray⟩:ByteArray).size=s.length:=by simp [ByteArray.size]
 rcases h with ⟨h,_⟩ | ⟨i,h1,h2,_⟩
 · rw [h];omega
 · rw [h2];rw [hsz] at h1;omega
def j87 (s:List UInt8):WV:=match Lib.atoiAll s with
 | .ok v=>.tup [.c (.int .i64 v),.c .nili]
 | .range=>.tup [.c (.int .i64 (Lib.atoiSat s)),.c .opq]
 | _=>.tup [.c (.int .i64 0),.c .opq]
theorem jm9 (s:List UInt8) (h:s.length<2^31):Rets Vv 118 [.c (.str s)] (j87 s):=by
 cases ha:Lib.atoiAll s with
 | ok v=>
   simp only [j87,ha]
   exact q48 (V:=Vv) (f:=118) (xs:=[.str s]) (us:=[.int .i64 v,.nili]) (g:=qo0) rfl rfl (by simp only [qo0,ha];rw [if_pos (by omega)]) (by simp)
 | range=>
   simp only [j87,ha]
   exact q48 (V:=Vv) (f:=118) (xs:=[.str s]) (us:=[.int .i64 (Lib.atoiSat s),.opq]) (g:=qo0) rfl rfl (by simp only [qo0,ha];rw [if_pos (by omega)]) (by simp)
 | _=>
   simp only [j87,ha]
   exact q48 (V:=Vv) (f:=118) (xs:=[.str s]) (us:=[.int .i64 0,.opq]) (g:=qo0) rfl rfl (by simp only [qo0,ha];rw [if_pos (by omega)]) (by simp)
end Go.Proofs.TryzL
namespace Go.Proofs.TryzL
open Go.Proofs.Lz
def okA:Lib.NumEnd Int→Option Int
 | .ok v=>some v
 | _=>none
def qw7 (s:List UInt8) (k:Nat):Option (List UInt8×Int):=match okA (Lib.atoiAll (s.drop (k+1))) with
 | none=>none
 | some v=>if w63 (s.take k) v=s then some (s.take k,v) else none
def jk5 (s:List UInt8):Option (List UInt8×Int):=if Lib.lastIndexByte ⟨s.toArray⟩ 36<0 then none else qw7 s (Lib.lastIndexByte ⟨s.toArray⟩ 36).toNat
def qg5 (o:Option (List UInt8×Int)):WV:=match o with
 | none=>.tup [.c (.str []),.c (.int .i64 0),.c (.bool false)]
 | some p=>.tup [.c (.str p.1),.c (.int .i64 p.2),.c (.bool true)]
set_option maxHeartbeats 2000000
theorem jy6 (s:List UInt8) (hl:s.length<2^31):Rets Vv 92 [.c (.str s)] (qg5 (jk5 s)):=by
 refine z73 v87 ?_
 obtain ⟨b1,b2⟩:=wj6 s
 by_cases h0:Lib.lastIndexByte ⟨s.toArray⟩ 36<0
 · repeat' first|apply z01|exact z12|(apply z15;rfl;rfl)|(apply za2;rfl;rfl;omega)|(apply z30;(iterate 3 rfl))|(apply qy2;rfl;rfl;omega;omega)|(apply z07 (hc:=last_call s hl);rfl;rfl;rfl)|(apply z04;focus (repeat (first | exact z23 | (apply kq_c;rfl))))|apply z02|apply z00|apply z03|apply z08|apply z09|(apply z13;rfl)|(with_reducible apply z67;intro hc)|(with_reducible apply z49;intro hc)|(apply jv5;(exact ShI.c rfl);(exact ShI.c rfl);(exact ShI.c rfl);(exact by decide))
   · simp [jk5,h0,qg5]
   · omega
 · obtain ⟨k,hk⟩:∃ k:Nat,Lib.lastIndexByte ⟨s.toArray⟩ 36=k:=⟨_,(Int.toNat_of_nonneg (by omega)).symm⟩
   have hc:=last_call s hl
   rw [hk] at hc b2 h0
   have hb:jk5 s=qw7 s k:=by simp only [jk5,hk];rw [if_neg h0];simp
   have hd:(s.drop (k+1)).length<2^31:=by rw [List.length_drop];omega
   have hat:=jm9 (s.drop (k+1)) hd
   cases ha:Lib.atoiAll (s.drop (k+1)) with
   | ok v=>
     have hv:=Lib.atoiAll_bounds ha
     simp only [j87,ha] at hat
     have hm:=wo9 (s.take k) v (by rw [List.length_take];omega) hv
     repeat' first|apply z01|exact z12|exact z19 rfl|(apply z15;rfl;rfl)|(apply za2;rfl;rfl;omega)|(apply z30;(iterate 3 rfl))|(apply z17;rfl;(with_reducible rfl);rfl)|(apply z14;rfl;(with_reducible rfl);rfl)|(apply z57;(iterate 3 rfl))|(apply z94;rfl;rfl)|(apply qv4;rfl)|(apply zx5;rfl;rfl;omega)|(apply q36;(iterate 3 rfl);omega)|(apply z07 (hc:=hc);rfl;rfl;rfl)|(apply z07 (hc:=hat);rfl;rfl;rfl)|(apply z07 (hc:=hm);rfl;rfl;rfl)|(apply z04;focus (repeat (first | exact z23 | (apply kq_c;rfl))))|apply z02|apply z00|apply z03|apply z08|apply z09|(apply z35;rfl;(with_reducible rfl))|(apply z13;rfl)|(apply z48;rfl;(with_reducible rfl))|(apply z39;rfl;(with_reducible rfl))|(apply z38;rfl)|with_reducible apply z58|with_reducible apply z60|(with_reducible apply zi9;intro hc)|(with_reducible apply zb9;intro hc)|(with_reducible apply z67;intro hc)|(with_reducible apply z49;intro hc)|(with_reducible apply zi4;intro hc)|(apply jv5;(exact ShI.c rfl);(exact ShI.c rfl);(exact ShI.c rfl);(exact by decide))
     all_goals first|(exfalso;omega)|(exfalso;simp at hc;done)|(rw [hb];simp [qw7,ha,okA,qg5, *];done)
   | range=>
     simp only [j87,ha] at hat
     repeat' first|apply z01|exact z12|exact z19 rfl|(apply z15;rfl;rfl)|(apply za2;rfl;rfl;omega)|(apply z30;(iterate 3 rfl))|(apply z17;rfl;(with_reducible rfl);rfl)|(apply z57;(iterate 3 rfl))|(apply z94;rfl;rfl)|(apply qv4;rfl)|(apply zx5;rfl;rfl;omega)|(apply q36;(iterate 3 rfl);omega)|(apply z07 (hc:=hc);rfl;rfl;rfl)|(apply z07 (hc:=hat);rfl;rfl;rfl)|(apply z04;focus (repeat (first | exact z23 | (apply kq_c;rfl))))|apply z02|apply z00|apply z03|apply z08|apply z09|(apply z35;rfl;(with_reducible rfl))|(apply z13;rfl)|(apply z48;rfl;(with_reducible rfl))|(apply z39;rfl;(with_reducible rfl))|(apply z38;rfl)|(with_reducible apply z67;intro hc)|(with_reducible apply z49;intro hc)|(with_reducible apply zi4;intro hc)|(apply jv5;(exact ShI.c rfl);(exact ShI.c rfl);(exact ShI.c rfl);(exact by decide))
     all_goals first|(exfalso;omega)|(exfalso;simp at hc;done)|(rw [hb];simp [qw7,ha,okA,qg5, *];done)
   | _=>
     simp only [j87,ha] at hat
     repeat' first|apply z01|exact z12|exact z19 rfl|(apply z15;rfl;rfl)|(apply za2;rfl;rfl;omega)|(apply z30;(iterate 3 rfl))|(apply z17;rfl;(with_reducible rfl);rfl)|(apply z57;(iterate 3 rfl))|(apply z94;rfl;rfl)|(apply qv4;rfl)|(apply zx5;rfl;rfl;omega)|(apply q36;(iterate 3 rfl);omega)|(apply z07 (hc:=hc);rfl;rfl;rfl)|(apply z07 (hc:=hat);rfl;rfl;rfl)|(apply z04;focus (repeat (first | exact z23 | (apply kq_c;rfl))))|apply z02|apply z00|apply z03|apply z08|apply z09|(apply z35;rfl;(with_reducible rfl))|(apply z13;rfl)|(apply z48;rfl;(with_reducible rfl))|(apply z39;rfl;(with_reducible rfl))|(apply z38;rfl)|(with_reducible apply z67;intro hc)|(with_reducible apply z49;intro hc)|(with_reducible apply zi4;intro hc)|(apply jv5;(exact ShI.c rfl);(exact ShI.c rfl);(exact ShI.c rfl);(exact by decide))
     all_goals first|(exfalso;omega)|(exfalso;simp at hc;done)|(rw [hb];simp [qw7,ha,okA,qg5, *];done)
end Go.Proofs.TryzL
namespace Go.Proofs.TryzL
open Go.Proofs.Lz
set_option maxHeartbeats 2000000
def z95 (s:List UInt8):Nat:=if rwordL.contains s then 5 else if rsymL.contains s then 6 else if zr2 s&&q25 s then 2 else if zr2 s then 1 else if zh8 s&&s[0]?==some 58 then 4 else if zh8 s then 3 else if (jk5 s).isSome then 7 else 0
theorem z92 (s:List UInt8) (hl:s.length<2^31):Rets Vv 60 [.c (.str s)] (.c (.int .i64 (z95 s))):=by
 refine z73 v83 ?_
 cases h0:s[0]? with
 | none=>
   have:s=[]:=by cases s<;>simp_all
   subst this
   have hb:=jy6 [] hl
   have hb':Rets Vv 92 [.c (.str [])] (qg5 none):=hb
   simp only [qg5] at hb'
   have e1:rwordL.contains []=false:=rfl
   have e2:rsymL.contains []=false:=rfl
   have e3:zr2 []=false:=rfl
   have e4:zh8 []=false:=rfl
   have h1:=zl7 []
   have h2:=zi8 []
   have h3:=qm0 [] (by simp)
   have h4:=qa9 [] (by simp)
   rw [e1] at h1;rw [e2] at h2;rw [e3] at h3;rw [e4] at h4
   repeat' first|apply z01|exact z12|exact z19 rfl|(apply z15;rfl;rfl)|(apply z14;rfl;(with_reducible rfl);rfl)|(apply z57;(iterate 3 rfl))|(apply z94;rfl;rfl)|(apply z07 (hc:=h1);rfl;rfl;rfl)|(apply z07 (hc:=h2);rfl;rfl;rfl)|(apply z07 (hc:=h3);rfl;rfl;rfl)|(apply z07 (hc:=h4);rfl;rfl;rfl)|(apply z07 (hc:=hb');rfl;rfl;rfl)|(apply z04;focus (repeat (first | exact z23 | (apply kq_c;rfl))))|apply z02|apply z00|apply z03|apply z06|apply z08|apply z09|(apply z32;rfl;(with_reducible rfl))|(apply z44;rfl;(with_reducible rfl))|(apply z97;rfl)
   all_goals rfl
 | some c=>
   cases hb:jk5 s with
   | none=>
     have hb':Rets Vv 92 [.c (.str s)] (qg5 none):=hb▸jy6 s hl
     simp only [qg5] at hb'
     repeat' first|apply z01|exact z12|exact z19 rfl|(apply z15;rfl;rfl)|(apply z30;(iterate 3 rfl))|(apply z17;rfl;(with_reducible rfl);rfl)|(apply z14;rfl;(with_reducible rfl);rfl)|(apply z71;(iterate 3 rfl);assumption)|(apply z57;(iterate 3 rfl))|(apply z94;rfl;rfl)|(apply z07 (hc:=zl7 s);rfl;rfl;rfl)|(apply z07 (hc:=zi8 s);rfl;rfl;rfl)|(apply z07 (hc:=qm0 s (by omega));rfl;rfl;rfl)|(apply z07 (hc:=qa9 s (by omega));rfl;rfl;rfl)|(apply z07 (hc:=qq1 c);rfl;rfl;rfl)|(apply z07 (hc:=hb');rfl;rfl;rfl)|(apply z04;focus (repeat (first | exact z23 | (apply kq_c;rfl))))|apply z02|apply z00|apply z03|apply z06|apply z08|apply z09|(apply z32;rfl;(with_reducible rfl))|(apply z13;rfl)|(apply z48;rfl;(with_reducible rfl))|(apply z44;rfl;(with_reducible rfl))|(apply z38;rfl)|(with_reducible apply za1;intro hc)|(with_reducible apply z74;intro hc)|(with_reducible apply zi4;intro hc)|(apply z97;rfl)
     all_goals have e58:((c.toNat:Int)=58)↔c=58:=u8eq (n:=58) (by decide)
     all_goals first|(exfalso;simp_all;done)|(congr 1;simp_all [z95,q25];done)
   | some p=>
     have hb':Rets Vv 92 [.c (.str s)] (qg5 (some p)):=hb▸jy6 s hl
     simp only [qg5] at hb'
     repeat' first|apply z01|exact z12|exact z19 rfl|(apply z15;rfl;rfl)|(apply z30;(iterate 3 rfl))|(apply z17;rfl;(with_reducible rfl);rfl)|(apply z14;rfl;(with_reducible rfl);rfl)|(apply z71;(iterate 3 rfl);assumption)|(apply z57;(iterate 3 rfl))|(apply z94;rfl;rfl)|(apply z07 (hc:=zl7 s);rfl;rfl;rfl)|(apply z07 (hc:=zi8 s);rfl;rfl;rfl)|(apply z07 (hc:=qm0 s (by omega));rfl;rfl;rfl)|(apply z07 (hc:=qa9 s (by omega));rfl;rfl;rfl)|(apply z07 (hc:=qq1 c);rfl;rfl;rfl)|(apply z07 (hc:=hb');rfl;rfl;rfl)|(apply z04;focus (repeat (first | exact z23 | (apply kq_c;rfl))))|apply z02|apply z00|apply z03|apply z06|apply z08|apply z09|(apply z35;rfl;(with_reducible rfl))|(apply z32;rfl;(with_reducible rfl))|(apply z13;rfl)|(apply z48;rfl;(with_reducible rfl))|(apply z44;rfl;(with_reducible rfl))|(apply z38;rfl)|(with_reducible apply za1;intro hc)|(with_reducible apply z74;intro hc)|(with_reducible apply zi4;intro hc)|(apply z97;rfl)
     all_goals have e58:((c.toNat:Int)=58)↔c=58:=u8eq (n:=58) (by decide)
     all_goals first|(exfalso;simp_all;done)|(congr 1;simp_all [z95,q25];done)
end Go.Proofs.TryzL
namespace Go.Proofs.TryzL
open Go.Proofs.Lz
set_option maxHeartbeats 2000000
theorem u8i {a b:UInt8}:((a.toNat:Int)=(b.toNat:Int))↔a=b:=by rw [← UInt8.toNat_inj];omega
end Go.Proofs.TryzL
namespace Go.Proofs.TryzL
open Go.Proofs.Lz
set_option maxHeartbeats 2000000
end Go.Proofs.TryzL
namespace Go.Proofs.TryzL
open Go.Proofs.Lz
set_option maxHeartbeats 2000000
end Go.Proofs.TryzL
namespace Go.Proofs.TryzL
open Go.Proofs.Lz
set_option maxHeartbeats 2000000
end Go.Proofs.TryzL
namespace Go.Proofs.TryzL
open Go.Proofs.Lz
set_option maxHeartbeats 2000000
end Go.Proofs.TryzL
namespace Go.Proofs.Lz
theorem wq4 {n:Int} (h:0≤n∧n<256):IntKind.u8.wrap n=n:=by
 simp [IntKind.wrap,IntKind.bits,IntKind.signed]
 omega
section
variable {V:WEnv} {fr fr':WFr} {H H':z18} {N:Post} {dst:Option Nat}
theorem qd6 {x y:Opd} {a b:Int} (hx:fr.rd x=.c (.int .u8 a)) (hy:fr.rd y=.c (.int .u8 b)) (h0:0≤a - b∧a - b<256) (hq:Put fr dst (.c (.int .u8 (a - b))) fr') (h:N fr' H):OpP V (.bin .sub x y) dst fr H N:=
 z30 hx hy (by simp only [binC,if_true,wq4 h0]) hq h
theorem wn8 {x y:Opd} {c:UInt8} (hx:fr.rd x=.c (.int .u8 c.toNat)) (hy:fr.rd y=.c (.int .u64 4)) (hq:Put fr dst (.c (.int .u8 (c.toNat / 16:Nat))) fr') (h:N fr' H):OpP V (.bin .shr x y) dst fr H N:=by
 refine z30 (v:=.int .u8 (c.toNat / 16:Nat)) hx hy ?_ hq h
 have e:((c.toNat:Int).fdiv (2 ^ (min (4:Int).toNat IntKind.u8.bits)))=((c.toNat / 16:Nat):Int):=by
  show (c.toNat:Int).fdiv 16=_
  rw [Int.fdiv_eq_ediv_of_nonneg _ (by omega)]
  omega
 show (if (0:Int)≤4 then some (CV.int .u8 ((c.toNat:Int).fdiv (2 ^ (min (4:Int).toNat IntKind.u8.bits)))) else none)=_
 rw [e]
 rfl
theorem vc5:∀ c:UInt8,IntKind.u8.wrap ((BitVec.ofInt IntKind.u8.bits c.toNat &&& BitVec.ofInt IntKind.u8.bits 15).toNat)=((c.toNat % 16:Nat):Int):=by
 have h:∀ n:Fin 256,IntKind.u8.wrap ((BitVec.ofInt IntKind.u8.bits (n.val:Int) &&& BitVec.ofInt IntKind.u8.bits 15).toNat)=((n.val % 16:Nat):Int):=by decide +kernel
 intro c
 exact h ⟨c.toNat,c.toNat_lt⟩
theorem w81 {x y:Opd} {c:UInt8} (hx:fr.rd x=.c (.int .u8 c.toNat)) (hy:fr.rd y=.c (.int .u8 15)) (hq:Put fr dst (.c (.int .u8 (c.toNat % 16:Nat))) fr') (h:N fr' H):OpP V (.bin .and x y) dst fr H N:=
 z30 (v:=.int .u8 (c.toNat % 16:Nat)) hx hy (by simp only [binC,if_true,vc5 c]) hq h
theorem jf5 {l:List (Nat×WV)} {a:List (Nat×Option (Nat×Nat))} {f p:Nat} {args:List Opd} {r:WV} {Q:z18→Prop} (hm:V.md f=.S) (ht:V.tk f=[0]) (hp:zi1 [0] 0 (args.map (FL l a).rd)=[.sl p 0 0]) (hl:j04 [0] 0 (args.map (FL l a).rd)=[]) (ho:(args.map (FL l a).rd).all okA=true)
 (hc:Shr V f (q30 [0] 0 (args.map (FL l a).rd)) H r Q) (hq:Put (FL (hitM isHp false (hitM (inK [.sl p 0 0]) false l)) a) dst r fr') (h:∀ H',Q H'→N fr' H'):OpP V (.call f args) dst (FL l a) H N:=by
 obtain ⟨H2,h1,h2⟩:=hc
 refine ⟨fr',H2,?_,h H2 h2⟩
 show zd1 V (wv V) f (args.map (FL l a).rd) dst (FL l a) H=_
 simp only [zd1,hm,ht,hp,hl,ho,List.nodup_cons,List.not_mem_nil,not_false_eq_true,List.nodup_nil,List.all_cons,List.all_nil,List.contains_nil,Bool.not_false,Bool.and_true,and_self,if_true,q26,h1,q22,hq.eq]
theorem wy6 {n t e:Nat} {b:Bool} {ek:Option Nat} {xs:List CV} {r:WV} {Q:z18→Prop} (h1:fr.env t=.own b e ek xs) (hr:r=.own b e ek xs) (h:Q H):finS n [.tmp t] r Q fr H:=by
 subst hr
 refine ⟨[.view (.sl t 0 0) b 0 e ek xs],.own b e ek xs,H,?_,?_,rfl,h⟩
 · simp [zf7,h1,zx7,zl3,zo7]
 · unfold zq2
   have e:List.filter (zj6 n) [Pl.sl t 0 0]=[Pl.sl t 0 0]:=by simp [zj6]
   simp [ze5,srcC,src1,zo9,zw5,zj6,ze8,zm1,leave1,hitH,e]
theorem q13 {x:Opd} {xs:List CV} {s:List UInt8} (hx:q89 none (fr.rd x)=some xs) (hb:zf4 xs=some s) (hq:Put fr dst (.c (.str s)) fr') (h:N fr' H):OpP V (.b2s x) dst fr H N:=
 ⟨fr',H,by show wOp0 (.b2s x) dst fr H=_;simp only [wOp0,hx,Option.bind_some,hb,hq.eq],h⟩
end
end Go.Proofs.Lz
