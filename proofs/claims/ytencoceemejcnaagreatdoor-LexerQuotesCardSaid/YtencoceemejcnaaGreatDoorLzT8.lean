/- Chapter 02: names: symbols. -/
import Derived.Test.YtencoceemejcnaaGreatDoorLzT3
set_option linter.unusedSimpArgs false
set_option linter.unusedVariables false
namespace Go.Proofs.TryzL
open Go.Proofs.Lz
def qg9 (t:List UInt8):Bool:=decide (2≤t.length)&&t.all (·==45)
theorem jw8 {p:UInt8→Bool}:∀ l:List UInt8,l.dropWhile p=[]↔∀ x∈l,p x=true:=by
 intro l
 induction l with
 | nil=>simp
 | cons x l ih=>
   by_cases h:p x=true
   · rw [List.dropWhile_cons_of_pos h,ih];simp [h]
   · rw [List.dropWhile_cons_of_neg h];simp [h]
theorem w34 (t:List UInt8):Lib.trimB t 45=[]↔∀ x∈t,x=45:=by
 unfold Lib.trimB Lib.trimLeftB Lib.trimRightB
 rw [jw8]
 constructor
 · intro h
   have h1:t.reverse.dropWhile (·==45)=[]:=by
    cases hd:t.reverse.dropWhile (·==45) with
    | nil=>rfl
    | cons a r=>
      have ha:=h a (by rw [hd];simp)
      have hn:=List.head_dropWhile_not (·==(45:UInt8)) (by rw [hd];simp:t.reverse.dropWhile (·==45)≠[])
      simp only [hd,List.head_cons] at hn
      rw [ha] at hn
      cases hn
   have:=(jw8 (p:=(·==(45:UInt8))) t.reverse).1 h1
   intro x hx
   simpa using this x (by simpa using hx)
 · intro h x hx
   have h1:t.reverse.dropWhile (·==45)=[]:=(jw8 (p:=(·==(45:UInt8))) t.reverse).2 (fun y hy=>by simpa using h y (by simpa using hy))
   rw [h1] at hx
   simp at hx
theorem ju3 (s:List UInt8) (h:s.length<2^60):Rets Vv 84 [.c (.str s),.c (.str [45])] (.c (.str (Lib.trimB s 45))):=by
 have h:=zt1 (V:=Vv) (f:=84) (xs:=[.str s,.str [45]]) (u:=.str (Lib.trimB s 45)) (g:=jr0) rfl rfl (by simp only [jr0];rw [if_pos ⟨by decide,by omega⟩])
 exact h
theorem jb7 (t:List UInt8) (h:t.length<2^60):Rets Vv 52 [.c (.str t)] (.c (.bool (qg9 t))):=by
 refine z83 v17 ?_
 repeat' first
  | apply z01
  | exact z13
  | exact z19 rfl
  | (apply z17;rfl;rfl)
  | (apply z30;(iterate 3 rfl))
  | (apply z42;rfl)
  | (apply z18;rfl;(with_reducible rfl);rfl)
  | (apply z16;rfl;(with_reducible rfl);rfl)
  | (apply z05 (hc:=ju3 t h);rfl;rfl;rfl)
  | apply z02
  | apply z00
  | apply z03
  | apply z15
  | (apply z50;rfl;(with_reducible rfl))
  | (apply z48;rfl;(with_reducible rfl))
  | (apply z40;rfl)
  | (with_reducible apply z78;intro hc)
  | (with_reducible apply z57;intro hc)
  | (apply zb5;rfl)
 · refine cb ?_
   have h2:2≤t.length:=by omega
   simp [qg9,h2,w34]
 · refine cb ?_
   have h2:¬ 2≤t.length:=by omega
   simp [qg9,h2]
def zl3 (s:Sc):Sc:=match s.src[s.pos]? with
 | none=>s
 | some c=>if c=10 then { s with pos:=s.pos+1,line:=s.line+1,col:=1 } else if c=9 then { s with pos:=s.pos+1,col:=s.col+(8 - (s.col - 1) % 8) } else { s with pos:=s.pos+1,col:=s.col+1 }
def q15:Nat→Sc→Sc
 | 0,s=>s
 | n+1,s=>q15 n (zl3 s)
theorem q22:∀ (n:Nat) (s:Sc),q15 (n+1) s=zl3 (q15 n s)
 | 0,s=>rfl
 | n+1,s=>by
   show q15 (n+1) (zl3 s)=_
   rw [q22 n (zl3 s)]
   rfl
structure ScOk (s:Sc):Prop where
 line:s.line≤s.pos+1
 col:s.col≤8 * s.pos+1
 col1:1≤s.col
theorem w12 {s:Sc} (h:s.pos<s.src.length):(zl3 s).pos=s.pos+1∧(zl3 s).src=s.src:=by
 unfold zl3
 rw [List.getElem?_eq_getElem h]
 dsimp only
 split
 · exact ⟨rfl,rfl⟩
 · split<;>exact ⟨rfl,rfl⟩
theorem step_ok {s:Sc} (h:ScOk s):ScOk (zl3 s):=by
 unfold zl3
 cases hc:s.src[s.pos]? with
 | none=>exact h
 | some c=>
   dsimp only
   obtain ⟨h1,h2,h3⟩:=h
   split
   · exact ⟨by dsimp only;omega,by dsimp only;omega,by dsimp only;omega⟩
   · split
     · exact ⟨by dsimp only;omega,by dsimp only;omega,by dsimp only;omega⟩
     · exact ⟨by dsimp only;omega,by dsimp only;omega,by dsimp only;omega⟩
theorem wq7 {s:Sc} (h:ScOk s):∀ n,s.pos+n≤s.src.length→ScOk (q15 n s)∧(q15 n s).pos=s.pos+n∧(q15 n s).src=s.src:=by
 intro n
 induction n with
 | zero=>intro _;exact ⟨h,rfl,rfl⟩
 | succ n ih=>
   intro hn
   obtain ⟨h1,h2,h3⟩:=ih (by omega)
   rw [q22]
   obtain ⟨k1,k2⟩:=w12 (s:=q15 n s) (by rw [h2,h3];omega)
   exact ⟨step_ok h1,by rw [k1,h2];omega,by rw [k2,h3]⟩
def KpH (id:Nat) (H H':z06):Prop:=∀ i o,i≠id→H[i]?=some o→H'[i]?=some o
theorem jp8 {H:z06} {id n:Nat} {s:Sc} (hH:H[id]?=some (.var (some 8) (scC s))) (hok:ScOk s) (hn:s.pos+n≤s.src.length) (hl:s.src.length<2^50) :
 Shr Vv 34 [.ptr id 0,.c (.int .i64 n)] H (.tup []) (fun H'=>H'[id]?=some (.var (some 8) (scC (q15 n s)))∧KpH id H H'):=by
 refine zm1 wy7 ?_
 repeat' first
  | apply z01
  | exact z13
  | (apply z17;rfl;rfl)
  | apply z02
  | apply z00
  | apply z03
  | apply z09
 refine zp7 (fun k:Nat=>[(0,.ptr id 0),(4,.c (.int .i64 n)),(5,.c (.int .i64 k))]) (fun k H'=>k≤n∧H'[id]?=some (.var (some 8) (scC (q15 k s)))∧KpH id H H') (fun k=>n - k) 0 ?_ ⟨by omega,hH,fun _ _ _ h=>h⟩ ?_
 · repeat' first
    | exact z28
    | refine z67 rfl ?_
 rintro k H1 ⟨hk,hH1,kp1⟩
 obtain ⟨⟨o1,o2,o3⟩,p1,p2⟩:=wq7 hok k (by omega)
 generalize hs':q15 k s=s' at *
 by_cases hkn:k<n
 · have hpos:s'.pos<s'.src.length:=by rw [p1,p2];omega
   have hg:s'.src[s'.pos]?=some s'.src[s'.pos]:=List.getElem?_eq_getElem hpos
   have kk:q15 (k+1) s=zl3 s':=by rw [q22,hs']
   repeat' first
    | apply z01
    | exact z13
    | exact z19 rfl
    | (apply z17;rfl;rfl)
    | (apply za3;rfl;rfl;omega)
    | (apply zt5;rfl;rfl;omega)
    | (apply z30;(iterate 3 rfl))
    | (apply z60;(iterate 3 rfl);assumption)
    | (apply z23;rfl;rfl)
    | (apply z07;rfl;rfl)
    | (apply z27;rfl;rfl)
    | (apply z08;rfl;rfl;(assumption);rfl)
    | (apply z95;(iterate 4 rfl);(assumption);rfl;rfl;intro H1 hH1 kH1)
    | (apply z04;focus (repeat (first | exact z28 | (apply kq_c;rfl) | (apply z49;rfl))))
    | apply z02
    | apply z00
    | apply z03
    | apply z09
    | apply z12
    | apply z61
    | (apply zb9;rfl)
    | apply z22
    | apply z45
    | (apply z14;rfl)
    | (apply z56;(exact rfl))
    | (with_reducible apply za2;intro hc)
    | (with_reducible apply z73;intro hc)
    | (with_reducible apply z78;intro hc)
    | (with_reducible apply z57;intro hc)
    | (apply z44;rfl)
    | (apply z47;rfl)
    | (apply q41;rfl)
    | (apply dand;rfl)
   · rename_i A1 A2 A3 B1 B2 B3
     refine ⟨k+1,?_,⟨by omega,?_,?_⟩,by omega⟩
     · repeat' first
        | exact z28
        | refine z67 rfl ?_
     · have h10:s'.src[s'.pos]=10:=UInt8.toNat_inj.1 (by simp;omega)
       rw [hH1,kk]
       simp [zl3,hg,h10,scC,zb6,WV.flat]
     · exact fun i o hi ho=>kH1 i o hi (B3 i o hi (A3 i o hi (kp1 i o hi ho)))
   · rename_i B1 B2 B3
     refine ⟨k+1,?_,⟨by omega,?_,?_⟩,by omega⟩
     · repeat' first
        | exact z28
        | refine z67 rfl ?_
     · have h9:s'.src[s'.pos]=9:=UInt8.toNat_inj.1 (by simp;omega)
       have hw:IntKind.i64.wrap (↑s'.col+IntKind.i64.wrap (8 - ((s'.col:Int) - 1).tmod 8))=((s'.col+(8 - (s'.col - 1) % 8):Nat):Int):=by
        have e1:((s'.col:Int) - 1).tmod 8=((s'.col - 1) % 8:Nat):=by
         rw [Int.tmod_eq_emod_of_nonneg (by omega)];omega
        have e2:IntKind.i64.wrap (8 - (((s'.col - 1) % 8:Nat):Int))=8 - (((s'.col - 1) % 8:Nat):Int):=wrap64 (by omega)
        rw [e1,e2,wrap64 (by omega)]
        omega
       rw [hH1,kk,hw]
       simp [zl3,hg,h9,scC,zb6,WV.flat]
     · exact fun i o hi ho=>kH1 i o hi (B3 i o hi (kp1 i o hi ho))
   · rename_i hc0 B1 B2 B3
     refine ⟨k+1,?_,⟨by omega,?_,?_⟩,by omega⟩
     · repeat' first
        | exact z28
        | refine z67 rfl ?_
     · have h10:s'.src[s'.pos]≠10:=fun e=>hc0 (by rw [e];rfl)
       have h9:s'.src[s'.pos]≠9:=fun e=>hc (by rw [e];rfl)
       rw [hH1,kk]
       simp [zl3,hg,h10,h9,scC,zb6,WV.flat]
     · exact fun i o hi ho=>kH1 i o hi (B3 i o hi (kp1 i o hi ho))
   all_goals omega
 · have hkn':k=n:=by omega
   subst hkn'
   repeat' first
    | apply z01
    | exact z13
    | exact z19 rfl
    | (apply z17;rfl;rfl)
    | (apply za3;rfl;rfl;omega)
    | (apply zt5;rfl;rfl;omega)
    | (apply z30;(iterate 3 rfl))
    | (apply z60;(iterate 3 rfl);exact List.getElem?_eq_getElem (by omega))
    | (apply z23;rfl;rfl)
    | (apply z07;rfl;rfl)
    | (apply z27;rfl;rfl)
    | (apply z08;rfl;rfl;(assumption);rfl)
    | (apply z95;(iterate 4 rfl);(assumption);rfl;rfl;intro H1 hH1 kH1)
    | (apply z04;focus (repeat (first | exact z28 | (apply kq_c;rfl) | (apply z49;rfl))))
    | apply z02
    | apply z00
    | apply z03
    | apply z09
    | apply z12
    | apply z61
    | (apply zb9;rfl)
    | apply z22
    | apply z45
    | (apply z14;rfl)
    | (apply z56;(exact rfl))
    | (with_reducible apply za2;intro hc)
    | (with_reducible apply z73;intro hc)
    | (with_reducible apply z78;intro hc)
    | (with_reducible apply z57;intro hc)
    | (apply z44;rfl)
    | (apply z47;rfl)
    | (apply q41;rfl)
    | (apply dand;rfl)
   all_goals first
    | omega
    | exact v23 ⟨by rw [hs'];assumption,by assumption⟩
end Go.Proofs.TryzL
namespace Go.Proofs.TryzL
open Go.Proofs.Lz
def q61 (code:Nat) (nm:List UInt8) (s:Sc):Sc:=if s.code=0 then { s with code:=code,name:=nm,fl:=s.line,fc:=s.col } else s
theorem w97 {H:z06} {id code:Nat} {nm:List UInt8} {s:Sc} (hH:H[id]?=some (.var (some 8) (scC s))) :
 Shr Vv 36 [.ptr id 0,.c (.int .i64 code),.c (.str nm)] H (.c (.bool false)) (fun H'=>H'[id]?=some (.var (some 8) (scC (q61 code nm s)))∧KpH id H H'):=by
 refine zm1 wv9 ?_
 repeat' first
  | apply z01
  | exact z13
  | exact z19 rfl
  | (apply z17;rfl;rfl)
  | (apply z30;(iterate 3 rfl))
  | (apply z66;(iterate 3 rfl))
  | (apply z23;rfl;rfl)
  | (apply z07;rfl;rfl)
  | (apply z27;rfl;rfl)
  | (apply z08;rfl;rfl;(assumption);rfl)
  | (apply z95;(iterate 4 rfl);(assumption);rfl;rfl;intro H1 hH1 kH1)
  | (apply z04;focus (repeat (first | exact z28 | (apply kq_c;rfl) | (apply z49;rfl))))
  | apply z02
  | apply z00
  | apply z03
  | apply z12
  | apply z15
  | apply z22
  | apply z45
  | (apply z14;rfl)
  | (apply z56;(exact rfl))
  | (with_reducible apply za2;intro hc)
  | (with_reducible apply z73;intro hc)
  | (apply z44;rfl)
  | (apply z47;rfl)
  | (apply q41;rfl)
  | (apply dand;rfl)
 · have h0:s.code=0:=by omega
   refine zo4 rfl rfl ⟨?_,kH1⟩
   rw [hH1]
   simp [q61,h0,scC,zb6,WV.flat]
 · have h0:s.code≠0:=by omega
   exact zo4 rfl rfl ⟨by rw [q61,if_neg h0];exact hH,fun _ _ _ h=>h⟩
theorem jt3 {H:z06} {id:Nat} {t:List UInt8} {s:Sc} (hH:H[id]?=some (.var (some 8) (scC s))) (hl:t.length<2^60) :
 Shr Vv 32 [.ptr id 0,.c (.str t)] H (.c (.bool (decide (t.length≤64)))) (fun H'=>H'[id]?=some (.var (some 8) (scC (if t.length≤64 then s else q61 3 (t.take 64) s)))∧KpH id H H'):=by
 refine zm1 wz5 ?_
 repeat' first
  | apply z01
  | exact z13
  | exact z19 rfl
  | (apply z17;rfl;rfl)
  | (apply z30;(iterate 3 rfl))
  | (apply z42;rfl)
  | (apply z23;rfl;rfl)
  | (apply je5;rfl;rfl;omega;omega)
  | (apply z24 (hc:=⟨(w97 (code:=3) (nm:=t.take 64) hH).run⟩);rfl;rfl;(exact rfl);rfl;(exact z13);rintro H1 ⟨r1,k1⟩)
  | (apply z04;focus (repeat (first | exact z28 | (apply kq_c;rfl) | (apply z49;rfl))))
  | apply z02
  | apply z00
  | apply z03
  | apply z12
  | apply z15
  | (apply z14;rfl)
  | (with_reducible apply z78;intro hc)
  | (with_reducible apply z57;intro hc)
 · have h0:¬ t.length≤64:=by omega
   refine zo4 rfl (by simp [h0]) ⟨?_,k1⟩
   rw [if_neg h0];exact r1
 · have h0:t.length≤64:=by omega
   exact zo4 rfl (by simp [h0]) ⟨by rw [if_pos h0];exact hH,fun _ _ _ h=>h⟩
end Go.Proofs.TryzL
namespace Go.Proofs.TryzL
open Go.Proofs.Lz
def rsymL:List (List UInt8):=[[46,46],[58,58],[61],[92],[124],[60,45],[45,62],[64],[126],[61,62]]
def rwordL:List (List UInt8):=[[97,115],[99,97,115,101],[99,108,97,115,115],[100,97,116,97],[100,101,114,105,118,105,110,103],[100,111],[101,108,115,101],[104,105,100,105,110,103],[105,102],[105,109,112,111,114,116],[105,110],[105,110,102,105,120],[105,110,102,105,120,108],[105,110,102,105,120,114],[105,110,115,116,97,110,99,101],[108,101,116],[109,111,100,117,108,101],[111,102],[113,117,97,108,105,102,105,101,100],[116,104,101,110],[119,104,101,114,101],[95]]
theorem zg4 (s:List UInt8):Rets Vv 88 [.c (.str s)] (.c (.bool (rsymL.contains s))):=by
 refine z83 ww4 ?_
 repeat' first
  | apply z01
  | exact z13
  | (apply z17;rfl;rfl)
  | (apply z30;(iterate 3 rfl))
  | (apply z04;focus (repeat (first | exact z28 | (apply kq_c;rfl))))
  | apply z02
  | apply z00
  | apply z03
  | apply z09
  | apply z12
  | apply z15
  | (apply z39;rfl;(with_reducible rfl))
  | (apply z14;rfl)
  | (with_reducible apply zs8;intro hc)
  | (with_reducible apply zi5;intro hc)
  | (apply zb5;rfl)
 all_goals (refine cb ?_;simp_all [rsymL])
set_option maxHeartbeats 4000000 in
theorem zj7 (s:List UInt8):Rets Vv 87 [.c (.str s)] (.c (.bool (rwordL.contains s))):=by
 refine z83 v11 ?_
 repeat' first
  | apply z01
  | exact z13
  | (apply z17;rfl;rfl)
  | (apply z30;(iterate 3 rfl))
  | (apply z04;focus (repeat (first | exact z28 | (apply kq_c;rfl))))
  | apply z02
  | apply z00
  | apply z03
  | apply z09
  | apply z12
  | apply z15
  | (apply z39;rfl;(with_reducible rfl))
  | (apply z14;rfl)
  | (with_reducible apply zs8;intro hc)
  | (with_reducible apply zi5;intro hc)
  | (apply zb5;rfl)
 all_goals (refine cb ?_;simp_all [rwordL])
end Go.Proofs.TryzL
namespace Go.Proofs.TryzL
open Go.Proofs.Lz
def q40 (c:UInt8):Bool:=upperB c||decide (97≤c.toNat∧c.toNat≤122)
theorem qm2 (c:UInt8):Rets Vv 90 [.c (bC c)] (.c (.bool (upperB c))):=by
 refine z83 v12 ?_
 repeat' first
  | apply z01
  | exact z13
  | exact z19 rfl
  | (apply z17;rfl;rfl)
  | (apply z30;(iterate 3 rfl))
  | (apply z18;rfl;(with_reducible rfl);rfl)
  | (apply z16;rfl;(with_reducible rfl);rfl)
  | apply z02
  | apply z00
  | apply z03
  | apply z15
  | (apply z50;rfl;(with_reducible rfl))
  | (apply z48;rfl;(with_reducible rfl))
  | (apply z40;rfl)
  | (with_reducible apply z78;intro hc)
  | (with_reducible apply z57;intro hc)
  | (apply zb5;rfl)
 all_goals (refine cb ?_;simp [upperB];omega)
theorem jy4 (c:UInt8):Rets Vv 115 [.c (bC c)] (.c (.bool (z84 c))):=by
 refine z83 wp7 ?_
 repeat' first
  | apply z01
  | exact z13
  | exact z19 rfl
  | (apply z17;rfl;rfl)
  | (apply z30;(iterate 3 rfl))
  | (apply z18;rfl;(with_reducible rfl);rfl)
  | (apply z16;rfl;(with_reducible rfl);rfl)
  | apply z02
  | apply z00
  | apply z03
  | apply z15
  | (apply z50;rfl;(with_reducible rfl))
  | (apply z48;rfl;(with_reducible rfl))
  | (apply z40;rfl)
  | (with_reducible apply z78;intro hc)
  | (with_reducible apply z57;intro hc)
  | (apply zb5;rfl)
 all_goals (refine cb ?_;simp [z84];omega)
theorem qr5 (c:UInt8):Rets Vv 114 [.c (bC c)] (.c (.bool (q40 c))):=by
 refine z83 ws9 ?_
 repeat' first
  | apply z01
  | exact z13
  | exact z19 rfl
  | (apply z17;rfl;rfl)
  | (apply z30;(iterate 3 rfl))
  | (apply z18;rfl;(with_reducible rfl);rfl)
  | (apply z16;rfl;(with_reducible rfl);rfl)
  | (apply z05 (hc:=qm2 c);rfl;rfl;rfl)
  | apply z02
  | apply z00
  | apply z03
  | apply z15
  | (apply z50;rfl;(with_reducible rfl))
  | (apply z48;rfl;(with_reducible rfl))
  | (apply z41;rfl;(with_reducible rfl))
  | (apply q12;rfl)
  | (apply z40;rfl)
  | (with_reducible apply z78;intro hc)
  | (with_reducible apply z57;intro hc)
  | (with_reducible apply zh7;intro hc)
  | (apply zb5;rfl)
 all_goals (refine cb ?_;simp [q40, *])
 all_goals omega
theorem j50 (c:UInt8):Rets Vv 116 [.c (bC c)] (.c (.bool (symB c))):=by
 refine z83 wr9 ?_
 repeat' first
  | apply z01
  | exact z13
  | (apply z17;rfl;rfl)
  | (apply z30;(iterate 3 rfl))
  | (apply z05 (hc:=zx8 symS c);rfl;rfl;rfl)
  | apply z02
  | apply z00
  | apply z03
  | apply z15
  | (apply zb5;rfl)
 rw [q25]
 rfl
def wcB (c:UInt8):Bool:=q40 c||z84 c||c==95||c==39
def wsB (c:UInt8):Bool:=q40 c||c==95
def zo6 (s:List UInt8):Bool:=match s[0]? with
 | none=>false
 | some c=>decide (s.length≤64)&&wsB c&&s.all wcB
theorem u8eq {c:UInt8} {n:Nat} (hn:n<256):((c.toNat:Int)=(n:Int))↔c=UInt8.ofNat n:=by
 constructor
 · intro h
   have h1:c.toNat=n:=by omega
   apply UInt8.toNat_inj.1
   rw [h1]
   simp
   omega
 · intro h
   subst h
   simp
   omega
theorem tk0 {α:Type} {s:List α} {p:α→Bool}:(s.take 0).all p=true:=by simp
theorem tkS {α:Type} {s:List α} {p:α→Bool} {n:Nat} (h:n<s.length) (h1:(s.take n).all p=true) (h2:p s[n]=true):(s.take (n+1)).all p=true:=by
 rw [List.take_add_one,List.all_append,h1,List.getElem?_eq_getElem h]
 simpa using h2
theorem tkE {α:Type} {s:List α} {p:α→Bool} {n:Nat} (h:s.length≤n) (h1:(s.take n).all p=true):s.all p=true:=by rwa [List.take_of_length_le h] at h1
theorem tkF {α:Type} {s:List α} {p:α→Bool} {n:Nat} (h:n<s.length) (h2:p s[n]=false):s.all p=false:=by
 rw [List.all_eq_false]
 exact ⟨s[n],List.getElem_mem h,by rw [h2];simp⟩
set_option maxHeartbeats 2000000
theorem qj2 (s:List UInt8) (hl:s.length<2^60):Rets Vv 89 [.c (.str s)] (.c (.bool (zo6 s))):=by
 refine z83 wz8 ?_
 cases h0:s[0]? with
 | none=>
   have:s=[]:=by cases s<;>simp_all
   subst this
   repeat' first
    | apply z01
    | exact z13
    | exact z19 rfl
    | (apply z17;rfl;rfl)
    | (apply z30;(iterate 3 rfl))
    | (apply z42;rfl)
    | (apply z18;rfl;(with_reducible rfl);rfl)
    | (apply z16;rfl;(with_reducible rfl);rfl)
    | (apply z04;focus (repeat (exact z28)))
    | apply z02
    | apply z00
    | apply z03
    | apply z15
    | (apply z39;rfl;(with_reducible rfl))
    | (apply z50;rfl;(with_reducible rfl))
    | (apply z41;rfl;(with_reducible rfl))
    | (apply q12;rfl)
    | (apply z40;rfl)
    | (with_reducible apply zs8;intro hc)
    | (with_reducible apply zi5;intro hc)
    | (with_reducible apply z78;intro hc)
    | (with_reducible apply z57;intro hc)
    | (apply zb5;rfl)
   all_goals first
    | rfl
    | (exfalso;simp_all;done)
 | some c=>
   have hne:s≠[]:=by intro e;rw [e] at h0;cases h0
   repeat' first
    | apply z01
    | exact z13
    | exact z19 rfl
    | (apply z17;rfl;rfl)
    | (apply z30;(iterate 3 rfl))
    | (apply z42;rfl)
    | (apply z94;rfl;rfl)
    | (apply z18;rfl;(with_reducible rfl);rfl)
    | (apply z16;rfl;(with_reducible rfl);rfl)
    | (apply z60;(iterate 3 rfl);assumption)
    | (apply z05 (hc:=qr5 c);rfl;rfl;rfl)
    | (apply z04;focus (repeat (first | exact z28 | (apply kq_c;rfl))))
    | apply z02
    | apply z00
    | apply z03
    | apply z09
    | apply z12
    | apply z15
    | (apply z39;rfl;(with_reducible rfl))
    | (apply z35;rfl;(with_reducible rfl))
    | (apply z14;rfl)
    | (apply z50;rfl;(with_reducible rfl))
    | (apply z48;rfl;(with_reducible rfl))
    | (apply z41;rfl;(with_reducible rfl))
    | (apply q12;rfl)
    | (apply z40;rfl)
    | with_reducible apply z64
    | with_reducible apply z63
    | (with_reducible apply zs8;intro hc)
    | (with_reducible apply zi5;intro hc)
    | (with_reducible apply zm4;intro hc)
    | (with_reducible apply zg8;intro hc)
    | (with_reducible apply z78;intro hc)
    | (with_reducible apply z57;intro hc)
    | (with_reducible apply zh7;intro hc)
    | (apply zb5;rfl)
   any_goals contradiction
   any_goals (refine cb ?_;simp [zo6,h0];omega)
   any_goals (refine cb ?_;simp [zo6,wsB,h0,← UInt8.toNat_inj, *];omega)
   any_goals
    refine zk5 (fun n:Nat=>[(0,.c (.str s)),(3,.c (.int .i64 n))]) (fun n=>n≤s.length∧(s.take n).all wcB=true) (fun n=>s.length - n) 0 ?_ ⟨by omega,tk0⟩ ?_
    · repeat' first
       | exact z28
       | refine z67 rfl ?_
    rintro n ⟨hn,hall⟩
    repeat' first
     | apply z01
     | exact z13
     | exact z19 rfl
     | (apply z17;rfl;rfl)
     | (apply za3;rfl;rfl;omega)
     | (apply z30;(iterate 3 rfl))
     | (apply z42;rfl)
     | (apply z94;rfl;rfl)
     | (apply z18;rfl;(with_reducible rfl);rfl)
     | (apply z16;rfl;(with_reducible rfl);rfl)
     | (apply z60;(iterate 3 rfl);exact List.getElem?_eq_getElem (by omega))
     | (apply z05 (hc:=qr5 s[n]);rfl;rfl;rfl)
     | (apply z05 (hc:=jy4 s[n]);rfl;rfl;rfl)
     | (apply z04;focus (repeat (first | exact z28 | (apply kq_c;rfl))))
     | apply z02
     | apply z00
     | apply z03
     | apply z09
     | apply z12
     | apply z15
     | apply z61
     | (apply z35;rfl;(with_reducible rfl))
     | (apply z14;rfl)
     | (apply z50;rfl;(with_reducible rfl))
     | (apply z48;rfl;(with_reducible rfl))
     | (apply z40;rfl)
     | with_reducible apply z64
     | with_reducible apply z63
     | (with_reducible apply zm4;intro hc)
     | (with_reducible apply zg8;intro hc)
     | (with_reducible apply z78;intro hc)
     | (with_reducible apply z57;intro hc)
     | (with_reducible apply zh7;intro hc)
     | (apply zb5;rfl)
    any_goals
     refine ⟨n+1,?_,rfl,⟨by omega,tkS (by omega) hall ?_⟩,by omega⟩
     · repeat' first
        | exact z28
        | refine z67 rfl ?_
     · simp [wcB,← UInt8.toNat_inj, *]<;>omega
    any_goals
     refine cb ?_
     simp only [zo6,h0]
     first
     | (rw [tkF (p:=wcB) (n:=n) (by omega) (by simp [wcB,← UInt8.toNat_inj, *]<;>omega)];simp;done)
     | (rw [tkE (by omega) hall];simp [wsB,← UInt8.toNat_inj, *]<;>omega)
end Go.Proofs.TryzL
namespace Go.Proofs.TryzL
open Go.Proofs.Lz
set_option maxHeartbeats 2000000
end Go.Proofs.TryzL
namespace Go.Proofs.TryzL
open Go.Proofs.Lz
def zf7 (s:List UInt8):Bool:=match s[0]? with
 | none=>false
 | some _=>decide (s.length≤64)&&s.all symB&&(decide (s.length=1)||decide (s.count 45<s.length))
theorem ctS {s:List UInt8} {n:Nat} (h:n<s.length):(s.take (n+1)).count 45=(s.take n).count 45+(if s[n]=45 then 1 else 0):=by
 rw [List.take_add_one,List.count_append,List.getElem?_eq_getElem h]
 by_cases e:s[n]=45
 · simp [e]
 · simp [e,List.count_cons]
set_option maxHeartbeats 2000000
theorem q86 (s:List UInt8) (hl:s.length<2^60):Rets Vv 91 [.c (.str s)] (.c (.bool (zf7 s))):=by
 refine z83 wx7 ?_
 cases h0:s[0]? with
 | none=>
   have:s=[]:=by cases s<;>simp_all
   subst this
   repeat' first
    | apply z01
    | exact z13
    | (apply z17;rfl;rfl)
    | apply z02
    | apply z00
    | apply z03
   refine q52 (fun _:Unit=>[]) (fun _ _=>False) (fun _=>0) ?_ (fun _ _ h=>h.elim)
   repeat' first
    | apply z01
    | exact z13
    | exact z19 rfl
    | (apply z17;rfl;rfl)
    | (apply z30;(iterate 3 rfl))
    | (apply z42;rfl)
    | (apply z18;rfl;(with_reducible rfl);rfl)
    | (apply z16;rfl;(with_reducible rfl);rfl)
    | (apply z04;focus (repeat (first | exact z28 | (apply kq_c;rfl))))
    | apply z02
    | apply z00
    | apply z03
    | apply z09
    | apply z12
    | apply z15
    | apply q38
    | (apply z39;rfl;(with_reducible rfl))
    | (apply z14;rfl)
    | (apply z50;rfl;(with_reducible rfl))
    | (apply z41;rfl;(with_reducible rfl))
    | (apply z40;rfl)
    | (with_reducible apply zs8;intro hc)
    | (with_reducible apply zi5;intro hc)
    | (with_reducible apply z78;intro hc)
    | (with_reducible apply z57;intro hc)
    | (apply zb5;rfl)
   all_goals first
    | rfl
    | (exfalso;simp_all;done)
 | some c=>
   have hne:s≠[]:=by intro e;rw [e] at h0;cases h0
   have hlen:0<s.length:=by cases s<;>simp_all
   repeat' first
    | apply z01
    | exact z13
    | (apply z17;rfl;rfl)
    | apply z02
    | apply z00
    | apply z03
   refine q52 (fun _:Unit=>[]) (fun _ _=>False) (fun _=>0) ?_ (fun _ _ h=>h.elim)
   repeat' first
    | apply z01
    | exact z13
    | exact z19 rfl
    | (apply z17;rfl;rfl)
    | (apply z30;(iterate 3 rfl))
    | (apply z42;rfl)
    | (apply z18;rfl;(with_reducible rfl);rfl)
    | (apply z16;rfl;(with_reducible rfl);rfl)
    | (apply z04;focus (repeat (first | exact z28 | (apply kq_c;rfl))))
    | apply z02
    | apply z00
    | apply z03
    | apply z09
    | apply z12
    | apply z15
    | apply q38
    | (apply z39;rfl;(with_reducible rfl))
    | (apply z14;rfl)
    | (apply z50;rfl;(with_reducible rfl))
    | (apply z41;rfl;(with_reducible rfl))
    | (apply z40;rfl)
    | (with_reducible apply zs8;intro hc)
    | (with_reducible apply zi5;intro hc)
    | (with_reducible apply z78;intro hc)
    | (with_reducible apply z57;intro hc)
    | (apply zb5;rfl)
   any_goals contradiction
   any_goals (refine cb ?_;simp [zf7,h0];omega)
   any_goals
    refine zk5 (fun n:Nat=>[(0,.c (.str s)),(3,.c (.int .i64 ((s.take n).count 45:Nat))),(4,.c (.int .i64 n))]) (fun n=>n≤s.length∧(s.take n).all symB=true) (fun n=>s.length - n) 0 ?_ ⟨by omega,tk0⟩ ?_
    · repeat' first
       | exact z28
       | refine z67 rfl ?_
    rintro n ⟨hn,hall⟩
    have hcn:(s.take n).count 45≤n:=by have:=List.count_le_length (a:=(45:UInt8)) (l:=s.take n);rw [List.length_take] at this;omega
    by_cases hns:n<s.length
    · repeat' first
       | apply z01
       | exact z13
       | exact z19 rfl
       | (apply z17;rfl;rfl)
       | (apply za3;rfl;rfl;omega)
       | (apply z30;(iterate 3 rfl))
       | (apply z42;rfl)
       | (apply z94;rfl;rfl)
       | (apply z18;rfl;(with_reducible rfl);rfl)
       | (apply z16;rfl;(with_reducible rfl);rfl)
       | (apply z60;(iterate 3 rfl);exact List.getElem?_eq_getElem (by omega))
       | (apply z05 (hc:=j50 s[n]);rfl;rfl;rfl)
       | (apply z04;focus (repeat (first | exact z28 | (apply kq_c;rfl))))
       | apply z02
       | apply z00
       | apply z03
       | apply z09
       | apply z12
       | apply z15
       | apply z61
       | (apply z14;rfl)
       | (apply z50;rfl;(with_reducible rfl))
       | (apply z41;rfl;(with_reducible rfl))
       | (apply z40;rfl)
       | with_reducible apply z64
       | with_reducible apply z63
       | (with_reducible apply za2;intro hc)
       | (with_reducible apply z73;intro hc)
       | (with_reducible apply zh7;intro hc)
       | (apply zb5;rfl)
      any_goals omega
      any_goals
       refine ⟨n+1,?_,rfl,⟨by omega,tkS (by omega) hall ?_⟩,by omega⟩
       · rw [ctS hns]
         have e1:(s[n]=45)↔((s[n].toNat:Int)=45):=by rw [← UInt8.toNat_inj];simp;omega
         simp only [e1, *,if_true,if_false]
         repeat' first
          | exact z28
          | refine z67 rfl ?_
       · simp [*]
      any_goals
       refine cb ?_
       simp only [zf7,h0]
       rw [tkF (p:=symB) (n:=n) hns (by simp [*])]
       simp
    · have hnl:n=s.length:=by omega
      subst hnl
      repeat' first
       | apply z01
       | exact z13
       | exact z19 rfl
       | (apply z17;rfl;rfl)
       | (apply z30;(iterate 3 rfl))
       | (apply z42;rfl)
       | (apply z18;rfl;(with_reducible rfl);rfl)
       | (apply z16;rfl;(with_reducible rfl);rfl)
       | (apply z60;(iterate 3 rfl);exact List.getElem?_eq_getElem (by omega))
       | (apply z04;focus (repeat (first | exact z28 | (apply kq_c;rfl))))
       | apply z02
       | apply z00
       | apply z03
       | apply z09
       | apply z12
       | apply z15
       | apply z61
       | (apply z14;rfl)
       | (apply z50;rfl;(with_reducible rfl))
       | (apply z41;rfl;(with_reducible rfl))
       | (apply z40;rfl)
       | (with_reducible apply za2;intro hc)
       | (with_reducible apply z73;intro hc)
       | (apply zb5;rfl)
      any_goals omega
      all_goals
       refine cb ?_
       simp only [zf7,h0]
       rw [List.take_length] at hall
       simp [*,List.take_length]
       try omega
end Go.Proofs.TryzL
