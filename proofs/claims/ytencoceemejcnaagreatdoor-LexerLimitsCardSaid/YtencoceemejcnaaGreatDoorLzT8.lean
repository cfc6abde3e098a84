/- Chapter 02: names: symbols. -/
import Derived.Test.YtencoceemejcnaaGreatDoorLzT3
set_option linter.unusedSimpArgs false
set_option linter.unusedVariables false
namespace Go.Proofs.TryzL
open Go.Proofs.Lz
def j29 (t:List UInt8):Bool:=decide (2≤t.length)&&t.all (·==45)
theorem jk8 {p:UInt8→Bool}:∀ l:List UInt8,l.dropWhile p=[]↔∀ x∈l,p x=true:=by
 intro l
 induction l with
 | nil=>simp
 | cons x l ih=>
   by_cases h:p x=true
   · rw [List.dropWhile_cons_of_pos h,ih];simp [h]
   · rw [List.dropWhile_cons_of_neg h];simp [h]
theorem jz3 (t:List UInt8):Lib.trimB t 45=[]↔∀ x∈t,x=45:=by
 unfold Lib.trimB Lib.trimLeftB Lib.trimRightB
 rw [jk8]
 constructor
 · intro h
   have h1:t.reverse.dropWhile (·==45)=[]:=by
    cases hd:t.reverse.dropWhile (·==45) with
    | nil=>rfl
    | cons a r=>
      have ha:=h a (by rw [hd];simp)
      have hn:=List.head_dropWhile_not (·==(45:UInt8)) (by rw [hd];simp:t.reverse.dropWhile (·==45)≠[])
      simp only [hd,List.head_cons] at hn
      rw [ha] at hn
      cases hn
   have:=(jk8 (p:=(·==(45:UInt8))) t.reverse).1 h1
   intro x hx
   simpa using this x (by simpa using hx)
 · intro h x hx
   have h1:t.reverse.dropWhile (·==45)=[]:=(jk8 (p:=(·==(45:UInt8))) t.reverse).2 (fun y hy=>by simpa using h y (by simpa using hy))
   rw [h1] at hx
   simp at hx
theorem jr1 (s:List UInt8) (h:s.length<2^60):Rets Vv 84 [.c (.str s),.c (.str [45])] (.c (.str (Lib.trimB s 45))):=by
 have h:=zs5 (V:=Vv) (f:=84) (xs:=[.str s,.str [45]]) (u:=.str (Lib.trimB s 45)) (g:=jh7) rfl rfl (by simp only [jh7];rw [if_pos ⟨by decide,by omega⟩])
 exact h
theorem j58 (t:List UInt8) (h:t.length<2^60):Rets Vv 52 [.c (.str t)] (.c (.bool (j29 t))):=by
 refine z92 wr9 ?_
 repeat' first
  | apply z01
  | exact z13
  | exact z18 rfl
  | (apply z17;rfl;rfl)
  | (apply z34;(iterate 3 rfl))
  | (apply z44;rfl)
  | (apply z16;rfl;(with_reducible rfl);rfl)
  | (apply z14;rfl;(with_reducible rfl);rfl)
  | (apply z05 (hc:=jr1 t h);rfl;rfl;rfl)
  | apply z02
  | apply z00
  | apply z04
  | apply z19
  | (apply z52;rfl;(with_reducible rfl))
  | (apply z43;rfl;(with_reducible rfl))
  | (apply z40;rfl)
  | (with_reducible apply z81;intro hc)
  | (with_reducible apply z60;intro hc)
  | (apply zd7;rfl)
 · refine cb ?_
   have h2:2≤t.length:=by omega
   simp [j29,h2,jz3]
 · refine cb ?_
   have h2:¬ 2≤t.length:=by omega
   simp [j29,h2]
def zk6 (s:Sc):Sc:=match s.src[s.pos]? with
 | none=>s
 | some c=>if c=10 then { s with pos:=s.pos+1,line:=s.line+1,col:=1 } else if c=9 then { s with pos:=s.pos+1,col:=s.col+(8 - (s.col - 1) % 8) } else { s with pos:=s.pos+1,col:=s.col+1 }
def q08:Nat→Sc→Sc
 | 0,s=>s
 | n+1,s=>q08 n (zk6 s)
theorem q38:∀ (n:Nat) (s:Sc),q08 (n+1) s=zk6 (q08 n s)
 | 0,s=>rfl
 | n+1,s=>by
   show q08 (n+1) (zk6 s)=_
   rw [q38 n (zk6 s)]
   rfl
structure ScOk (s:Sc):Prop where
 line:s.line≤s.pos+1
 col:s.col≤8 * s.pos+1
 col1:1≤s.col
theorem jy8 {s:Sc} (h:s.pos<s.src.length):(zk6 s).pos=s.pos+1∧(zk6 s).src=s.src:=by
 unfold zk6
 rw [List.getElem?_eq_getElem h]
 dsimp only
 split
 · exact ⟨rfl,rfl⟩
 · split<;>exact ⟨rfl,rfl⟩
theorem step_ok {s:Sc} (h:ScOk s):ScOk (zk6 s):=by
 unfold zk6
 cases hc:s.src[s.pos]? with
 | none=>exact h
 | some c=>
   dsimp only
   obtain ⟨h1,h2,h3⟩:=h
   split
   · exact ⟨by dsimp only;omega,by dsimp only;omega,by dsimp only;omega⟩
   · split
     · exact ⟨by dsimp only;omega,by dsimp only;omega,by dsimp only;omega⟩
     · exact ⟨by dsimp only;omega,by dsimp only;omega,by dsimp only;omega⟩
theorem wi6 {s:Sc} (h:ScOk s):∀ n,s.pos+n≤s.src.length→ScOk (q08 n s)∧(q08 n s).pos=s.pos+n∧(q08 n s).src=s.src:=by
 intro n
 induction n with
 | zero=>intro _;exact ⟨h,rfl,rfl⟩
 | succ n ih=>
   intro hn
   obtain ⟨h1,h2,h3⟩:=ih (by omega)
   rw [q38]
   obtain ⟨k1,k2⟩:=jy8 (s:=q08 n s) (by rw [h2,h3];omega)
   exact ⟨step_ok h1,by rw [k1,h2];omega,by rw [k2,h3]⟩
def KpH (id:Nat) (H H':z07):Prop:=∀ i o,i≠id→H[i]?=some o→H'[i]?=some o
theorem ji3 {H:z07} {id n:Nat} {s:Sc} (hH:H[id]?=some (.var (some 8) (scC s))) (hok:ScOk s) (hn:s.pos+n≤s.src.length) (hl:s.src.length<2^50) :
 Shr Vv 34 [.ptr id 0,.c (.int .i64 n)] H (.tup []) (fun H'=>H'[id]?=some (.var (some 8) (scC (q08 n s)))∧KpH id H H'):=by
 refine zm8 wr3 ?_
 repeat' first
  | apply z01
  | exact z13
  | (apply z17;rfl;rfl)
  | apply z02
  | apply z00
  | apply z04
  | apply z08
 refine zo7 (fun k:Nat=>[(0,.ptr id 0),(4,.c (.int .i64 n)),(5,.c (.int .i64 k))]) (fun k H'=>k≤n∧H'[id]?=some (.var (some 8) (scC (q08 k s)))∧KpH id H H') (fun k=>n - k) 0 ?_ ⟨by omega,hH,fun _ _ _ h=>h⟩ ?_
 · repeat' first
    | exact z29
    | refine z66 rfl ?_
 rintro k H1 ⟨hk,hH1,kp1⟩
 obtain ⟨⟨o1,o2,o3⟩,p1,p2⟩:=wi6 hok k (by omega)
 generalize hs':q08 k s=s' at *
 by_cases hkn:k<n
 · have hpos:s'.pos<s'.src.length:=by rw [p1,p2];omega
   have hg:s'.src[s'.pos]?=some s'.src[s'.pos]:=List.getElem?_eq_getElem hpos
   have kk:q08 (k+1) s=zk6 s':=by rw [q38,hs']
   repeat' first
    | apply z01
    | exact z13
    | exact z18 rfl
    | (apply z17;rfl;rfl)
    | (apply z96;rfl;rfl;omega)
    | (apply zu8;rfl;rfl;omega)
    | (apply z34;(iterate 3 rfl))
    | (apply z62;(iterate 3 rfl);assumption)
    | (apply z22;rfl;rfl)
    | (apply z06;rfl;rfl)
    | (apply z28;rfl;rfl)
    | (apply z09;rfl;rfl;(assumption);rfl)
    | (apply z95;(iterate 4 rfl);(assumption);rfl;rfl;intro H1 hH1 kH1)
    | (apply z03;focus (repeat (first | exact z29 | (apply kq_c;rfl) | (apply z49;rfl))))
    | apply z02
    | apply z00
    | apply z04
    | apply z08
    | apply z12
    | apply z58
    | (apply zb7;rfl)
    | apply z24
    | apply z48
    | (apply z15;rfl)
    | (apply z57;(exact rfl))
    | (with_reducible apply za1;intro hc)
    | (with_reducible apply z69;intro hc)
    | (with_reducible apply z81;intro hc)
    | (with_reducible apply z60;intro hc)
    | (apply z45;rfl)
    | (apply z47;rfl)
    | (apply q21;rfl)
    | (apply dand;rfl)
   · rename_i A1 A2 A3 B1 B2 B3
     refine ⟨k+1,?_,⟨by omega,?_,?_⟩,by omega⟩
     · repeat' first
        | exact z29
        | refine z66 rfl ?_
     · have h10:s'.src[s'.pos]=10:=UInt8.toNat_inj.1 (by simp;omega)
       rw [hH1,kk]
       simp [zk6,hg,h10,scC,zb5,WV.flat]
     · exact fun i o hi ho=>kH1 i o hi (B3 i o hi (A3 i o hi (kp1 i o hi ho)))
   · rename_i B1 B2 B3
     refine ⟨k+1,?_,⟨by omega,?_,?_⟩,by omega⟩
     · repeat' first
        | exact z29
        | refine z66 rfl ?_
     · have h9:s'.src[s'.pos]=9:=UInt8.toNat_inj.1 (by simp;omega)
       have hw:IntKind.i64.wrap (↑s'.col+IntKind.i64.wrap (8 - ((s'.col:Int) - 1).tmod 8))=((s'.col+(8 - (s'.col - 1) % 8):Nat):Int):=by
        have e1:((s'.col:Int) - 1).tmod 8=((s'.col - 1) % 8:Nat):=by
         rw [Int.tmod_eq_emod_of_nonneg (by omega)];omega
        have e2:IntKind.i64.wrap (8 - (((s'.col - 1) % 8:Nat):Int))=8 - (((s'.col - 1) % 8:Nat):Int):=wrap64 (by omega)
        rw [e1,e2,wrap64 (by omega)]
        omega
       rw [hH1,kk,hw]
       simp [zk6,hg,h9,scC,zb5,WV.flat]
     · exact fun i o hi ho=>kH1 i o hi (B3 i o hi (kp1 i o hi ho))
   · rename_i hc0 B1 B2 B3
     refine ⟨k+1,?_,⟨by omega,?_,?_⟩,by omega⟩
     · repeat' first
        | exact z29
        | refine z66 rfl ?_
     · have h10:s'.src[s'.pos]≠10:=fun e=>hc0 (by rw [e];rfl)
       have h9:s'.src[s'.pos]≠9:=fun e=>hc (by rw [e];rfl)
       rw [hH1,kk]
       simp [zk6,hg,h10,h9,scC,zb5,WV.flat]
     · exact fun i o hi ho=>kH1 i o hi (B3 i o hi (kp1 i o hi ho))
   all_goals omega
 · have hkn':k=n:=by omega
   subst hkn'
   repeat' first
    | apply z01
    | exact z13
    | exact z18 rfl
    | (apply z17;rfl;rfl)
    | (apply z96;rfl;rfl;omega)
    | (apply zu8;rfl;rfl;omega)
    | (apply z34;(iterate 3 rfl))
    | (apply z62;(iterate 3 rfl);exact List.getElem?_eq_getElem (by omega))
    | (apply z22;rfl;rfl)
    | (apply z06;rfl;rfl)
    | (apply z28;rfl;rfl)
    | (apply z09;rfl;rfl;(assumption);rfl)
    | (apply z95;(iterate 4 rfl);(assumption);rfl;rfl;intro H1 hH1 kH1)
    | (apply z03;focus (repeat (first | exact z29 | (apply kq_c;rfl) | (apply z49;rfl))))
    | apply z02
    | apply z00
    | apply z04
    | apply z08
    | apply z12
    | apply z58
    | (apply zb7;rfl)
    | apply z24
    | apply z48
    | (apply z15;rfl)
    | (apply z57;(exact rfl))
    | (with_reducible apply za1;intro hc)
    | (with_reducible apply z69;intro hc)
    | (with_reducible apply z81;intro hc)
    | (with_reducible apply z60;intro hc)
    | (apply z45;rfl)
    | (apply z47;rfl)
    | (apply q21;rfl)
    | (apply dand;rfl)
   all_goals first
    | omega
    | exact wu9 ⟨by rw [hs'];assumption,by assumption⟩
end Go.Proofs.TryzL
namespace Go.Proofs.TryzL
open Go.Proofs.Lz
def q61 (code:Nat) (nm:List UInt8) (s:Sc):Sc:=if s.code=0 then { s with code:=code,name:=nm,fl:=s.line,fc:=s.col } else s
theorem w59 {H:z07} {id code:Nat} {nm:List UInt8} {s:Sc} (hH:H[id]?=some (.var (some 8) (scC s))) :
 Shr Vv 36 [.ptr id 0,.c (.int .i64 code),.c (.str nm)] H (.c (.bool false)) (fun H'=>H'[id]?=some (.var (some 8) (scC (q61 code nm s)))∧KpH id H H'):=by
 refine zm8 wp8 ?_
 repeat' first
  | apply z01
  | exact z13
  | exact z18 rfl
  | (apply z17;rfl;rfl)
  | (apply z34;(iterate 3 rfl))
  | (apply z61;(iterate 3 rfl))
  | (apply z22;rfl;rfl)
  | (apply z06;rfl;rfl)
  | (apply z28;rfl;rfl)
  | (apply z09;rfl;rfl;(assumption);rfl)
  | (apply z95;(iterate 4 rfl);(assumption);rfl;rfl;intro H1 hH1 kH1)
  | (apply z03;focus (repeat (first | exact z29 | (apply kq_c;rfl) | (apply z49;rfl))))
  | apply z02
  | apply z00
  | apply z04
  | apply z12
  | apply z19
  | apply z24
  | apply z48
  | (apply z15;rfl)
  | (apply z57;(exact rfl))
  | (with_reducible apply za1;intro hc)
  | (with_reducible apply z69;intro hc)
  | (apply z45;rfl)
  | (apply z47;rfl)
  | (apply q21;rfl)
  | (apply dand;rfl)
 · have h0:s.code=0:=by omega
   refine zn6 rfl rfl ⟨?_,kH1⟩
   rw [hH1]
   simp [q61,h0,scC,zb5,WV.flat]
 · have h0:s.code≠0:=by omega
   exact zn6 rfl rfl ⟨by rw [q61,if_neg h0];exact hH,fun _ _ _ h=>h⟩
theorem jh8 {H:z07} {id:Nat} {t:List UInt8} {s:Sc} (hH:H[id]?=some (.var (some 8) (scC s))) (hl:t.length<2^60) :
 Shr Vv 32 [.ptr id 0,.c (.str t)] H (.c (.bool (decide (t.length≤64)))) (fun H'=>H'[id]?=some (.var (some 8) (scC (if t.length≤64 then s else q61 3 (t.take 64) s)))∧KpH id H H'):=by
 refine zm8 wv2 ?_
 repeat' first
  | apply z01
  | exact z13
  | exact z18 rfl
  | (apply z17;rfl;rfl)
  | (apply z34;(iterate 3 rfl))
  | (apply z44;rfl)
  | (apply z22;rfl;rfl)
  | (apply je1;rfl;rfl;omega;omega)
  | (apply z25 (hc:=⟨(w59 (code:=3) (nm:=t.take 64) hH).run⟩);rfl;rfl;(exact rfl);rfl;(exact z13);rintro H1 ⟨r1,k1⟩)
  | (apply z03;focus (repeat (first | exact z29 | (apply kq_c;rfl) | (apply z49;rfl))))
  | apply z02
  | apply z00
  | apply z04
  | apply z12
  | apply z19
  | (apply z15;rfl)
  | (with_reducible apply z81;intro hc)
  | (with_reducible apply z60;intro hc)
 · have h0:¬ t.length≤64:=by omega
   refine zn6 rfl (by simp [h0]) ⟨?_,k1⟩
   rw [if_neg h0];exact r1
 · have h0:t.length≤64:=by omega
   exact zn6 rfl (by simp [h0]) ⟨by rw [if_pos h0];exact hH,fun _ _ _ h=>h⟩
end Go.Proofs.TryzL
namespace Go.Proofs.TryzL
open Go.Proofs.Lz
def rsymL:List (List UInt8):=[[46,46],[58,58],[61],[92],[124],[60,45],[45,62],[64],[126],[61,62]]
def rwordL:List (List UInt8):=[[97,115],[99,97,115,101],[99,108,97,115,115],[100,97,116,97],[100,101,114,105,118,105,110,103],[100,111],[101,108,115,101],[104,105,100,105,110,103],[105,102],[105,109,112,111,114,116],[105,110],[105,110,102,105,120],[105,110,102,105,120,108],[105,110,102,105,120,114],[105,110,115,116,97,110,99,101],[108,101,116],[109,111,100,117,108,101],[111,102],[113,117,97,108,105,102,105,101,100],[116,104,101,110],[119,104,101,114,101],[95]]
theorem zg1 (s:List UInt8):Rets Vv 88 [.c (.str s)] (.c (.bool (rsymL.contains s))):=by
 refine z92 wt1 ?_
 repeat' first
  | apply z01
  | exact z13
  | (apply z17;rfl;rfl)
  | (apply z34;(iterate 3 rfl))
  | (apply z03;focus (repeat (first | exact z29 | (apply kq_c;rfl))))
  | apply z02
  | apply z00
  | apply z04
  | apply z08
  | apply z12
  | apply z19
  | (apply z41;rfl;(with_reducible rfl))
  | (apply z15;rfl)
  | (with_reducible apply zx3;intro hc)
  | (with_reducible apply zk8;intro hc)
  | (apply zd7;rfl)
 all_goals (refine cb ?_;simp_all [rsymL])
set_option maxHeartbeats 4000000 in
theorem zi9 (s:List UInt8):Rets Vv 87 [.c (.str s)] (.c (.bool (rwordL.contains s))):=by
 refine z92 wp4 ?_
 repeat' first
  | apply z01
  | exact z13
  | (apply z17;rfl;rfl)
  | (apply z34;(iterate 3 rfl))
  | (apply z03;focus (repeat (first | exact z29 | (apply kq_c;rfl))))
  | apply z02
  | apply z00
  | apply z04
  | apply z08
  | apply z12
  | apply z19
  | (apply z41;rfl;(with_reducible rfl))
  | (apply z15;rfl)
  | (with_reducible apply zx3;intro hc)
  | (with_reducible apply zk8;intro hc)
  | (apply zd7;rfl)
 all_goals (refine cb ?_;simp_all [rwordL])
end Go.Proofs.TryzL
namespace Go.Proofs.TryzL
open Go.Proofs.Lz
def ql4 (c:UInt8):Bool:=upperB c||decide (97≤c.toNat∧c.toNat≤122)
theorem qj5 (c:UInt8):Rets Vv 90 [.c (bC c)] (.c (.bool (upperB c))):=by
 refine z92 wu4 ?_
 repeat' first
  | apply z01
  | exact z13
  | exact z18 rfl
  | (apply z17;rfl;rfl)
  | (apply z34;(iterate 3 rfl))
  | (apply z16;rfl;(with_reducible rfl);rfl)
  | (apply z14;rfl;(with_reducible rfl);rfl)
  | apply z02
  | apply z00
  | apply z04
  | apply z19
  | (apply z52;rfl;(with_reducible rfl))
  | (apply z43;rfl;(with_reducible rfl))
  | (apply z40;rfl)
  | (with_reducible apply z81;intro hc)
  | (with_reducible apply z60;intro hc)
  | (apply zd7;rfl)
 all_goals (refine cb ?_;simp [upperB];omega)
theorem w21 (c:UInt8):Rets Vv 115 [.c (bC c)] (.c (.bool (z94 c))):=by
 refine z92 wh7 ?_
 repeat' first
  | apply z01
  | exact z13
  | exact z18 rfl
  | (apply z17;rfl;rfl)
  | (apply z34;(iterate 3 rfl))
  | (apply z16;rfl;(with_reducible rfl);rfl)
  | (apply z14;rfl;(with_reducible rfl);rfl)
  | apply z02
  | apply z00
  | apply z04
  | apply z19
  | (apply z52;rfl;(with_reducible rfl))
  | (apply z43;rfl;(with_reducible rfl))
  | (apply z40;rfl)
  | (with_reducible apply z81;intro hc)
  | (with_reducible apply z60;intro hc)
  | (apply zd7;rfl)
 all_goals (refine cb ?_;simp [z94];omega)
theorem qp7 (c:UInt8):Rets Vv 114 [.c (bC c)] (.c (.bool (ql4 c))):=by
 refine z92 wl0 ?_
 repeat' first
  | apply z01
  | exact z13
  | exact z18 rfl
  | (apply z17;rfl;rfl)
  | (apply z34;(iterate 3 rfl))
  | (apply z16;rfl;(with_reducible rfl);rfl)
  | (apply z14;rfl;(with_reducible rfl);rfl)
  | (apply z05 (hc:=qj5 c);rfl;rfl;rfl)
  | apply z02
  | apply z00
  | apply z04
  | apply z19
  | (apply z52;rfl;(with_reducible rfl))
  | (apply z43;rfl;(with_reducible rfl))
  | (apply z42;rfl;(with_reducible rfl))
  | (apply zj4;rfl)
  | (apply z40;rfl)
  | (with_reducible apply z81;intro hc)
  | (with_reducible apply z60;intro hc)
  | (with_reducible apply zf9;intro hc)
  | (apply zd7;rfl)
 all_goals (refine cb ?_;simp [ql4, *])
 all_goals omega
theorem j03 (c:UInt8):Rets Vv 116 [.c (bC c)] (.c (.bool (symB c))):=by
 refine z92 wn8 ?_
 repeat' first
  | apply z01
  | exact z13
  | (apply z17;rfl;rfl)
  | (apply z34;(iterate 3 rfl))
  | (apply z05 (hc:=zw7 symS c);rfl;rfl;rfl)
  | apply z02
  | apply z00
  | apply z04
  | apply z19
  | (apply zd7;rfl)
 rw [q13]
 rfl
def wcB (c:UInt8):Bool:=ql4 c||z94 c||c==95||c==39
def wsB (c:UInt8):Bool:=ql4 c||c==95
def qa9 (s:List UInt8):Bool:=match s[0]? with
 | none=>false
 | some c=>decide (s.length≤64)&&wsB c&&s.all wcB
theorem u8eq {c:UInt8} {n:Nat} (hn:n<256):((c.toNat:Int)=(n:Int))↔c=UInt8.ofNat n:=by
 constructor
 · intro h
   have h1:c.toNat=n:=by omega
   apply UInt8.toNat_inj.1
   rw [h1]
   simp
   omega
 · intro h
   subst h
   simp
   omega
theorem tk0 {α:Type} {s:List α} {p:α→Bool}:(s.take 0).all p=true:=by simp
theorem tkS {α:Type} {s:List α} {p:α→Bool} {n:Nat} (h:n<s.length) (h1:(s.take n).all p=true) (h2:p s[n]=true):(s.take (n+1)).all p=true:=by
 rw [List.take_add_one,List.all_append,h1,List.getElem?_eq_getElem h]
 simpa using h2
theorem tkE {α:Type} {s:List α} {p:α→Bool} {n:Nat} (h:s.length≤n) (h1:(s.take n).all p=true):s.all p=true:=by rwa [List.take_of_length_le h] at h1
theorem tkF {α:Type} {s:List α} {p:α→Bool} {n:Nat} (h:n<s.length) (h2:p s[n]=false):s.all p=false:=by
 rw [List.all_eq_false]
 exact ⟨s[n],List.getElem_mem h,by rw [h2];simp⟩
set_option maxHeartbeats 2000000
theorem qi9 (s:List UInt8) (hl:s.length<2^60):Rets Vv 89 [.c (.str s)] (.c (.bool (qa9 s))):=by
 refine z92 wr8 ?_
 cases h0:s[0]? with
 | none=>
   have:s=[]:=by cases s<;>simp_all
   subst this
   repeat' first
    | apply z01
    | exact z13
    | exact z18 rfl
    | (apply z17;rfl;rfl)
    | (apply z34;(iterate 3 rfl))
    | (apply z44;rfl)
    | (apply z16;rfl;(with_reducible rfl);rfl)
    | (apply z14;rfl;(with_reducible rfl);rfl)
    | (apply z03;focus (repeat (exact z29)))
    | apply z02
    | apply z00
    | apply z04
    | apply z19
    | (apply z41;rfl;(with_reducible rfl))
    | (apply z52;rfl;(with_reducible rfl))
    | (apply z42;rfl;(with_reducible rfl))
    | (apply zj4;rfl)
    | (apply z40;rfl)
    | (with_reducible apply zx3;intro hc)
    | (with_reducible apply zk8;intro hc)
    | (with_reducible apply z81;intro hc)
    | (with_reducible apply z60;intro hc)
    | (apply zd7;rfl)
   all_goals first
    | rfl
    | (exfalso;simp_all;done)
 | some c=>
   have hne:s≠[]:=by intro e;rw [e] at h0;cases h0
   repeat' first
    | apply z01
    | exact z13
    | exact z18 rfl
    | (apply z17;rfl;rfl)
    | (apply z34;(iterate 3 rfl))
    | (apply z44;rfl)
    | (apply z93;rfl;rfl)
    | (apply z16;rfl;(with_reducible rfl);rfl)
    | (apply z14;rfl;(with_reducible rfl);rfl)
    | (apply z62;(iterate 3 rfl);assumption)
    | (apply z05 (hc:=qp7 c);rfl;rfl;rfl)
    | (apply z03;focus (repeat (first | exact z29 | (apply kq_c;rfl))))
    | apply z02
    | apply z00
    | apply z04
    | apply z08
    | apply z12
    | apply z19
    | (apply z41;rfl;(with_reducible rfl))
    | (apply z38;rfl;(with_reducible rfl))
    | (apply z15;rfl)
    | (apply z52;rfl;(with_reducible rfl))
    | (apply z43;rfl;(with_reducible rfl))
    | (apply z42;rfl;(with_reducible rfl))
    | (apply zj4;rfl)
    | (apply z40;rfl)
    | with_reducible apply z65
    | with_reducible apply z64
    | (with_reducible apply zx3;intro hc)
    | (with_reducible apply zk8;intro hc)
    | (with_reducible apply zn8;intro hc)
    | (with_reducible apply zi4;intro hc)
    | (with_reducible apply z81;intro hc)
    | (with_reducible apply z60;intro hc)
    | (with_reducible apply zf9;intro hc)
    | (apply zd7;rfl)
   any_goals contradiction
   any_goals (refine cb ?_;simp [qa9,h0];omega)
   any_goals (refine cb ?_;simp [qa9,wsB,h0,← UInt8.toNat_inj, *];omega)
   any_goals
    refine zm2 (fun n:Nat=>[(0,.c (.str s)),(3,.c (.int .i64 n))]) (fun n=>n≤s.length∧(s.take n).all wcB=true) (fun n=>s.length - n) 0 ?_ ⟨by omega,tk0⟩ ?_
    · repeat' first
       | exact z29
       | refine z66 rfl ?_
    rintro n ⟨hn,hall⟩
    repeat' first
     | apply z01
     | exact z13
     | exact z18 rfl
     | (apply z17;rfl;rfl)
     | (apply z96;rfl;rfl;omega)
     | (apply z34;(iterate 3 rfl))
     | (apply z44;rfl)
     | (apply z93;rfl;rfl)
     | (apply z16;rfl;(with_reducible rfl);rfl)
     | (apply z14;rfl;(with_reducible rfl);rfl)
     | (apply z62;(iterate 3 rfl);exact List.getElem?_eq_getElem (by omega))
     | (apply z05 (hc:=qp7 s[n]);rfl;rfl;rfl)
     | (apply z05 (hc:=w21 s[n]);rfl;rfl;rfl)
     | (apply z03;focus (repeat (first | exact z29 | (apply kq_c;rfl))))
     | apply z02
     | apply z00
     | apply z04
     | apply z08
     | apply z12
     | apply z19
     | apply z58
     | (apply z38;rfl;(with_reducible rfl))
     | (apply z15;rfl)
     | (apply z52;rfl;(with_reducible rfl))
     | (apply z43;rfl;(with_reducible rfl))
     | (apply z40;rfl)
     | with_reducible apply z65
     | with_reducible apply z64
     | (with_reducible apply zn8;intro hc)
     | (with_reducible apply zi4;intro hc)
     | (with_reducible apply z81;intro hc)
     | (with_reducible apply z60;intro hc)
     | (with_reducible apply zf9;intro hc)
     | (apply zd7;rfl)
    any_goals
     refine ⟨n+1,?_,rfl,⟨by omega,tkS (by omega) hall ?_⟩,by omega⟩
     · repeat' first
        | exact z29
        | refine z66 rfl ?_
     · simp [wcB,← UInt8.toNat_inj, *]<;>omega
    any_goals
     refine cb ?_
     simp only [qa9,h0]
     first
     | (rw [tkF (p:=wcB) (n:=n) (by omega) (by simp [wcB,← UInt8.toNat_inj, *]<;>omega)];simp;done)
     | (rw [tkE (by omega) hall];simp [wsB,← UInt8.toNat_inj, *]<;>omega)
end Go.Proofs.TryzL
namespace Go.Proofs.TryzL
open Go.Proofs.Lz
set_option maxHeartbeats 2000000
end Go.Proofs.TryzL
namespace Go.Proofs.TryzL
open Go.Proofs.Lz
def zv4 (s:List UInt8):Bool:=match s[0]? with
 | none=>false
 | some _=>decide (s.length≤64)&&s.all symB&&(decide (s.length=1)||decide (s.count 45<s.length))
theorem ctS {s:List UInt8} {n:Nat} (h:n<s.length):(s.take (n+1)).count 45=(s.take n).count 45+(if s[n]=45 then 1 else 0):=by
 rw [List.take_add_one,List.count_append,List.getElem?_eq_getElem h]
 by_cases e:s[n]=45
 · simp [e]
 · simp [e,List.count_cons]
set_option maxHeartbeats 2000000
theorem q70 (s:List UInt8) (hl:s.length<2^60):Rets Vv 91 [.c (.str s)] (.c (.bool (zv4 s))):=by
 refine z92 wu1 ?_
 cases h0:s[0]? with
 | none=>
   have:s=[]:=by cases s<;>simp_all
   subst this
   repeat' first
    | apply z01
    | exact z13
    | (apply z17;rfl;rfl)
    | apply z02
    | apply z00
    | apply z04
   refine q22 (fun _:Unit=>[]) (fun _ _=>False) (fun _=>0) ?_ (fun _ _ h=>h.elim)
   repeat' first
    | apply z01
    | exact z13
    | exact z18 rfl
    | (apply z17;rfl;rfl)
    | (apply z34;(iterate 3 rfl))
    | (apply z44;rfl)
    | (apply z16;rfl;(with_reducible rfl);rfl)
    | (apply z14;rfl;(with_reducible rfl);rfl)
    | (apply z03;focus (repeat (first | exact z29 | (apply kq_c;rfl))))
    | apply z02
    | apply z00
    | apply z04
    | apply z08
    | apply z12
    | apply z19
    | apply q26
    | (apply z41;rfl;(with_reducible rfl))
    | (apply z15;rfl)
    | (apply z52;rfl;(with_reducible rfl))
    | (apply z42;rfl;(with_reducible rfl))
    | (apply z40;rfl)
    | (with_reducible apply zx3;intro hc)
    | (with_reducible apply zk8;intro hc)
    | (with_reducible apply z81;intro hc)
    | (with_reducible apply z60;intro hc)
    | (apply zd7;rfl)
   all_goals first
    | rfl
    | (exfalso;simp_all;done)
 | some c=>
   have hne:s≠[]:=by intro e;rw [e] at h0;cases h0
   have hlen:0<s.length:=by cases s<;>simp_all
   repeat' first
    | apply z01
    | exact z13
    | (apply z17;rfl;rfl)
    | apply z02
    | apply z00
    | apply z04
   refine q22 (fun _:Unit=>[]) (fun _ _=>False) (fun _=>0) ?_ (fun _ _ h=>h.elim)
   repeat' first
    | apply z01
    | exact z13
    | exact z18 rfl
    | (apply z17;rfl;rfl)
    | (apply z34;(iterate 3 rfl))
    | (apply z44;rfl)
    | (apply z16;rfl;(with_reducible rfl);rfl)
    | (apply z14;rfl;(with_reducible rfl);rfl)
    | (apply z03;focus (repeat (first | exact z29 | (apply kq_c;rfl))))
    | apply z02
    | apply z00
    | apply z04
    | apply z08
    | apply z12
    | apply z19
    | apply q26
    | (apply z41;rfl;(with_reducible rfl))
    | (apply z15;rfl)
    | (apply z52;rfl;(with_reducible rfl))
    | (apply z42;rfl;(with_reducible rfl))
    | (apply z40;rfl)
    | (with_reducible apply zx3;intro hc)
    | (with_reducible apply zk8;intro hc)
    | (with_reducible apply z81;intro hc)
    | (with_reducible apply z60;intro hc)
    | (apply zd7;rfl)
   any_goals contradiction
   any_goals (refine cb ?_;simp [zv4,h0];omega)
   any_goals
    refine zm2 (fun n:Nat=>[(0,.c (.str s)),(3,.c (.int .i64 ((s.take n).count 45:Nat))),(4,.c (.int .i64 n))]) (fun n=>n≤s.length∧(s.take n).all symB=true) (fun n=>s.length - n) 0 ?_ ⟨by omega,tk0⟩ ?_
    · repeat' first
       | exact z29
       | refine z66 rfl ?_
    rintro n ⟨hn,hall⟩
    have hcn:(s.take n).count 45≤n:=by have:=List.count_le_length (a:=(45:UInt8)) (l:=s.take n);rw [List.length_take] at this;omega
    by_cases hns:n<s.length
    · repeat' first
       | apply z01
       | exact z13
       | exact z18 rfl
       | (apply z17;rfl;rfl)
       | (apply z96;rfl;rfl;omega)
       | (apply z34;(iterate 3 rfl))
       | (apply z44;rfl)
       | (apply z93;rfl;rfl)
       | (apply z16;rfl;(with_reducible rfl);rfl)
       | (apply z14;rfl;(with_reducible rfl);rfl)
       | (apply z62;(iterate 3 rfl);exact List.getElem?_eq_getElem (by omega))
       | (apply z05 (hc:=j03 s[n]);rfl;rfl;rfl)
       | (apply z03;focus (repeat (first | exact z29 | (apply kq_c;rfl))))
       | apply z02
       | apply z00
       | apply z04
       | apply z08
       | apply z12
       | apply z19
       | apply z58
       | (apply z15;rfl)
       | (apply z52;rfl;(with_reducible rfl))
       | (apply z42;rfl;(with_reducible rfl))
       | (apply z40;rfl)
       | with_reducible apply z65
       | with_reducible apply z64
       | (with_reducible apply za1;intro hc)
       | (with_reducible apply z69;intro hc)
       | (with_reducible apply zf9;intro hc)
       | (apply zd7;rfl)
      any_goals omega
      any_goals
       refine ⟨n+1,?_,rfl,⟨by omega,tkS (by omega) hall ?_⟩,by omega⟩
       · rw [ctS hns]
         have e1:(s[n]=45)↔((s[n].toNat:Int)=45):=by rw [← UInt8.toNat_inj];simp;omega
         simp only [e1, *,if_true,if_false]
         repeat' first
          | exact z29
          | refine z66 rfl ?_
       · simp [*]
      any_goals
       refine cb ?_
       simp only [zv4,h0]
       rw [tkF (p:=symB) (n:=n) hns (by simp [*])]
       simp
    · have hnl:n=s.length:=by omega
      subst hnl
      repeat' first
       | apply z01
       | exact z13
       | exact z18 rfl
       | (apply z17;rfl;rfl)
       | (apply z34;(iterate 3 rfl))
       | (apply z44;rfl)
       | (apply z16;rfl;(with_reducible rfl);rfl)
       | (apply z14;rfl;(with_reducible rfl);rfl)
       | (apply z62;(iterate 3 rfl);exact List.getElem?_eq_getElem (by omega))
       | (apply z03;focus (repeat (first | exact z29 | (apply kq_c;rfl))))
       | apply z02
       | apply z00
       | apply z04
       | apply z08
       | apply z12
       | apply z19
       | apply z58
       | (apply z15;rfl)
       | (apply z52;rfl;(with_reducible rfl))
       | (apply z42;rfl;(with_reducible rfl))
       | (apply z40;rfl)
       | (with_reducible apply za1;intro hc)
       | (with_reducible apply z69;intro hc)
       | (apply zd7;rfl)
      any_goals omega
      all_goals
       refine cb ?_
       simp only [zv4,h0]
       rw [List.take_length] at hall
       simp [*,List.take_length]
       try omega
end Go.Proofs.TryzL
