/- Chapter 02: the row and the card about limits. A source that is too long gives the fault for length, whatever it is, and there are never more tokens than the limit. -/
import Derived.Test.YtencoceemejcnaaGreatDoorLzT56
import Derived.Test.YtencoceemejcnaaGreatDoorLzT34
set_option linter.unusedSimpArgs false
set_option linter.unusedVariables false
namespace Go.Proofs.TryzL
open Go.Proofs.Lz
set_option maxHeartbeats 4000000
theorem wr7 (p:List UInt8) (n:Nat) (hp:p.length≤9223372036854775807) (h1:n≤70000) (h2:p.length≤100) (h3:n * p.length≤200000):Rets Vv 4 [.c (.str p),.c (.int .i64 n)] (.c (.bool true)):=by
 refine z92 vfn4 ?_
 have hm:(n:Int) * (p.length:Int)=((n * p.length:Nat):Int):=by simp
 have hlen:=qm7 p n
 have h11:=wp6 (repB p n) (by omega)
 repeat' first
  | apply z01
  | exact z13
  | exact z18 rfl
  | (apply z17;rfl;rfl)
  | (apply qh9;rfl;rfl;omega)
  | (apply z34;(iterate 3 rfl))
  | (apply z44;rfl)
  | (apply z16;rfl;(with_reducible rfl);rfl)
  | (apply z14;rfl;(with_reducible rfl);rfl)
  | (apply z56;rfl;rfl)
  | (apply z05 (hc:=zy5);rfl;rfl;rfl)
  | (apply z03;focus (repeat (first | exact z29 | (apply kq_c;rfl))))
  | apply z02
  | apply z00
  | apply z04
  | apply z08
  | apply z12
  | apply z19
  | (apply z41;rfl;(with_reducible rfl))
  | (apply z15;rfl)
  | (apply z52;rfl;(with_reducible rfl))
  | (apply z42;rfl;(with_reducible rfl))
  | (apply z40;rfl)
  | (with_reducible apply z81;intro hc)
  | (with_reducible apply z60;intro hc)
  | (apply zd7;rfl)
 try any_goals (exfalso;omega)
 refine zm2 (fun k:Nat=>[(0,.c (.str p)),(5,bufW (repB p k)),(27,.c (.int .i64 n)),(28,.c (.int .i64 k))]) (fun k=>k≤n) (fun k=>n - k) 0 ?_ (Nat.zero_le _) ?_
 · repeat' first
    | exact z29
    | refine z66 rfl ?_
 rintro k hk
 by_cases hkn:k<n
 · have hS:=wk8 p k
   have hkl:=qm7 p k
   have hkm:k * p.length≤n * p.length:=Nat.mul_le_mul_right _ (by omega)
   generalize repB p k=b at *
   generalize hb':repB p (k+1)=b' at *
   cases b with
   | nil=>
     cases p with
     | nil=>
       repeat' first
        | apply z01
        | exact z13
        | exact z18 rfl
        | (apply z17;rfl;rfl)
        | (apply z96;rfl;rfl;omega)
        | (apply z34;(iterate 3 rfl))
        | (apply z56;rfl;rfl)
        | (apply j16;rfl;rfl)
        | (apply z03;focus (repeat (first | exact z29 | (apply kq_c;rfl) | (apply za3;rfl))))
        | apply z02
        | apply z00
        | apply z04
        | apply z08
        | apply z12
        | apply z58
        | (apply z15;rfl)
        | (with_reducible apply z81;intro hc)
        | (with_reducible apply z60;intro hc)
       try any_goals (exfalso;omega)
       refine ⟨k+1,?_,rfl,by omega,by omega⟩
       rw [hb',hS]
       repeat' first
        | exact z29
        | refine z66 rfl ?_
     | cons c r=>
       have hr:r.length+1≤100:=h2
       have hrb:(bytesV r).length=r.length:=by simp [bytesV]
       repeat' first
        | apply z01
        | exact z13
        | exact z18 rfl
        | exact zj3 rfl rfl
        | (apply z17;rfl;rfl)
        | (apply z96;rfl;rfl;omega)
        | (apply z34;(iterate 3 rfl))
        | (apply z56;rfl;rfl)
        | (apply zc5;(iterate 3 rfl))
        | (apply q46;rfl;rfl;(simp only [List.length_map,List.length_cons,List.length_nil,List.length_append,List.length_replicate];omega))
        | (apply z03;focus (repeat (first | exact z29 | (apply kq_c;rfl) | (apply za3;rfl))))
        | apply z02
        | apply z00
        | apply z04
        | apply z08
        | apply z12
        | apply z58
        | (apply z15;rfl)
        | (with_reducible apply z81;intro hc)
        | (with_reducible apply z60;intro hc)
       try any_goals (exfalso;omega)
       refine ⟨k+1,?_,rfl,by omega,by omega⟩
       rw [hb',hS]
       repeat' first
        | exact z29
        | refine z66 rfl ?_
   | cons x y=>
     have hxy:(bytesV (x::y)).length=(x::y).length:=by simp [bytesV]
     have hpl:(bytesV p).length=p.length:=by simp [bytesV]
     repeat' first
      | apply z01
      | exact z13
      | exact z18 rfl
      | exact zj3 rfl rfl
      | (apply z17;rfl;rfl)
      | (apply z96;rfl;rfl;omega)
      | (apply z34;(iterate 3 rfl))
      | (apply zc5;(iterate 3 rfl))
      | (apply z99;(iterate 3 rfl))
      | (apply zi6;rfl;rfl;(omega))
      | (apply z03;focus (repeat (first | exact z29 | (apply kq_c;rfl) | (apply zb8;rfl;rfl))))
      | apply z02
      | apply z00
      | apply z04
      | apply z08
      | apply z12
      | apply z58
      | (apply z15;rfl)
      | (with_reducible apply z81;intro hc)
      | (with_reducible apply z60;intro hc)
     try any_goals (exfalso;omega)
     refine ⟨k+1,?_,rfl,by omega,by omega⟩
     rw [hb',hS]
     have e:bufW (x::y++p)=.own true 5 none (bytesV (x::y)++bytesV p):=by rw [← jo9];rfl
     rw [e]
     repeat' first
      | exact z29
      | refine z66 rfl ?_
 · have e:k=n:=by omega
   subst e
   have hkl:=qm7 p k
   have hg:=jg5 (repB p k) _ 0 [] (Nat.le_refl _) (Nat.zero_le _)
   have hall:qb1 (repB p k)=if 65536<(repB p k).length then .bad 3 [] 0 0 else lexU (repB p k) 0 []:=rfl
   generalize repB p k=b at *
   by_cases hbl:65536<b.length
   · rw [if_pos hbl] at hall
     rw [hall] at h11
     unfold lexR fltC at h11
     cases b with
     | nil=>simp at hbl
     | cons x y=>
       have hxy:(bytesV (x::y)).length=(x::y).length:=by simp [bytesV]
       have hbc:zd6 (bytesV (x::y))=some (x::y):=j62 _
       repeat' first
        | apply z01
        | exact z13
        | exact z18 rfl
        | exact qr0 rfl
        | exact zj3 rfl rfl
        | (apply z17;rfl;rfl)
        | (apply z83;(iterate 3 rfl))
        | (apply z96;rfl;rfl;omega)
        | (apply zs9;rfl;assumption)
        | (apply z34;(iterate 3 rfl))
        | (apply zw4;rfl)
        | (apply z98;rfl)
        | (apply qs4;(iterate 3 rfl))
        | (apply z16;rfl;(with_reducible rfl);rfl)
        | (apply z14;rfl;(with_reducible rfl);rfl)
        | (apply z61;(iterate 3 rfl))
        | (apply zc5;(iterate 3 rfl))
        | (apply z99;(iterate 3 rfl))
        | (apply za7;rfl;exact q58 rfl)
        | (apply z50;(iterate 3 rfl))
        | (apply zf7;rfl;rfl;first | exact za2 (by first | exact rfl | assumption | exact z23 (by assumption)) | exact zb6 (by first | exact rfl | assumption | exact z23 (by assumption)))
        | (apply z27;(iterate 4 rfl);exact z30 (by first | exact rfl | assumption | exact z23 (by assumption)))
        | (apply z87;rfl;rfl)
        | (apply zi6;rfl;rfl;(omega))
        | (apply z05 (hc:=h11);rfl;rfl;rfl)
        | (apply z05 (hc:=zy5);rfl;rfl;rfl)
        | (apply z03;focus (repeat (first | exact z29 | (apply kq_c;rfl) | (apply zb8;rfl;rfl) | (apply z39;rfl))))
        | apply z02
        | apply z00
        | apply z04
        | apply z08
        | apply z12
        | apply z19
        | apply z58
        | (apply z15;rfl)
        | (apply z52;rfl;(with_reducible rfl))
        | (apply z43;rfl;(with_reducible rfl))
        | (apply z42;rfl;(with_reducible rfl))
        | (apply zj4;rfl)
        | (apply z40;rfl)
        | (with_reducible apply za1;intro hc)
        | (with_reducible apply z69;intro hc)
        | (with_reducible apply z81;intro hc)
        | (with_reducible apply z60;intro hc)
        | (with_reducible apply zf9;intro hc)
        | (apply zd7;rfl)
       all_goals first | rfl | (exfalso;omega) | exact absurd hc (by decide) | trace_state
   · rw [if_neg hbl] at hall
     rw [hall] at h11
     have hnil:b=[]→lexU b 0 []=.ok []:=by intro e;subst e;exact zw8 (by simp)
     generalize lexU b 0 []=r at *
     have e0:([]:List CV).length=0:=rfl
     cases b with
     | nil=>
       have hbc:zd6 []=some []:=rfl
       have hr0:r=.ok []:=hnil rfl
       subst hr0
       unfold lexR zF tksF at h11
       repeat' first
        | apply z01
        | exact z13
        | exact z18 rfl
        | exact qr0 rfl
        | (apply z17;rfl;rfl)
        | (apply z83;(iterate 3 rfl))
        | (apply zs9;rfl;assumption)
        | (apply z34;(iterate 3 rfl))
        | (apply zw4;rfl)
        | (apply zg6;rfl)
        | (apply qs4;(iterate 3 rfl))
        | (apply z16;rfl;(with_reducible rfl);rfl)
        | (apply z14;rfl;(with_reducible rfl);rfl)
        | (apply z61;(iterate 3 rfl))
        | (apply z56;rfl;rfl)
        | (apply za7;rfl;exact q58 rfl)
        | (apply z50;(iterate 3 rfl))
        | (apply zf7;rfl;rfl;first | exact za2 (by first | exact rfl | assumption | exact z23 (by assumption)) | exact zb6 (by first | exact rfl | assumption | exact z23 (by assumption)))
        | (apply z27;(iterate 4 rfl);exact z30 (by first | exact rfl | assumption | exact z23 (by assumption)))
        | (apply z87;rfl;rfl)
        | (apply z05 (hc:=h11);rfl;rfl;rfl)
        | (apply z05 (hc:=zy5);rfl;rfl;rfl)
        | (apply z03;focus (repeat (first | exact z29 | (apply kq_c;rfl) | (apply za3;rfl) | (apply z39;rfl))))
        | apply z02
        | apply z00
        | apply z04
        | apply z08
        | apply z12
        | apply z19
        | apply z58
        | (apply z15;rfl)
        | (apply z52;rfl;(with_reducible rfl))
        | (apply z43;rfl;(with_reducible rfl))
        | (apply z42;rfl;(with_reducible rfl))
        | (apply zj4;rfl)
        | (apply z40;rfl)
        | (with_reducible apply za1;intro hc)
        | (with_reducible apply z69;intro hc)
        | (with_reducible apply z81;intro hc)
        | (with_reducible apply z60;intro hc)
        | (with_reducible apply zf9;intro hc)
        | (apply zd7;rfl)
       all_goals first | rfl | (exfalso;omega) | exact absurd hc (by decide) | trace_state
     | cons x y=>
       have hxy:(bytesV (x::y)).length=(x::y).length:=by simp [bytesV]
       have hbc:zd6 (bytesV (x::y))=some (x::y):=j62 _
       cases r with
       | bad code nm l c=>
         obtain ⟨hl0,hc0⟩:=hg
         unfold lexR fltC at h11
         repeat' first
          | apply z01
          | exact z13
          | exact z18 rfl
          | exact qr0 rfl
          | exact zj3 rfl rfl
          | (apply z17;rfl;rfl)
          | (apply z83;(iterate 3 rfl))
          | (apply z96;rfl;rfl;omega)
          | (apply zs9;rfl;assumption)
          | (apply z34;(iterate 3 rfl))
          | (apply zw4;rfl)
          | (apply z98;rfl)
          | (apply qs4;(iterate 3 rfl))
          | (apply z16;rfl;(with_reducible rfl);rfl)
          | (apply z14;rfl;(with_reducible rfl);rfl)
          | (apply z61;(iterate 3 rfl))
          | (apply zc5;(iterate 3 rfl))
          | (apply z99;(iterate 3 rfl))
          | (apply za7;rfl;exact q58 rfl)
          | (apply z50;(iterate 3 rfl))
          | (apply zf7;rfl;rfl;first | exact za2 (by first | exact rfl | assumption | exact z23 (by assumption)) | exact zb6 (by first | exact rfl | assumption | exact z23 (by assumption)))
          | (apply z27;(iterate 4 rfl);exact z30 (by first | exact rfl | assumption | exact z23 (by assumption)))
          | (apply z87;rfl;rfl)
          | (apply zi6;rfl;rfl;(omega))
          | (apply z05 (hc:=h11);rfl;rfl;rfl)
          | (apply z05 (hc:=zy5);rfl;rfl;rfl)
          | (apply z03;focus (repeat (first | exact z29 | (apply kq_c;rfl) | (apply zb8;rfl;rfl) | (apply z39;rfl))))
          | apply z02
          | apply z00
          | apply z04
          | apply z08
          | apply z12
          | apply z19
          | apply z58
          | (apply z15;rfl)
          | (apply z52;rfl;(with_reducible rfl))
          | (apply z43;rfl;(with_reducible rfl))
          | (apply z42;rfl;(with_reducible rfl))
          | (apply zj4;rfl)
          | (apply z40;rfl)
          | (with_reducible apply za1;intro hc)
          | (with_reducible apply z69;intro hc)
          | (with_reducible apply z81;intro hc)
          | (with_reducible apply z60;intro hc)
          | (with_reducible apply zf9;intro hc)
          | (apply zd7;rfl)
         all_goals first | rfl | (exfalso;omega) | exact absurd hc (by decide) | trace_state
       | ok toks=>
         have hg:toks.length≤16384:=hg
         unfold lexR zF at h11
         cases toks with
         | nil=>
           unfold tksF at h11
           repeat' first
            | apply z01
            | exact z13
            | exact z18 rfl
            | exact qr0 rfl
            | exact zj3 rfl rfl
            | (apply z17;rfl;rfl)
            | (apply z83;(iterate 3 rfl))
            | (apply z96;rfl;rfl;omega)
            | (apply zs9;rfl;assumption)
            | (apply z34;(iterate 3 rfl))
            | (apply zw4;rfl)
            | (apply z98;rfl)
            | (apply qs4;(iterate 3 rfl))
            | (apply z16;rfl;(with_reducible rfl);rfl)
            | (apply z14;rfl;(with_reducible rfl);rfl)
            | (apply z61;(iterate 3 rfl))
            | (apply zc5;(iterate 3 rfl))
            | (apply z99;(iterate 3 rfl))
            | (apply za7;rfl;exact q58 rfl)
            | (apply z50;(iterate 3 rfl))
            | (apply zf7;rfl;rfl;first | exact za2 (by first | exact rfl | assumption | exact z23 (by assumption)) | exact zb6 (by first | exact rfl | assumption | exact z23 (by assumption)))
            | (apply z27;(iterate 4 rfl);exact z30 (by first | exact rfl | assumption | exact z23 (by assumption)))
            | (apply z87;rfl;rfl)
            | (apply zi6;rfl;rfl;(omega))
            | (apply z05 (hc:=h11);rfl;rfl;rfl)
            | (apply z05 (hc:=zy5);rfl;rfl;rfl)
            | (apply z03;focus (repeat (first | exact z29 | (apply kq_c;rfl) | (apply zb8;rfl;rfl) | (apply z39;rfl))))
            | apply z02
            | apply z00
            | apply z04
            | apply z08
            | apply z12
            | apply z19
            | apply z58
            | (apply z15;rfl)
            | (apply z52;rfl;(with_reducible rfl))
            | (apply z43;rfl;(with_reducible rfl))
            | (apply z42;rfl;(with_reducible rfl))
            | (apply zj4;rfl)
            | (apply z40;rfl)
            | (with_reducible apply za1;intro hc)
            | (with_reducible apply z69;intro hc)
            | (with_reducible apply z81;intro hc)
            | (with_reducible apply z60;intro hc)
            | (with_reducible apply zf9;intro hc)
            | (apply zd7;rfl)
           all_goals first | rfl | (exfalso;omega) | exact absurd hc (by decide) | trace_state
         | cons t ts=>
           unfold tksF at h11
           repeat' first
            | apply z01
            | exact z13
            | exact z18 rfl
            | exact qr0 rfl
            | exact zj3 rfl rfl
            | (apply z17;rfl;rfl)
            | (apply z83;(iterate 3 rfl))
            | (apply z96;rfl;rfl;omega)
            | (apply zs9;rfl;assumption)
            | (apply z34;(iterate 3 rfl))
            | (apply jb5;rfl)
            | (apply z98;rfl)
            | (apply qs4;(iterate 3 rfl))
            | (apply z16;rfl;(with_reducible rfl);rfl)
            | (apply z14;rfl;(with_reducible rfl);rfl)
            | (apply z61;(iterate 3 rfl))
            | (apply zc5;(iterate 3 rfl))
            | (apply z99;(iterate 3 rfl))
            | (apply za7;rfl;exact q58 rfl)
            | (apply z50;(iterate 3 rfl))
            | (apply zf7;rfl;rfl;first | exact za2 (by first | exact rfl | assumption | exact z23 (by assumption)) | exact zb6 (by first | exact rfl | assumption | exact z23 (by assumption)))
            | (apply z27;(iterate 4 rfl);exact z30 (by first | exact rfl | assumption | exact z23 (by assumption)))
            | (apply z87;rfl;rfl)
            | (apply zi6;rfl;rfl;(omega))
            | (apply z05 (hc:=h11);rfl;rfl;rfl)
            | (apply z05 (hc:=zy5);rfl;rfl;rfl)
            | (apply z03;focus (repeat (first | exact z29 | (apply kq_c;rfl) | (apply zb8;rfl;rfl) | (apply z39;rfl))))
            | apply z02
            | apply z00
            | apply z04
            | apply z08
            | apply z12
            | apply z19
            | apply z58
            | (apply z15;rfl)
            | (apply z52;rfl;(with_reducible rfl))
            | (apply z43;rfl;(with_reducible rfl))
            | (apply z42;rfl;(with_reducible rfl))
            | (apply zj4;rfl)
            | (apply z40;rfl)
            | (with_reducible apply za1;intro hc)
            | (with_reducible apply z69;intro hc)
            | (with_reducible apply z81;intro hc)
            | (with_reducible apply z60;intro hc)
            | (with_reducible apply zf9;intro hc)
            | (apply zd7;rfl)
           all_goals first | rfl | (exfalso;omega) | exact absurd hc (by decide) | trace_state
theorem law4 (p:List UInt8) (n:Int) (hp:p.length≤9223372036854775807):Rets Vv 4 [.c (.str p),.c (.int .i64 n)] (.c (.bool true)):=by
 by_cases h:n<0∨70000<n∨100<p.length∨200000<n * p.length
 · exact wp7 p n hp h
 · simp only [not_or,Int.not_lt,Nat.not_lt] at h
   obtain ⟨h1,h2,h3,h4⟩:=h
   obtain ⟨m,rfl⟩:=Int.eq_ofNat_of_zero_le h1
   refine wr7 p m hp (by omega) h3 ?_
   have:((m * p.length:Nat):Int)=(m:Int) * (p.length:Int):=by simp
   omega
end Go.Proofs.TryzL
set_option maxRecDepth 100000
namespace Go.Proofs.YtencoceemejcnaaGreatDoor
open Go.ChangeShapes Go.WideShapes Go.ChangeAt Go.RowKit Go.Proofs.Lz
open Go.Proofs.TryzL
theorem qe5 (xs:List CV) (h:q50 Tryz.prog 6 Tryz.f4.params.toList xs):∃ H',ev Ev 4 (xs.map .c) []=some (.c (.bool true),H'):=by
 rw [Tryz.params4] at h
 obtain ⟨x1,y1,e1,k1,h⟩:=qw3 h
 obtain ⟨x2,y2,e2,k2,h⟩:=qw3 h
 have en:=w28 h
 obtain ⟨a1,ea1,ha1⟩:=we1 k1
 obtain ⟨a2,ea2,ha2⟩:=w99 k2
 subst ea1 ea2
 rw [e1,e2,en]
 obtain ⟨H',h⟩:=jh9 (law4 a1 a2 ha1)
 exact ws7 envR h
theorem q18:Rows.LexerLimitsSaid:=
 OpenClaim.holds_of_wide 4 Tryz.f4 rfl rfl rfl rfl rfl rfl rfl ⟨rfl,rfl,rfl,rfl,rfl⟩ rfl rfl rfl rfl rfl (by kernel_rfl) Tryz.func4 (by kernel_rfl)
  (of_decide_eq_true (by kernel_rfl)) (by unfold Func.isWrapper;first | (rw [if_pos (by decide +kernel)];kernel_rfl) | (rw [if_neg (by decide +kernel)];exact ⟨rfl,rfl⟩))
  (fun os started H enc _=>wj3 (s:=Rows.lexerLimitsSpec) os started enc Tryz.func4 (by kernel_rfl) (by kernel_rfl) rfl rfl (fun ds h=>by match ds,h with | [d1,d2],_=>rfl)
    (ChangeSpec.witness_shaped (enc:=enc) (C:=Tryz.checked) (os:=os) (X:=fun w _=>laidMetH Tryz.prog zm9 w) false (World.laidAll Tryz.prog os zm9) #[.string (.mk #[]),.int .i64 0] 8 (World.laidAll_os _ _ _)
      (qp1 os) (by kernel_rfl) (by kernel_rfl) (by kernel_rfl) (je9 os _))
    qe5)
theorem lexerLimits_card:Rows.LexerLimitsCardSaid:=
 Claim7.holds_tied_plain_at .later [] [.data,.data,.data,.data,.sentinel,.sentinel,.pinned] true (true,"641a6eedb85e9fcdfc4a04b463ac295cc2ee5868a244e0a5b5af0ed3d49ea37c") true q18 (fun _ h=>by cases h) (by kernel_rfl) (fun _ h=>by cases h) lexerLimits_row_tie rfl ⟨rfl,rfl⟩ (by kernel_rfl) rfl
  (fun f fn hf hfn=>by
    obtain rfl:f=4:=Option.some.inj ((show Tryz.prog.funcNamed "lazyc/lazyclaw02.LexerLimits"=some 4 by kernel_rfl).symm.trans hf) |>.symm
    obtain rfl:fn=Tryz.f4:=(Option.some.inj (Tryz.func4.symm.trans hfn)).symm
    exact ⟨by kernel_rfl,fun j t ht=>by
     rw [Tryz.params4] at ht
     have hm:t∈[9,3]:=by simpa using Array.mem_of_getElem? ht
     have hall:([9,3].all fun u=>!Tryz.prog.wantsStandIn u)=true:=by kernel_rfl
     exact (show Tryz.prog.wantsStandIn t=false by simpa using List.all_eq_true.1 hall t hm)⟩)
  (by kernel_rfl)
end Go.Proofs.YtencoceemejcnaaGreatDoor
