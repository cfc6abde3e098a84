/- Chapter 06: the row and the card about SamePat: it reports whether all fields are equal, for all patterns with at most 600 nodes. -/
import Derived.Test.YtclbpddolhgibaaGreatDoorLzP5
import Derived.Test.YtclbpddolhgibaaGreatDoorLzP2
set_option linter.unusedSimpArgs false
set_option linter.unusedVariables false
namespace Go.Proofs.TryzL
open Go.Proofs.Lz
set_option maxHeartbeats 4000000
theorem ex5:Rets Vv 5 [] (.c (.bool true)):=zf5 (V:=Vv) (f:=5) (xs:=[]) (g:=uL (.bool true)) rfl rfl rfl
theorem law3 (p q:Pat) (hp:p.ok) (hq:q.ok):Rets Vv 3 [.c p.c,.c q.c] (.c (.bool true)):=by
 have h4:=z05 [] rfl [p,q] (by simp) (by simp [hp,hq]);have h6:=kD _ p q (Nat.le_refl _) hp hq;have h7:=zu4 _ p q (Nat.le_refl _) hp hq;have h66:=kD _ p p (Nat.le_refl _) hp hp;have h6q:=kD _ q p (Nat.le_refl _) hq hp;rw [mX q p] at h6q;rw [mL] at h66;have h5:=ex5;generalize F4 p q=b at h6 h7 h6q;generalize kT ([]:List CV).length [p,q]=fb at h4;unfold O2 at h4;simp only [List.map] at h4;cases p with
 | mk p nm n tx ks ns=>
   cases q with
   | mk p' nm' n' tx' ks' ns'=>
     simp only [Pat.c] at h4 h6 h7 h66 h6q ⊢;refine E3 eM ?_;cases fb<;>cases b
     all_goals skip
     . repeat' first|apply x5|exact y6|exact Y7 rfl|(apply y0;rfl;rfl)|(apply t6;rfl;rfl;rfl)|(apply zH;rfl;rfl)|(apply vV;rfl;rfl;rfl)|(apply xY;(iterate 6 rfl))|(apply G7;rfl;rfl;(exact B8 rfl))|(apply B6 (hc:=h4);rfl;rfl;rfl)|(apply B6 (hc:=h5);rfl;rfl;rfl)|(apply m7;focus (repeat (exact v6)))|apply x4|apply x7|apply x6|apply m8|(apply d6;rfl)|(with_reducible first|exact lN|apply tI|apply P7|apply Q1)|(apply o7;rfl)
       all_goals first | rfl | (simp_all;done)
     . repeat' first|apply x5|exact y6|exact Y7 rfl|(apply y0;rfl;rfl)|(apply t6;rfl;rfl;rfl)|(apply zH;rfl;rfl)|(apply vV;rfl;rfl;rfl)|(apply xY;(iterate 6 rfl))|(apply G7;rfl;rfl;(exact B8 rfl))|(apply B6 (hc:=h4);rfl;rfl;rfl)|(apply B6 (hc:=h5);rfl;rfl;rfl)|(apply m7;focus (repeat (exact v6)))|apply x4|apply x7|apply x6|apply m8|(apply d6;rfl)|(with_reducible first|exact lN|apply tI|apply P7|apply Q1)|(apply o7;rfl)
       all_goals first | rfl | (simp_all;done)
     . repeat' first|apply x5|exact y6|exact Y7 rfl|(apply y0;rfl;rfl)|(apply t6;rfl;rfl;rfl)|(apply zH;rfl;rfl)|(apply tJ;rfl;rfl)|(apply Z3;rfl;(with_reducible rfl);rfl)|(apply Y2;rfl;(with_reducible rfl);rfl)|(apply vV;rfl;rfl;rfl)|(apply xY;(iterate 6 rfl))|(apply G7;rfl;rfl;(exact B8 rfl))|(apply B6 (hc:=h4);rfl;rfl;rfl)|(apply m7;focus (repeat (first | exact v6 | (apply H6;rfl))))|apply x4|apply x7|apply x6|apply A4|apply m8|apply L6|apply O0|(apply d6;rfl)|(apply M3;(exact rfl))|(apply mI;rfl;(with_reducible rfl);(exact rfl))|(apply aG;rfl;(with_reducible rfl);(exact rfl);(exact Y7 rfl);rfl)|(apply dX;rfl)|(with_reducible first|exact tP|apply sA|apply P7|apply Q1)|(with_reducible apply W8;intro hc)|(apply M1;rfl)|(apply zO;rfl)|(apply f0 (hc:=h6);rfl;rfl;rfl)|(apply f0 (hc:=h7);rfl;rfl;rfl)|(apply f0 (hc:=h66);rfl;rfl;rfl)|(apply f0 (hc:=h6q);rfl;rfl;rfl)|(apply f0 (hc:=h5);rfl;rfl;rfl)|(apply M9;rfl)|(apply o7;rfl)
       all_goals first | rfl | (simp_all;done)
     . repeat' first|apply x5|exact y6|exact Y7 rfl|(apply y0;rfl;rfl)|(apply t6;rfl;rfl;rfl)|(apply zH;rfl;rfl)|(apply tJ;rfl;rfl)|(apply Z3;rfl;(with_reducible rfl);rfl)|(apply Y2;rfl;(with_reducible rfl);rfl)|(apply vV;rfl;rfl;rfl)|(apply xY;(iterate 6 rfl))|(apply G7;rfl;rfl;(exact B8 rfl))|(apply B6 (hc:=h4);rfl;rfl;rfl)|(apply m7;focus (repeat (first | exact v6 | (apply H6;rfl))))|apply x4|apply x7|apply x6|apply A4|apply m8|apply L6|apply O0|(apply d6;rfl)|(apply M3;(exact rfl))|(apply mI;rfl;(with_reducible rfl);(exact rfl))|(apply aG;rfl;(with_reducible rfl);(exact rfl);(exact Y7 rfl);rfl)|(apply dX;rfl)|(with_reducible first|exact tP|apply sA|apply P7|apply Q1)|(with_reducible apply W8;intro hc)|(apply M1;rfl)|(apply zO;rfl)|(apply f0 (hc:=h6);rfl;rfl;rfl)|(apply f0 (hc:=h7);rfl;rfl;rfl)|(apply f0 (hc:=h66);rfl;rfl;rfl)|(apply f0 (hc:=h6q);rfl;rfl;rfl)|(apply f0 (hc:=h5);rfl;rfl;rfl)|(apply M9;rfl)|(apply o7;rfl)
       all_goals first | rfl | (simp_all;done)
end Go.Proofs.TryzL
set_option maxRecDepth 100000
namespace Go.Proofs.YtclbpddolhgibaaGreatDoor
open Go.ChangeShapes Go.WideShapes Go.ChangeAt Go.RowKit Go.Proofs.Lz
open Go.Proofs.TryzL
theorem ek9:j7 Tryz.prog 9=some none:=by kernel_rfl
theorem aR:j7 Tryz.prog 26=some (some 6):=by kernel_rfl
theorem ekU {P:Program} {t:TypeId} {e e':Option Nat} (h:j7 P t=some e) (h':j7 P t=some e'):e=e':=by rw [h] at h';injection h'
theorem zr7 {n:Nat}:∀ (ys:List CV),(∀ y∈ys,∃ zs,G0 Tryz.prog n 9 zs/\zs.length=j0 none/\s7 none zs=some y)->∃ l:List (List UInt8),ys=l.map .str:=by
 intro ys;induction ys with
 | nil=>intro _;exact ⟨[],rfl⟩
 | cons y ys ih=>
   intro h;obtain ⟨zs,h1,_,h3⟩:=h y (by simp);obtain ⟨l,rfl⟩:=ih (fun y hy=>h y (by simp [hy]));cases n with
   | zero=>exact h1.elim
   | succ n=>
     unfold G0 at h1;rw [Tryz.underlying9] at h1;obtain ⟨s,rfl,_⟩:=h1;simp only [s7,List.getElem?_cons_zero,Option.some.injEq] at h3;exact ⟨s::l,by rw [<-h3];rfl⟩
theorem oM {n:Nat} (hp:∀ zs,G0 Tryz.prog n 26 zs->∃ p:Pat,p.c=.agg zs/\p.ok):∀ (ys:List CV),(∀ y∈ys,∃ zs,G0 Tryz.prog n 26 zs/\zs.length=j0 (some 6)/\s7 (some 6) zs=some y)->∃ l:List Pat,ys=Pat.cs l/\Pat.oks l/\l.length=ys.length:=by
 intro ys;induction ys with
 | nil=>intro _;exact ⟨[],rfl,trivial,rfl⟩
 | cons y ys ih=>
   intro h;obtain ⟨zs,h1,_,h3⟩:=h y (by simp);obtain ⟨p,e,hok⟩:=hp zs h1;obtain ⟨l,rfl,hl,hn⟩:=ih (fun y hy=>h y (by simp [hy]));simp only [s7,Option.some.injEq] at h3;exact ⟨p::l,by rw [<-h3,<-e];rfl,⟨hok,hl⟩,by simp [hn]⟩
theorem oV:∀ (n:Nat) (zs:List CV),G0 Tryz.prog n 26 zs->∃ p:Pat,p.c=.agg zs/\p.ok:=by
 intro n;induction n using Nat.strongRecOn with
 | _ n ih=>
   intro zs h;match n,h,ih with
   | 0,h,_=>exact h.elim
   | 1,h,_=>
     unfold G0 at h;rw [Tryz.underlying26] at h;simp only [jZ,G0] at h;obtain ⟨_,_,_,h,_⟩:=h;exact h.elim
   | n+2,h,ih=>
     unfold G0 at h;rw [Tryz.underlying26] at h;simp only [jZ,G0,Tryz.underlying22,Tryz.underlying9,Tryz.underlying3,Tryz.underlying23,Tryz.underlying24] at h;obtain ⟨_,_,rfl,⟨a,rfl,_⟩,_,_,rfl,⟨b,rfl,_⟩,_,_,rfl,⟨c,rfl,_⟩,_,_,rfl,⟨d,rfl,_⟩,_,_,rfl,⟨ek,ys,rfl,hl,he,hy⟩,_,_,rfl,⟨ek2,ys2,rfl,hl2,he2,hy2⟩,rfl⟩:=h;obtain rfl:=ekU aR he;obtain rfl:=ekU ek9 he2;obtain ⟨ks,rfl,hok,hn⟩:=oM (fun zs hz=>ih n (by omega) zs hz) ys hy;obtain ⟨ns,rfl⟩:=zr7 ys2 hy2;refine ⟨.mk a b c d ks ns,rfl,?_,?_,hok⟩
     . rw [hn];simpa [maxLen] using hl
     . simpa [maxLen] using hl2
theorem lO {x:CV} (h:pV Tryz.prog 26 x):∃ p:Pat,x=p.c/\p.ok:=by
 obtain ⟨n,zs,ek,h1,h2,_,h4⟩:=h;obtain rfl:=ekU aR h1;obtain ⟨p,e,hok⟩:=oV n zs h2;simp only [s7,Option.some.injEq] at h4;exact ⟨p,by rw [<-h4,e],hok⟩
theorem fC {xs:List CV} (h:qQ Tryz.prog [26,26] xs):∃ p q:Pat,xs=[p.c,q.c]/\p.ok/\q.ok:=by
 match xs,h with
 | [x,y],h=>
   obtain ⟨h1,h2,_⟩:=h;obtain ⟨p,rfl,hp⟩:=lO h1;obtain ⟨q,rfl,hq⟩:=lO h2;exact ⟨p,q,rfl,hp,hq⟩
theorem iD (xs:List CV) (h:qQ Tryz.prog Tryz.f3.params.toList xs):∃ H',ev Ev 3 (xs.map .c) []=some (.c (.bool true),H'):=by
 rw [Tryz.params3] at h;obtain ⟨p,q,rfl,hp,hq⟩:=fC h;obtain ⟨H',h⟩:=zd1 (law3 p q hp hq);exact zt4 iH h
theorem zy7:zV Tryz.prog [26,22,9,3,23,24]=true:=by kernel_rfl
theorem hQ:Rows.SyntaxPatternsSaid:=
 OpenClaim.holds_of_wide 3 Tryz.f3 rfl rfl rfl rfl rfl rfl rfl ⟨rfl,rfl,rfl,rfl,rfl⟩ rfl rfl rfl rfl rfl (by kernel_rfl) Tryz.func3 (by kernel_rfl)
  (of_decide_eq_true (by kernel_rfl)) (by unfold Func.isWrapper;first | (rw [if_pos (by decide +kernel)];kernel_rfl) | (rw [if_neg (by decide +kernel)];exact ⟨rfl,rfl⟩))
  (fun os started H enc _=>zy6 (s:=Rows.syntaxPatternsSpec) zy7 os started enc Tryz.func3 (by kernel_rfl) (by kernel_rfl) rfl rfl (fun ds h=>by match ds,h with | [d1,d2],_=>rfl)
    (ChangeSpec.witness_shaped (enc:=enc) (C:=Tryz.checked) (os:=os) (X:=fun w _=>laidMetH Tryz.prog O4 w) false (World.laidAll Tryz.prog os O4) #[.agg #[.int .i64 0,.string (.mk #[]),.int .i64 0,.string (.mk #[]),.slice none 0 0,.slice none 0 0],.agg #[.int .i64 0,.string (.mk #[]),.int .i64 0,.string (.mk #[]),.slice none 0 0,.slice none 0 0]] 8 (World.laidAll_os _ _ _)
      (zh9 os) (by kernel_rfl) (by kernel_rfl) (by kernel_rfl) (zd7 os _))
    iD)
theorem syntaxPatterns_card:Rows.SyntaxPatternsCardSaid:=
 Claim7.holds_tied_plain_at .later [] [.data,.data,.data,.sentinel,.sentinel] true (true,"7deb44dde9ca637f84d99526c43d9ed19b9971dd2c3ea0f18224c51dc950c63e") true hQ (fun _ h=>by cases h) (by kernel_rfl) (fun _ h=>by cases h) syntaxPatterns_row_tie rfl ⟨rfl,rfl⟩ (by kernel_rfl) rfl
  (fun f fn hf hfn=>by
    obtain rfl:f=3:=Option.some.inj ((show Tryz.prog.funcNamed "lazyc/lazyclaw06.SyntaxPatterns"=some 3 by kernel_rfl).symm.trans hf) |>.symm
    obtain rfl:fn=Tryz.f3:=(Option.some.inj (Tryz.func3.symm.trans hfn)).symm;exact ⟨by kernel_rfl,fun j t ht=>by
     rw [Tryz.params3] at ht;have hm:t∈[26,26]:=by simpa using Array.mem_of_getElem? ht
     have hall:([26,26].all fun u=>!Tryz.prog.wantsStandIn u)=true:=by kernel_rfl
     exact (show Tryz.prog.wantsStandIn t=false by simpa using List.all_eq_true.1 hall t hm)⟩)
  (by kernel_rfl)
end Go.Proofs.YtclbpddolhgibaaGreatDoor
