/- Chapter 12: the row and the card about Derivable: it reports the derivable classes among all strings of at most 300 bytes. -/
import Derived.Test.YtlimfobeoodkjaaGreatDoorLzQ8
import Derived.Test.YtlimfobeoodkjaaGreatDoorLzSeat12
set_option linter.unusedSimpArgs false
set_option linter.unusedVariables false
namespace Go.Proofs.TryzL
open Go.Proofs.Lz
set_option maxHeartbeats 2000000
theorem ex4:Rets Vv 4 [] (.c (.bool true)):=aV (V:=Vv) (f:=4) (xs:=[]) (g:=yV (.bool true)) rfl rfl rfl
theorem zi4 (m:List UInt8) (hm:m.length<2^31):Rets Vv 15 [.c (.str m),.c (.str [61,61])] (.c (.str (D5 m [61,61]))):=uO m [61,61] (by omega) (by simp)
theorem z55 (m:List UInt8) (hm:m.length<2^31):Rets Vv 15 [.c (.str m),.c (.str [60,61])] (.c (.str (D5 m [60,61]))):=uO m [60,61] (by omega) (by simp)
def bG (s:List UInt8):WV:=match S1 s with
 | none=>.tup [.c (.agg [.str [],.nilfn,.nilfn,.nilfn]),.c (.bool false)]
 | some p=>if p.2=eqN then .tup [.c (.agg [.str (D5 p.1 [61,61]),.fn 16 [] [],.fn 17 [] [],.fn 18 [] []]),.c (.bool true)]
   else if p.2=D4 then .tup [.c (.agg [.str (D5 p.1 [60,61]),.fn 19 [] [],.fn 20 [] [],.fn 21 [] []]),.c (.bool true)]
   else .tup [.c (.agg [.str [],.nilfn,.nilfn,.nilfn]),.c (.bool false)]
theorem q11 {s a b:List UInt8} (h:S1 s=some (a,b)):a.length<=s.length:=by
 unfold S1 at h;split at h
 . injection h with h;injection h with h1 h2;rw [<-h1];exact (dH s).1
 . cases h
theorem zy1 (s:List UInt8) (hl:s.length<2^30):Rets Vv 8 [.c (.str s)] (bG s):=by
 have h14:=z66 s (by omega);unfold bG;cases h:S1 s with
 | none=>
   rw [h] at h14;simp only [splitV] at h14;refine d4 tM ?_;repeat' first|apply x3|exact w9|exact u6 rfl|(apply x4;rfl;rfl)|(apply G8;rfl;rfl)|(apply sD;rfl;rfl;rfl)|(apply S0;rfl;rfl;rfl)|(apply qA;rfl;rfl;(exact jA rfl))|(apply zU;rfl;rfl;rfl;rfl;exact zL rfl)|(apply S5;rfl;rfl)|(apply w8 (hc:=h14);rfl;rfl;rfl)|(apply b9;focus (repeat (first | exact y6 | (apply tO;rfl))))|apply v6|apply v7|apply v8|apply x9|(apply c9;rfl)|(with_reducible first|exact rL|apply sA|apply G5|apply H5)|(apply dR;(exact ShI.cell rfl);(exact ShI.c rfl);(exact by decide))
   all_goals rfl
 | some p=>
   obtain ⟨a,b⟩:=p;have hlen:=q11 h;have e1:=zi4 a (by omega);have e2:=z55 a (by omega);rw [h] at h14;simp only [splitV] at h14;refine d4 tM ?_;repeat' first|apply x3|exact w9|exact u6 rfl|(apply x4;rfl;rfl)|(apply u3;rfl;rfl;rfl)|(apply G8;rfl;rfl)|(apply sD;rfl;rfl;rfl)|(apply S0;rfl;rfl;rfl)|(apply qA;rfl;rfl;(exact jA rfl))|(apply zU;rfl;rfl;rfl;rfl;exact zL rfl)|(apply S5;rfl;rfl)|(apply w8 (hc:=h14);rfl;rfl;rfl)|(apply w8 (hc:=e1);rfl;rfl;rfl)|(apply w8 (hc:=e2);rfl;rfl;rfl)|(apply b9;focus (repeat (first | exact y6 | (apply s6;rfl) | (apply tO;rfl))))|apply v6|apply v7|apply v8|apply f5|apply t7|apply x9|(apply c9;rfl)|(with_reducible first|exact fH|apply nR|apply G5|apply H5)|(with_reducible (first|apply M7|apply L9);intro hc)|(apply dR;(exact ShI.cell rfl);(exact ShI.c rfl);(exact by decide))
   all_goals (simp_all [eqN,D4])
theorem zj1 (s:List UInt8) (hl:s.length<2^30):Rets Vv 5 [.c (.str s)] (.c (.bool (wW s))):=by
 have h8:=zy1 s hl;unfold bG at h8;unfold wW;cases h:S1 s with
 | none=>
   rw [h] at h8;dsimp only at h8;refine d4 yL ?_;repeat' first|apply x3|exact w9|exact u6 rfl|(apply x4;rfl;rfl)|(apply S0;rfl;rfl;rfl)|(apply qA;rfl;rfl;(exact jA rfl))|(apply zU;rfl;rfl;rfl;rfl;exact zL rfl)|(apply S5;rfl;rfl)|(apply w8 (hc:=h8);rfl;rfl;rfl)|apply v6|apply v7|apply v8|apply x9|(apply y8;rfl)
   all_goals rfl
 | some p=>
   obtain ⟨a,b⟩:=p;rw [h] at h8;dsimp only at h8;by_cases h1:b=eqN
   . rw [if_pos h1] at h8;refine d4 yL ?_;repeat' first|apply x3|exact w9|exact u6 rfl|(apply x4;rfl;rfl)|(apply S0;rfl;rfl;rfl)|(apply qA;rfl;rfl;(exact jA rfl))|(apply zU;rfl;rfl;rfl;rfl;exact zL rfl)|(apply S5;rfl;rfl)|(apply w8 (hc:=h8);rfl;rfl;rfl)|apply v6|apply v7|apply v8|apply x9|(apply y8;rfl)
     all_goals (simp [h1])
   . rw [if_neg h1] at h8;by_cases h2:b=D4
     . rw [if_pos h2] at h8;refine d4 yL ?_;repeat' first|apply x3|exact w9|exact u6 rfl|(apply x4;rfl;rfl)|(apply S0;rfl;rfl;rfl)|(apply qA;rfl;rfl;(exact jA rfl))|(apply zU;rfl;rfl;rfl;rfl;exact zL rfl)|(apply S5;rfl;rfl)|(apply w8 (hc:=h8);rfl;rfl;rfl)|apply v6|apply v7|apply v8|apply x9|(apply y8;rfl)
       all_goals (simp [h2])
     . rw [if_neg h2] at h8;refine d4 yL ?_;repeat' first|apply x3|exact w9|exact u6 rfl|(apply x4;rfl;rfl)|(apply S0;rfl;rfl;rfl)|(apply qA;rfl;rfl;(exact jA rfl))|(apply zU;rfl;rfl;rfl;rfl;exact zL rfl)|(apply S5;rfl;rfl)|(apply w8 (hc:=h8);rfl;rfl;rfl)|apply v6|apply v7|apply v8|apply x9|(apply y8;rfl)
       all_goals (simp [h1,h2])
theorem zg2 {s a b:List UInt8} (h:Q3 s=some (a,b)):a.length<=s.length:=by
 unfold Q3 at h;split at h
 . cases h
 . unfold vH at h;split at h
   . cases h
   . injection h with h;injection h with h1 h2;rw [<-h1,List.length_take];omega
theorem zb9 (s:List UInt8) (hl:s.length<2^30):Rets Vv 9 [.c (.str s)] (.c (.str (X5 s))):=by
 have h22:=zw3 s (by omega);unfold X5;cases h:Q3 s with
 | none=>
   rw [h] at h22;simp only [splitV] at h22;refine d4 dX ?_;repeat' first|apply x3|exact w9|exact u6 rfl|(apply x4;rfl;rfl)|(apply G8;rfl;rfl)|(apply S0;rfl;rfl;rfl)|(apply S5;rfl;rfl)|(apply w8 (hc:=h22);rfl;rfl;rfl)|(apply b9;focus (repeat (exact y6)))|apply v6|apply v7|apply v8|apply f5|apply x9|(apply c9;rfl)|(with_reducible first|exact rL|apply sA|apply G5|apply H5)|(apply y8;rfl)
   all_goals rfl
 | some p=>
   obtain ⟨a,b⟩:=p;have hlen:=zg2 h;have e1:=bJ a [61,61] (by omega) (by simp);have e2:=bJ a [60,61] (by omega) (by simp);rw [h] at h22;simp only [splitV] at h22;refine d4 dX ?_;repeat' first|apply x3|exact w9|exact u6 rfl|(apply x4;rfl;rfl)|(apply u3;rfl;rfl;rfl)|(apply G8;rfl;rfl)|(apply S0;rfl;rfl;rfl)|(apply S5;rfl;rfl)|(apply w8 (hc:=h22);rfl;rfl;rfl)|(apply w8 (hc:=e1);rfl;rfl;rfl)|(apply w8 (hc:=e2);rfl;rfl;rfl)|(apply b9;focus (repeat (first | exact y6 | (apply s6;rfl))))|apply v6|apply v7|apply v8|apply f5|apply t7|apply x9|(apply c9;rfl)|(with_reducible first|exact fH|apply nR|apply G5|apply H5)|(with_reducible (first|apply M7|apply L9);intro hc)|(apply y8;rfl)
   all_goals (simp_all [eqN,D4])
theorem fZ (s:List UInt8) (hl:s.length<2^30):Rets Vv 6 [.c (.str s)] (.c (.bool (decide (X5 s≠[])))):=by
 have h9:=zb9 s hl;generalize X5 s=m at h9 ⊢;refine d4 zv7 ?_;cases m
 . repeat' first|apply x3|exact w9|(apply x4;rfl;rfl)|(apply u3;rfl;rfl;rfl)|(apply w8 (hc:=h9);rfl;rfl;rfl)|apply v6|apply v7|apply v8|apply x9|(apply y8;rfl)
   all_goals first|rfl|(simp;done)|(exfalso;simp_all;done)
 . repeat' first|apply x3|exact w9|(apply x4;rfl;rfl)|(apply u3;rfl;rfl;rfl)|(apply w8 (hc:=h9);rfl;rfl;rfl)|apply v6|apply v7|apply v8|apply x9|(apply y8;rfl)
   all_goals first|rfl|(simp;done)|(exfalso;simp_all;done)
theorem law3 (s:List UInt8):Rets Vv 3 [.c (.str s)] (.c (.bool true)):=by
 have h4:=ex4;refine d4 zd0 ?_;by_cases hl:s.length<=300
 . have h5:=zj1 s (by omega);have h6:=fZ s (by omega);rw [zq7] at h5;generalize decide (X5 s≠[])=b at h5 h6;cases b
   . repeat' first|apply x3|exact w9|exact u6 rfl|(apply x4;rfl;rfl)|(apply u3;rfl;rfl;rfl)|(apply B5;rfl)|(apply fN;rfl;rfl)|(apply s9;rfl;(with_reducible rfl);rfl)|(apply l4;rfl;(with_reducible rfl);rfl)|(apply w8 (hc:=h4);rfl;rfl;rfl)|(apply w8 (hc:=h5);rfl;rfl;rfl)|(apply w8 (hc:=h6);rfl;rfl;rfl)|(apply b9;focus (repeat (first | exact y6 | (apply s6;rfl))))|apply v6|apply v7|apply v8|apply t7|apply x9|(apply c9;rfl)|(apply s7;rfl;(with_reducible rfl))|(apply K6;rfl;(with_reducible rfl))|(apply s8;rfl)|(with_reducible (first|apply o6|apply f6|apply H6);intro hc)|(apply y8;rfl)
     all_goals first|rfl|(exfalso;omega)|(simp_all;done)
   . repeat' first|apply x3|exact w9|exact u6 rfl|(apply x4;rfl;rfl)|(apply u3;rfl;rfl;rfl)|(apply B5;rfl)|(apply fN;rfl;rfl)|(apply s9;rfl;(with_reducible rfl);rfl)|(apply l4;rfl;(with_reducible rfl);rfl)|(apply w8 (hc:=h4);rfl;rfl;rfl)|(apply w8 (hc:=h5);rfl;rfl;rfl)|(apply w8 (hc:=h6);rfl;rfl;rfl)|(apply b9;focus (repeat (first | exact y6 | (apply s6;rfl))))|apply v6|apply v7|apply v8|apply t7|apply x9|(apply c9;rfl)|(apply s7;rfl;(with_reducible rfl))|(apply K6;rfl;(with_reducible rfl))|(apply s8;rfl)|(with_reducible (first|apply o6|apply f6|apply H6);intro hc)|(apply y8;rfl)
     all_goals first|rfl|(exfalso;omega)|(simp_all;done)
 . repeat' first|apply x3|exact w9|(apply x4;rfl;rfl)|(apply u3;rfl;rfl;rfl)|(apply B5;rfl)|(apply w8 (hc:=h4);rfl;rfl;rfl)|(apply b9;focus (repeat (first | exact y6 | (apply s6;rfl))))|apply v6|apply v7|apply v8|apply t7|apply x9|(apply c9;rfl)|(with_reducible (first|apply o6|apply f6);intro hc)|(apply y8;rfl)
   all_goals first|rfl|(exfalso;omega)
end Go.Proofs.TryzL
set_option maxRecDepth 100000
namespace Go.Proofs.YtlimfobeoodkjaaGreatDoor
open Go.ChangeShapes Go.WideShapes Go.ChangeAt Go.RowKit Go.Proofs.Lz
open Go.Proofs.TryzL
theorem ek9:x5 Tryz.prog 9=some none:=by kernel_rfl
theorem ze6 {x:CV} (h:kV Tryz.prog 9 x):∃ s:List UInt8,x=.str s:=by
 obtain ⟨n,zs,ek,h1,h2,_,h4⟩:=h;have e:ek=none:=by rw [ek9] at h1;injection h1 with h1;exact h1.symm
 subst e;cases n with
 | zero=>exact h2.elim
 | succ n=>
   unfold T0 at h2;rw [Tryz.underlying9] at h2;obtain ⟨s,rfl,_⟩:=h2;simp only [A2,List.getElem?_cons_zero,Option.some.injEq] at h4;exact ⟨s,h4.symm⟩
theorem eV {xs:List CV} (h:zG Tryz.prog [9] xs):∃ s:List UInt8,xs=[.str s]:=by
 match xs,h with
 | [x],h=>
   obtain ⟨h1,_⟩:=h;obtain ⟨s,rfl⟩:=ze6 h1;exact ⟨s,rfl⟩
theorem zf1 (xs:List CV) (h:zG Tryz.prog Tryz.f3.params.toList xs):∃ H',ev Ev 3 (xs.map .c) []=some (.c (.bool true),H'):=by
 rw [Tryz.params3] at h;obtain ⟨s,rfl⟩:=eV h;obtain ⟨H',h⟩:=zj8 (law3 s);exact zu0 zi5 h
theorem zi3:qM Tryz.prog [9]=true:=by kernel_rfl
theorem iL:joinedFacts Tryz.pinned.checked.prog 3 Tryz.f3 Rows.deriveDerivableSpec Rows.deriveDerivableRow=true:=by kernel_rfl
theorem zl9:decide (Func.isInstance Tryz.pinned.checked.prog Tryz.f3 Rows.deriveDerivableRow.origin Rows.deriveDerivableRow.targs)=true:=by kernel_rfl
theorem zl1:Tryz.pinned.checked.prog.funcNamed Rows.deriveDerivableRow.func=some 3:=by kernel_rfl
theorem fX (os:Os):Input.okWideB Tryz.checked.prog ((World.laidAll Tryz.prog os G4).forCall (fun x x_1=>0) { blocks:=#[],args:=#[Value.string { data:=#[] }] }) 3 { blocks:=#[],args:=#[Value.string { data:=#[] }] }=true:=by kernel_rfl
theorem zn1 {H:Type} (enc:TypeId×Value->H) (os:Os):ChangeSpec.preB enc Tryz.checked.prog Tryz.f3 Rows.deriveDerivableSpec [] false ((World.laidAll Tryz.prog os G4).forCall (fun x x_1=>0) { blocks:=#[],args:=#[Value.string { data:=#[] }] }).memory #[Value.string { data:=#[] }] 8=true:=by kernel_rfl
theorem hM {H:Type} (enc:TypeId×Value->H) (os:Os):ChangeSpec.sizedB enc Tryz.checked.prog Tryz.f3 Rows.deriveDerivableSpec false ((World.laidAll Tryz.prog os G4).forCall (fun x x_1=>0) { blocks:=#[],args:=#[Value.string { data:=#[] }] }).memory #[Value.string { data:=#[] }] 8=true:=by kernel_rfl
theorem zo9:Rows.DeriveDerivableSaid:=
 OpenClaim.holds_of_wide 3 Tryz.f3 rfl rfl rfl rfl rfl rfl rfl ⟨rfl,rfl,rfl,rfl,rfl⟩ rfl rfl rfl rfl rfl zl1 Tryz.func3 iL
  (of_decide_eq_true zl9) (by unfold Func.isWrapper;first | (rw [if_pos (by decide +kernel)];kernel_rfl) | (rw [if_neg (by decide +kernel)];exact ⟨rfl,rfl⟩))
  (fun os started H enc _=>zr9 (s:=Rows.deriveDerivableSpec) zi3 os started enc Tryz.func3 (by kernel_rfl) (by kernel_rfl) rfl rfl (fun ds h=>by match ds,h with | [d1],_=>rfl)
    (ChangeSpec.witness_shaped (enc:=enc) (C:=Tryz.checked) (os:=os) (X:=fun w _=>laidMetH Tryz.prog G4 w) false (World.laidAll Tryz.prog os G4) #[.string (.mk #[])] 8 (World.laidAll_os _ _ _)
      (eJ os) (fX os) (zn1 enc os) (hM enc os) (zy2 os _))
    zf1)
theorem deriveDerivable_card:Rows.DeriveDerivableCardSaid:=
 Claim7.holds_tied_plain_at .later [] [.data,.data,.data,.sentinel,.sentinel] true (true,"691f5a3685a4a4fada95bf88e70b22f4ce790a4134e2c41f54ce0f5bb4d559dc") true zo9 (fun _ h=>by cases h) (by kernel_rfl) (fun _ h=>by cases h) deriveDerivable_row_tie rfl ⟨rfl,rfl⟩ (by kernel_rfl) rfl
  (fun f fn hf hfn=>by
    obtain rfl:f=3:=Option.some.inj ((show Tryz.prog.funcNamed "lazyc/lazyclaw12.DeriveDerivable"=some 3 by kernel_rfl).symm.trans hf) |>.symm
    obtain rfl:fn=Tryz.f3:=(Option.some.inj (Tryz.func3.symm.trans hfn)).symm;exact ⟨by kernel_rfl,fun j t ht=>by
     rw [Tryz.params3] at ht;have hm:t∈[9]:=by simpa using Array.mem_of_getElem? ht
     have hall:([9].all fun u=>!Tryz.prog.wantsStandIn u)=true:=by kernel_rfl
     exact (show Tryz.prog.wantsStandIn t=false by simpa using List.all_eq_true.1 hall t hm)⟩)
  (by kernel_rfl)
end Go.Proofs.YtlimfobeoodkjaaGreatDoor
