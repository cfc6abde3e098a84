/- Chapter 02: the row and the card about Lex. Lex returns the reference's tokens or fault for any source (at most 3000 bytes). -/
import Derived.Test.YtencoceemejcnaaGreatDoorLzT56
import Derived.Test.YtencoceemejcnaaGreatDoorLzT33
set_option linter.unusedSimpArgs false
set_option linter.unusedVariables false
namespace Go.Proofs.TryzL
open Go.Proofs.Lz
set_option maxHeartbeats 4000000
theorem hQ:Rets Vv 13 [.c (.frz none []),.c (.frz none [])] (.c (.bool true)):=by
 refine m7 zo8 ?_;repeat' first|apply j2|exact q7|(apply j7;rfl;rfl)|(apply j9;rfl;rfl;rfl)|(apply jh8;rfl)|(apply w8;focus (repeat (first | exact q8 | (apply v6;rfl))))|apply j1|apply j3|apply j4|apply x3|apply v8|apply w9|(apply v7;rfl)|(with_reducible (first|apply f5|apply f6);intro hc)|(apply s7;rfl)
 try any_goals (exfalso;exact absurd hc (by decide))
 refine I0 (fun n:Nat=>[(0,.c (.frz none [])),(1,.c (.frz none [])),(12,.c (.int .i64 0)),(13,.c (.int .i64 n))]) (fun n=>n=0) (fun n=>0) 0 ?_ rfl ?_
 . repeat' first|exact q8|refine d5 rfl ?_
 rintro n rfl;repeat' first|apply j2|exact q7|(apply j7;rfl;rfl)|(apply j9;rfl;rfl;rfl)|(apply w8;focus (repeat (first | exact q8 | (apply v6;rfl))))|apply j1|apply j3|apply j4|apply x3|apply v8|apply w9|apply l0|apply o0|(apply v7;rfl)|(apply o6;(exact rfl))|(with_reducible (first|apply x6|apply x5);intro hc)|(apply f8;rfl)|(apply aA)|(apply f9;rfl)|(apply s7;rfl)
 try any_goals (exfalso;omega)
 all_goals first | rfl | trace_state
theorem qr3 (a:List Tok) (ha:a.length<=9223372036854775807):Rets Vv 13 [.c (.frz (some 7) (a.map E6)),.c (.frz (some 7) (a.map E6))] (.c (.bool true)):=by
 refine m7 zo8 ?_;repeat' first|apply j2|exact q7|(apply j7;rfl;rfl)|(apply j9;rfl;rfl;rfl)|(apply q83;rfl)|(apply w8;focus (repeat (first | exact q8 | (apply v6;rfl))))|apply j1|apply j3|apply j4|apply x3|apply v8|apply w9|(apply v7;rfl)|(with_reducible (first|apply f5|apply f6);intro hc)|(apply s7;rfl)
 try any_goals (exfalso;omega)
 refine I0 (fun n:Nat=>[(0,.c (.frz (some 7) (a.map E6))),(1,.c (.frz (some 7) (a.map E6))),(12,.c (.int .i64 a.length)),(13,.c (.int .i64 n))]) (fun n=>n<=a.length) (fun n=>a.length - n) 0 ?_ (Nat.zero_le _) ?_
 . repeat' first|exact q8|refine d5 rfl ?_
 rintro n hn;by_cases hnl:n<a.length
 . repeat' first|apply j2|exact q7|(apply j7;rfl;rfl)|(apply fE;rfl;rfl)|(apply b6;rfl;rfl;omega)|(apply j9;rfl;rfl;rfl)|(apply nS;rfl;rfl;rfl)|(apply z45;rfl;rfl;rfl;exact gEg (by omega))|(apply w8;focus (repeat (first | exact q8 | (apply v6;rfl))))|apply j1|apply j3|apply j4|apply x3|apply v8|apply w9|apply l0|apply o0|apply o7|(apply v7;rfl)|(apply o6;(exact rfl))|(with_reducible (first|apply x6|apply x5|apply C0);intro hc)|(apply f8;rfl)|(apply o8;rfl)|(apply aA)|(apply f9;rfl)|(apply s7;rfl)
   try any_goals (exfalso;omega)
   . exfalso;simp at hc
   . refine ⟨n+1,?_,rfl,by omega,by omega⟩;repeat' first|exact q8|refine d5 rfl ?_
 . repeat' first|apply j2|exact q7|(apply j7;rfl;rfl)|(apply fE;rfl;rfl)|(apply b6;rfl;rfl;omega)|(apply j9;rfl;rfl;rfl)|(apply nS;rfl;rfl;rfl)|(apply z45;rfl;rfl;rfl;exact gEg (by omega))|(apply w8;focus (repeat (first | exact q8 | (apply v6;rfl))))|apply j1|apply j3|apply j4|apply x3|apply v8|apply w9|apply l0|apply o0|apply o7|(apply v7;rfl)|(apply o6;(exact rfl))|(with_reducible (first|apply x6|apply x5|apply C0);intro hc)|(apply f8;rfl)|(apply o8;rfl)|(apply aA)|(apply f9;rfl)|(apply s7;rfl)
   try any_goals (exfalso;omega)
   all_goals first | rfl | trace_state
theorem zr0 (a:List Tok) (ha:a.length<=9223372036854775807):Rets Vv 13 [.c (cA a),.c (cA a)] (.c (.bool true)):=by
 cases a with
 | nil=>exact hQ
 | cons t r=>exact qr3 _ ha
theorem j53 (s:List UInt8) {toks:List Tok} (e:V2 s=.ok toks):toks.length<=16384:=by
 unfold V2 at e;split at e
 . cases e
 . have:=ja1 s _ 0 [] (Nat.le_refl _) (Nat.zero_le _);rw [e] at this;exact this
theorem law3 (s:List UInt8) (hl:s.length<=9223372036854775807):Rets Vv 3 [.c (.str s)] (.c (.bool true)):=by
 refine m7 qn1 ?_;have h11:=ja2 s hl;have h12:=qb0 s hl;by_cases hbig:3000<s.length
 . repeat' first|apply j2|exact q7|(apply j7;rfl;rfl)|(apply j9;rfl;rfl;rfl)|(apply u5;rfl)|(apply q6 (hc:=cU);rfl;rfl;rfl)|(apply w8;focus (repeat (exact q8)))|apply j1|apply j3|apply j4|apply w9|(apply v7;rfl)|(with_reducible apply x6;intro hc;try (exfalso;omega))|(with_reducible apply x5;intro hc;try (exfalso;omega))|(apply s7;rfl)
   try any_goals (exfalso;omega)
   all_goals first | rfl | trace_state
 . cases e:V2 s with
   | bad code nm l c=>
     rw [e] at h11 h12;unfold dW i7 at h11 h12;have h13:=hQ;repeat' first|apply j2|exact q7|exact j8 rfl|(apply j7;rfl;rfl)|(apply C5;rfl;rfl;rfl)|(apply j9;rfl;rfl;rfl)|(apply u5;rfl)|(apply nS;rfl;rfl;rfl)|(apply y9;rfl;(with_reducible rfl);rfl)|(apply y0;rfl;(with_reducible rfl);rfl)|(apply A9;rfl;rfl;rfl)|(apply m8;rfl;rfl;first | exact c6 (by first | exact rfl | assumption | exact j0 (by assumption)) | exact m9 (by first | exact rfl | assumption | exact j0 (by assumption)))|(apply u1;rfl;rfl;rfl;rfl;exact u4 (by first | exact rfl | assumption | exact j0 (by assumption)))|(apply A7;rfl;rfl)|(apply q6 (hc:=h11);rfl;rfl;rfl)|(apply q6 (hc:=h12);rfl;rfl;rfl)|(apply q6 (hc:=h13);rfl;rfl;rfl)|(apply q6 (hc:=cU);rfl;rfl;rfl)|(apply w8;focus (repeat (first | exact q8 | (apply v6;rfl))))|apply j1|apply j3|apply j4|apply v8|apply w9|(apply v7;rfl)|(apply x8;rfl;(with_reducible rfl))|(apply b9;rfl;(with_reducible rfl))|(apply y7;rfl)|(with_reducible apply x6;intro hc;try (exfalso;omega))|(with_reducible apply x5;intro hc;try (exfalso;omega))|(with_reducible apply C0;intro hc)|(apply s7;rfl)
     try any_goals (exfalso;omega)
     all_goals first | rfl | (exfalso;simp at hc;done) | trace_state
   | ok toks=>
     rw [e] at h11 h12;have hlen:toks.length<=16384:=by
      have:=j53 s e;exact this
     unfold dW zF at h11 h12;have h13:=zr0 toks (by omega);repeat' first|apply j2|exact q7|exact j8 rfl|(apply j7;rfl;rfl)|(apply C5;rfl;rfl;rfl)|(apply j9;rfl;rfl;rfl)|(apply u5;rfl)|(apply nS;rfl;rfl;rfl)|(apply y9;rfl;(with_reducible rfl);rfl)|(apply y0;rfl;(with_reducible rfl);rfl)|(apply A9;rfl;rfl;rfl)|(apply m8;rfl;rfl;first | exact c6 (by first | exact rfl | assumption | exact j0 (by assumption)) | exact m9 (by first | exact rfl | assumption | exact j0 (by assumption)))|(apply u1;rfl;rfl;rfl;rfl;exact u4 (by first | exact rfl | assumption | exact j0 (by assumption)))|(apply A7;rfl;rfl)|(apply q6 (hc:=h11);rfl;rfl;rfl)|(apply q6 (hc:=h12);rfl;rfl;rfl)|(apply q6 (hc:=h13);rfl;rfl;rfl)|(apply q6 (hc:=cU);rfl;rfl;rfl)|(apply w8;focus (repeat (first | exact q8 | (apply v6;rfl))))|apply j1|apply j3|apply j4|apply v8|apply w9|(apply v7;rfl)|(apply x8;rfl;(with_reducible rfl))|(apply b9;rfl;(with_reducible rfl))|(apply y7;rfl)|(with_reducible apply x6;intro hc;try (exfalso;omega))|(with_reducible apply x5;intro hc;try (exfalso;omega))|(with_reducible apply C0;intro hc)|(apply s7;rfl)
     try any_goals (exfalso;omega)
     all_goals first | rfl | (exfalso;simp at hc;done) | trace_state
end Go.Proofs.TryzL
set_option maxRecDepth 100000
namespace Go.Proofs.YtencoceemejcnaaGreatDoor
open Go.ChangeShapes Go.WideShapes Go.ChangeAt Go.RowKit Go.Proofs.Lz
open Go.Proofs.TryzL
theorem zq8 (xs:List CV) (h:jX Tryz.prog 6 Tryz.f3.params.toList xs):∃ H',ev Ev 3 (xs.map .c) []=some (.c (.bool true),H'):=by
 rw [Tryz.params3] at h;obtain ⟨x1,y1,e1,k1,h⟩:=zr1 h;have en:=jd2 h;obtain ⟨a1,ea1,ha1⟩:=qu5 k1;subst ea1;rw [e1,en];obtain ⟨H',h⟩:=qo3 (law3 a1 ha1);exact q92 zx8 h
theorem qs2:Rows.LexerLexesSaid:=
 OpenClaim.holds_of_wide 3 Tryz.f3 rfl rfl rfl rfl rfl rfl rfl ⟨rfl,rfl,rfl,rfl,rfl⟩ rfl rfl rfl rfl rfl (by kernel_rfl) Tryz.func3 (by kernel_rfl)
  (of_decide_eq_true (by kernel_rfl)) (by unfold Func.isWrapper;first | (rw [if_pos (by decide +kernel)];kernel_rfl) | (rw [if_neg (by decide +kernel)];exact ⟨rfl,rfl⟩))
  (fun os started H enc _=>qv1 (s:=Rows.lexerLexesSpec) os started enc Tryz.func3 (by kernel_rfl) (by kernel_rfl) rfl rfl (fun ds h=>by match ds,h with | [d1],_=>rfl)
    (ChangeSpec.witness_shaped (enc:=enc) (C:=Tryz.checked) (os:=os) (X:=fun w _=>laidMetH Tryz.prog W6 w) false (World.laidAll Tryz.prog os W6) #[.string (.mk #[])] 8 (World.laidAll_os _ _ _)
      (qe8 os) (by kernel_rfl) (by kernel_rfl) (by kernel_rfl) (qe2 os _))
    zq8)
theorem lexerLexes_card:Rows.LexerLexesCardSaid:=
 Claim7.holds_tied_plain_at .later [] [.data,.data,.data,.data,.sentinel,.sentinel,.pinned] true (true,"641a6eedb85e9fcdfc4a04b463ac295cc2ee5868a244e0a5b5af0ed3d49ea37c") true qs2 (fun _ h=>by cases h) (by kernel_rfl) (fun _ h=>by cases h) lexerLexes_row_tie rfl ⟨rfl,rfl⟩ (by kernel_rfl) rfl
  (fun f fn hf hfn=>by
    obtain rfl:f=3:=Option.some.inj ((show Tryz.prog.funcNamed "lazyc/lazyclaw02.LexerLexes"=some 3 by kernel_rfl).symm.trans hf) |>.symm
    obtain rfl:fn=Tryz.f3:=(Option.some.inj (Tryz.func3.symm.trans hfn)).symm;exact ⟨by kernel_rfl,fun j t ht=>by
     rw [Tryz.params3] at ht;have hm:t∈[9]:=by simpa using Array.mem_of_getElem? ht
     have hall:([9].all fun u=>!Tryz.prog.wantsStandIn u)=true:=by kernel_rfl
     exact (show Tryz.prog.wantsStandIn t=false by simpa using List.all_eq_true.1 hall t hm)⟩)
  (by kernel_rfl)
end Go.Proofs.YtencoceemejcnaaGreatDoor
