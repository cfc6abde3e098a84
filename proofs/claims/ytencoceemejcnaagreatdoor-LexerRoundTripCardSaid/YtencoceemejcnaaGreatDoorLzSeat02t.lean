/- Chapter 02: the row and the card about rendered tokens. The tokens of the rendered tokens are the same ones, apart from their positions (at most 300 tokens with at most 300 bytes each). -/
import Derived.Test.YtencoceemejcnaaGreatDoorLzT34
import Derived.Test.YtencoceemejcnaaGreatDoorLzT60
set_option linter.unusedVariables false
set_option linter.unusedSimpArgs false
set_option maxRecDepth 100000
namespace Go.Proofs.YtencoceemejcnaaGreatDoor
open Go.ChangeShapes Go.WideShapes Go.ChangeAt Go.RowKit Go.Proofs.Lz
open Go.Proofs.TryzL
theorem q22 (xs:List CV) (h:q82 Tryz.prog 6 Tryz.f6.params.toList xs):∃ H',ev Ev 6 (xs.map .c) []=some (.c (.bool true),H'):=by
 rw [Tryz.params6] at h
 obtain ⟨x1,y1,e1,k1,h⟩:=jo0 h
 have en:=w81 h
 obtain ⟨a1,ea1,ha1,hi1⟩:=w52 k1
 subst ea1
 rw [e1,en]
 obtain ⟨H',h⟩:=ju4 (law6 a1 ha1 hi1)
 exact v50 envR h
theorem zz9:Rows.LexerRoundTripSaid:=
 OpenClaim.holds_of_wide 6 Tryz.f6 rfl rfl rfl rfl rfl rfl rfl ⟨rfl,rfl,rfl,rfl,rfl⟩ rfl rfl rfl rfl rfl (by kernel_rfl) Tryz.func6 (by kernel_rfl)
  (of_decide_eq_true (by kernel_rfl)) (by unfold Func.isWrapper;first | (rw [if_pos (by decide +kernel)];kernel_rfl) | (rw [if_neg (by decide +kernel)];exact ⟨rfl,rfl⟩))
  (fun os started H enc _=>v00 (s:=Rows.lexerRoundTripSpec) os started enc Tryz.func6 (by kernel_rfl) (by kernel_rfl) rfl rfl (fun ds h=>by match ds,h with | [d1],_=>rfl)
    (ChangeSpec.witness_shaped (enc:=enc) (C:=Tryz.checked) (os:=os) (X:=fun w _=>laidMetH Tryz.prog zp5 w) false (World.laidAll Tryz.prog os zp5) #[.slice none 0 0] 8 (World.laidAll_os _ _ _)
      (qz0 os) (by kernel_rfl) (by kernel_rfl) (by kernel_rfl) (jh6 os _))
    q22)
theorem lexerRoundTrip_card:Rows.LexerRoundTripCardSaid:=
 Claim7.holds_tied_plain_at .later [] [.data,.data,.data,.data,.sentinel,.sentinel,.pinned] true (true,"641a6eedb85e9fcdfc4a04b463ac295cc2ee5868a244e0a5b5af0ed3d49ea37c") true zz9 (fun _ h=>by cases h) (by kernel_rfl) (fun _ h=>by cases h) lexerRoundTrip_row_tie rfl ⟨rfl,rfl⟩ (by kernel_rfl) rfl
  (fun f fn hf hfn=>by
    obtain rfl:f=6:=Option.some.inj ((show Tryz.prog.funcNamed "lazyc/lazyclaw02.LexerRoundTrip"=some 6 by kernel_rfl).symm.trans hf) |>.symm
    obtain rfl:fn=Tryz.f6:=(Option.some.inj (Tryz.func6.symm.trans hfn)).symm
    exact ⟨by kernel_rfl,fun j t ht=>by
     rw [Tryz.params6] at ht
     have hm:t∈[23]:=by simpa using Array.mem_of_getElem? ht
     have hall:([23].all fun u=>!Tryz.prog.wantsStandIn u)=true:=by kernel_rfl
     exact (show Tryz.prog.wantsStandIn t=false by simpa using List.all_eq_true.1 hall t hm)⟩)
  (by kernel_rfl)
end Go.Proofs.YtencoceemejcnaaGreatDoor
