/- Chapter 02: the row and the card about Quote and QuoteChar. They return the reference's results, and are literals with these contents (at most 200 bytes). -/
import Derived.Test.YtencoceemejcnaaGreatDoorLzT37
import Derived.Test.YtencoceemejcnaaGreatDoorLzSeat02c
set_option linter.unusedSimpArgs false
set_option linter.unusedVariables false
namespace Go.Proofs.TryzL
set_option maxHeartbeats 4000000
theorem j15 {t:List UInt8} {op:Int} (h:(op=1∧z86 t=1)∨(op=2∧z86 t=2)∨(op=3∧z86 t=3)∨(op=4∧z86 t=4)∨(op=9∧z86 t=5)∨(op=10∧z86 t=6)):nmOp t=op:=by
 unfold nmOp
 rcases h with ⟨rfl,h⟩ | ⟨rfl,h⟩ | ⟨rfl,h⟩ | ⟨rfl,h⟩ | ⟨rfl,h⟩ | ⟨rfl,h⟩<;>rw [h]<;>rfl
theorem q79 {s t z q:List UInt8} {i:Nat} {op:Int} (hq:q=[]∨z86 q=2) (hs:s.drop i=(if q=[] then t else q++[46]++t)++z) (hz:Sep z) (h:(op=1∧z86 t=1)∨(op=2∧z86 t=2)∨(op=3∧z86 t=3)∨(op=4∧z86 t=4)):∃ c,s[i]?=some c∧za1 s i c=none∧z62 s i c=.tok op q t 0 (i+(if q=[] then t else q++[46]++t).length):=by
 have hop:nmOp t=op:=j15 (by rcases h with h | h | h | h<;>simp [h])
 by_cases hq0:q=[]
 · subst hq0
   simp only [if_true] at hs ⊢
   rw [← hop]
   rcases h with ⟨_,h⟩ | ⟨_,h⟩ | ⟨_,h⟩ | ⟨_,h⟩
   · exact j46 hs hz (zx5 (.inl h))
   · exact j46 hs hz (zx5 (.inr (.inl h)))
   · exact jn8 hs hz (qb1 (.inl h))
   · exact jn8 hs hz (qb1 (.inr (.inl h)))
 · have hq2:z86 q=2:=hq.resolve_left hq0
   rw [if_neg hq0] at hs ⊢
   have hu:q09 q=true:=by
    have h:=hq2
    unfold z86 at h
    cases hu:q09 q with
    | true=>rfl
    | false=>
      simp only [hu,Bool.and_false,Bool.false_eq_true,if_false] at h
      repeat' (split at h)
      all_goals omega
   have:=wf2 (s:=s) (q:=q) (t:=t) (z:=z) (i:=i) (by rw [hs];simp) hz (zx5 (.inr (.inl hq2))) hu (by
    rcases h with ⟨_,h⟩ | ⟨_,h⟩ | ⟨_,h⟩ | ⟨_,h⟩
    · exact .inl ⟨zx5 (.inl h),by omega⟩
    · exact .inl ⟨zx5 (.inr (.inl h)),by omega⟩
    · exact .inr ⟨qb1 (.inl h),by omega⟩
    · exact .inr ⟨qb1 (.inr (.inl h)),by omega⟩)
   rw [hop] at this
   have e:i+q.length+1+t.length=i+(q++[46]++t).length:=by simp;omega
   rw [e] at this
   exact this
theorem jo5 {s z q t:List UInt8} {i:Nat} {op n:Int} (hp:q01 op q t n=true) (hn:n≤9223372036854775807) (hs:s.drop i=textS op q t n++z) (hz:Sep z) :
 ∃ c,s[i]?=some c∧za1 s i c=none∧z62 s i c=.tok op q t n (i+(textS op q t n).length):=by
 unfold q01 at hp
 simp only [Bool.and_eq_true,Bool.or_eq_true,decide_eq_true_eq] at hp
 obtain ⟨hq,hb⟩:=hp
 have hq':q=[]∨z86 q=2:=hq.imp id (fun h=>h.2)
 have hq0:¬ (1≤op∧op≤4)→q=[]:=fun h=>hq.resolve_right (fun g=>h g.1)
 unfold textS at hs ⊢
 unfold w42 at hb
 by_cases o1:op=1
 · subst o1
   simp at hb hs ⊢
   obtain ⟨h1,rfl⟩:=hb
   simpa using q79 hq' (by simpa using hs) hz (.inl ⟨rfl,h1⟩)
 by_cases o2:op=2
 · subst o2
   simp at hb hs ⊢
   obtain ⟨h1,rfl⟩:=hb
   simpa using q79 hq' (by simpa using hs) hz (.inr (.inl ⟨rfl,h1⟩))
 by_cases o3:op=3
 · subst o3
   simp at hb hs ⊢
   obtain ⟨h1,rfl⟩:=hb
   simpa using q79 hq' (by simpa using hs) hz (.inr (.inr (.inl ⟨rfl,h1⟩)))
 by_cases o4:op=4
 · subst o4
   simp at hb hs ⊢
   obtain ⟨h1,rfl⟩:=hb
   simpa using q79 hq' (by simpa using hs) hz (.inr (.inr (.inr ⟨rfl,h1⟩)))
 have hqe:q=[]:=hq0 (by omega)
 subst hqe
 simp only [if_neg o1,if_neg o2,if_neg o3,if_neg o4] at hb
 by_cases o9:op=9
 · subst o9
   simp at hb hs ⊢
   obtain ⟨h1,rfl⟩:=hb
   have:=j46 hs hz (zx5 (.inr (.inr h1)))
   rw [j15 (.inr (.inr (.inr (.inr (.inl ⟨rfl,h1⟩)))))] at this
   exact this
 by_cases o10:op=10
 · subst o10
   simp at hb hs ⊢
   obtain ⟨h1,rfl⟩:=hb
   have:=jn8 hs hz (qb1 (.inr (.inr h1)))
   rw [j15 (.inr (.inr (.inr (.inr (.inr ⟨rfl,h1⟩)))))] at this
   exact this
 simp only [if_neg o9,if_neg o10] at hb
 by_cases o8:op=8
 · subst o8
   simp only [if_true,Bool.and_eq_true,decide_eq_true_eq] at hb
   simp at hs ⊢
   obtain ⟨⟨h1,h2⟩,rfl⟩:=hb
   obtain ⟨c,rfl⟩:=List.length_eq_one_iff.1 h1
   exact ⟨c,wx3 hs hz h2⟩
 simp only [if_neg o8] at hb
 by_cases o7:op=7
 · subst o7
   simp only [if_true,Bool.and_eq_true,decide_eq_true_eq] at hb
   obtain ⟨h1,rfl⟩:=hb
   rw [if_neg (by decide),if_neg (by decide),if_pos rfl] at hs ⊢
   exact ⟨34,ws2 hs h1⟩
 simp only [if_neg o7] at hb
 by_cases o5:op=5
 · subst o5
   simp only [if_true,Bool.and_eq_true,decide_eq_true_eq] at hb
   obtain ⟨rfl,h1⟩:=hb
   rw [if_pos rfl] at hs ⊢
   exact wt8 ⟨h1,hn⟩ hs hz
 simp only [if_neg o5] at hb
 by_cases o6:op=6
 · subst o6
   simp only [if_true,Bool.and_eq_true,decide_eq_true_eq] at hb
   obtain ⟨⟨rfl,h1⟩,h2⟩:=hb
   rw [if_neg (by decide),if_pos rfl] at hs ⊢
   unfold qcS at hs ⊢
   rw [if_pos ⟨h1,h2⟩] at hs ⊢
   have e:(((UInt8.ofNat n.toNat).toNat:Nat):Int)=n:=by simp;omega
   have:=wn0 hs
   rw [e] at this
   exact ⟨39,this⟩
 simp [o6] at hb
def wx0 (b:List UInt8):Prop:=∀ x∈b,x=32∨x=10
def Lay:List Tok→List UInt8→Prop
 | [],w=>w=[]
 | t::r,w=>∃ b w',w=b++(tokT t++w')∧wx0 b∧Sep w'∧Lay r w'
theorem w48 {s q t z:List UInt8} {i:Nat} {op n:Int} {acc:List Tok} (hp:q01 op q t n=true) (hn:n≤9223372036854775807) (hs:s.drop i=textS op q t n++z) (hz:Sep z) (hne:textS op q t n≠[]) (ha:acc.length<16384) :
 lexU s i acc=lexU s (i+(textS op q t n).length) (acc++[⟨op,q,t,n,false,(plc s i).1,(plc s i).2⟩]):=by
 obtain ⟨c,hc,hb,hu⟩:=jo5 hp hn hs hz
 obtain ⟨hi,e⟩:=List.getElem?_eq_some_iff.1 hc
 rw [lexU,dif_pos hi]
 simp only [e,hb,hu]
 rw [if_neg (by omega),dif_pos (by have:=List.length_pos_iff.2 hne;omega)]
theorem wr2 {q t:List UInt8} {op n:Int} (hp:q01 op q t n=true) (hn:n≤9223372036854775807):textS op q t n≠[]:=by
 intro h
 obtain ⟨c,hc,_⟩:=jo5 (s:=[]) (z:=[]) (i:=0) hp hn (by rw [h];rfl) (.inl rfl)
 cases hc
theorem qh5 {q t:List UInt8} {op n:Int} (hp:q01 op q t n=true) (hn:n≤9223372036854775807):lexU (textS op q t n) 0 []=.ok [⟨op,q,t,n,false,1,1⟩]:=by
 rw [w48 (s:=textS op q t n) (z:=[]) (i:=0) hp hn (by simp) (.inl rfl) (wr2 hp hn) (by simp),lexU,dif_neg (by omega)]
 rfl
end Go.Proofs.TryzL
namespace Go.Proofs.TryzL
open Go.Proofs.Lz
set_option maxHeartbeats 4000000
theorem qo8 (c m:UInt8):(escB c m).length≤4:=by
 unfold escB
 repeat' split
 all_goals simp
theorem j77 (m:UInt8):∀ s:List UInt8,(escS s m).length≤4 * s.length:=by
 intro s
 induction s with
 | nil=>simp [escS]
 | cons c r ih=>
   have:=qo8 c m
   simp only [escS,List.flatMap_cons,List.length_append,List.length_cons] at ih ⊢
   omega
theorem wj8 {s:List UInt8} (h:s.length≤200):zy6 ([34]++escS s 34++[34])=.ok [⟨7,[],s,0,false,1,1⟩]:=by
 have hp:q01 7 [] s 0=true:=by simp [q01,w42,h]
 have:=qh5 hp (by decide)
 have e:textS 7 [] s 0=[34]++escS s 34++[34]:=rfl
 rw [e] at this
 unfold zy6
 rw [if_neg,this]
 have:=j77 34 s
 simp
 omega
theorem wi0 {n:Int} (h:0≤n∧n≤255):zy6 (qcS n)=.ok [⟨6,[],[],n,false,1,1⟩]:=by
 have hp:q01 6 [] [] n=true:=by simp [q01,w42,h]
 have:=qh5 hp (by omega)
 have e:textS 6 [] [] n=qcS n:=rfl
 rw [e] at this
 unfold zy6
 rw [if_neg,this]
 unfold qcS
 rw [if_pos h]
 have:=qo8 (UInt8.ofNat n.toNat) 39
 simp
 omega
theorem law8 (s:List UInt8) (n:Int) (hs:s.length≤9223372036854775807) (hn:-9223372036854775808≤n∧n≤9223372036854775807):Rets Vv 8 [.c (.str s),.c (.int .i64 n)] (.c (.bool true)):=by
 refine z83 vfn8 ?_
 by_cases hl:s.length≤200
 · have h19:=wc3 s (by omega)
   have h21:=wm8 s (by omega)
   have h20:=qc20 n
   have h22:=qc22 n
   have h11:=wr8 ([34]++escS s 34++[34]) (by have:=j77 34 s;simp;omega)
   rw [wj8 hl] at h11
   have h11:Rets Vv 11 [.c (.str ([34]++escS s 34++[34]))] (.tup [.c (.frz (some 7) [.agg [.int .i64 7,.str [],.str s,.int .i64 0,.bool false,.int .i64 1,.int .i64 1]]),.c (.agg [.int .i64 0,.str [],.int .i64 0,.int .i64 0])]):=h11
   generalize [34]++escS s 34++[34]=q at *
   by_cases hr:0≤n∧n≤255
   · have h12:=wr8 (qcS n) (by unfold qcS;rw [if_pos hr];have:=qo8 (UInt8.ofNat n.toNat) 39;simp;omega)
     rw [wi0 hr] at h12
     have h12:Rets Vv 11 [.c (.str (qcS n))] (.tup [.c (.frz (some 7) [.agg [.int .i64 6,.str [],.str [],.int .i64 n,.bool false,.int .i64 1,.int .i64 1]]),.c (.agg [.int .i64 0,.str [],.int .i64 0,.int .i64 0])]):=h12
     generalize qcS n=w at *
     repeat' first
      | apply z01
      | exact z13
      | exact z19 rfl
      | exact w88 rfl
      | (apply z17;rfl;rfl)
      | (apply j61;rfl;rfl)
      | (apply za0;(iterate 3 rfl))
      | (apply z30;(iterate 3 rfl))
      | (apply z42;rfl)
      | (apply qi2;rfl)
      | (apply w83;(iterate 3 rfl))
      | (apply z18;rfl;(with_reducible rfl);rfl)
      | (apply z16;rfl;(with_reducible rfl);rfl)
      | (apply wv3;(iterate 4 rfl))
      | (apply z66;(iterate 3 rfl))
      | (apply zi1;rfl;exact qw2 rfl)
      | (apply z54;(iterate 3 rfl))
      | (apply zj5;rfl;rfl;first | exact zb7 (by first | exact rfl | assumption | exact z25 (by assumption)) | exact ze6 (by first | exact rfl | assumption | exact z25 (by assumption)))
      | (apply z29;(iterate 4 rfl);exact z32 (by first | exact rfl | assumption | exact z25 (by assumption)))
      | (apply z92;rfl;rfl)
      | (apply z05 (hc:=h19);rfl;rfl;rfl)
      | (apply z05 (hc:=h20);rfl;rfl;rfl)
      | (apply z05 (hc:=h21);rfl;rfl;rfl)
      | (apply z05 (hc:=h22);rfl;rfl;rfl)
      | (apply z05 (hc:=h11);rfl;rfl;rfl)
      | (apply z05 (hc:=h12);rfl;rfl;rfl)
      | (apply z05 (hc:=j40);rfl;rfl;rfl)
      | (apply z04;focus (repeat (first | exact z28 | (apply kq_c;rfl))))
      | apply z02
      | apply z00
      | apply z03
      | apply z12
      | apply z15
      | (apply z39;rfl;(with_reducible rfl))
      | (apply z14;rfl)
      | (apply z50;rfl;(with_reducible rfl))
      | (apply z48;rfl;(with_reducible rfl))
      | (apply z41;rfl;(with_reducible rfl))
      | (apply z40;rfl)
      | with_reducible apply z64
      | with_reducible apply z63
      | (with_reducible apply za2;intro hc)
      | (with_reducible apply zs8;intro hc)
      | (with_reducible apply z73;intro hc)
      | (with_reducible apply zi5;intro hc)
      | (with_reducible apply zm4;intro hc)
      | (with_reducible apply zg8;intro hc)
      | (with_reducible apply z78;intro hc)
      | (with_reducible apply z57;intro hc)
      | (with_reducible apply zh7;intro hc)
      | (apply zb5;rfl)
     all_goals first | rfl | (exfalso;omega) | (exfalso;simp_all;done) | trace_state
   · have hq:qcS n=[]:=by unfold qcS;rw [if_neg hr]
     rw [hq] at h20 h22
     repeat' first
      | apply z01
      | exact z13
      | exact z19 rfl
      | exact w88 rfl
      | (apply z17;rfl;rfl)
      | (apply j61;rfl;rfl)
      | (apply za0;(iterate 3 rfl))
      | (apply z30;(iterate 3 rfl))
      | (apply z42;rfl)
      | (apply qi2;rfl)
      | (apply w83;(iterate 3 rfl))
      | (apply z18;rfl;(with_reducible rfl);rfl)
      | (apply z16;rfl;(with_reducible rfl);rfl)
      | (apply wv3;(iterate 4 rfl))
      | (apply z66;(iterate 3 rfl))
      | (apply zi1;rfl;exact qw2 rfl)
      | (apply z54;(iterate 3 rfl))
      | (apply zj5;rfl;rfl;first | exact zb7 (by first | exact rfl | assumption | exact z25 (by assumption)) | exact ze6 (by first | exact rfl | assumption | exact z25 (by assumption)))
      | (apply z29;(iterate 4 rfl);exact z32 (by first | exact rfl | assumption | exact z25 (by assumption)))
      | (apply z92;rfl;rfl)
      | (apply z05 (hc:=h19);rfl;rfl;rfl)
      | (apply z05 (hc:=h20);rfl;rfl;rfl)
      | (apply z05 (hc:=h21);rfl;rfl;rfl)
      | (apply z05 (hc:=h22);rfl;rfl;rfl)
      | (apply z05 (hc:=h11);rfl;rfl;rfl)
      | (apply z05 (hc:=j40);rfl;rfl;rfl)
      | (apply z04;focus (repeat (first | exact z28 | (apply kq_c;rfl))))
      | apply z02
      | apply z00
      | apply z03
      | apply z12
      | apply z15
      | (apply z39;rfl;(with_reducible rfl))
      | (apply z14;rfl)
      | (apply z50;rfl;(with_reducible rfl))
      | (apply z48;rfl;(with_reducible rfl))
      | (apply z41;rfl;(with_reducible rfl))
      | (apply z40;rfl)
      | with_reducible apply z64
      | with_reducible apply z63
      | (with_reducible apply zs8;intro hc)
      | (with_reducible apply zi5;intro hc)
      | (with_reducible apply zm4;intro hc)
      | (with_reducible apply zg8;intro hc)
      | (with_reducible apply z78;intro hc)
      | (with_reducible apply z57;intro hc)
      | (with_reducible apply zh7;intro hc)
      | (apply zb5;rfl)
     all_goals first | rfl | (exfalso;omega) | (exfalso;simp_all;done) | trace_state
 · repeat' first
    | apply z01
    | exact z13
    | (apply z17;rfl;rfl)
    | (apply z30;(iterate 3 rfl))
    | (apply z42;rfl)
    | (apply z05 (hc:=j40);rfl;rfl;rfl)
    | (apply z04;focus (repeat (first | exact z28 | (apply kq_c;rfl))))
    | apply z02
    | apply z00
    | apply z03
    | apply z12
    | apply z15
    | (apply z14;rfl)
    | (with_reducible apply z78;intro hc)
    | (with_reducible apply z57;intro hc)
    | (apply zb5;rfl)
   all_goals first | rfl | (exfalso;omega) | trace_state
end Go.Proofs.TryzL
set_option maxRecDepth 100000
namespace Go.Proofs.YtencoceemejcnaaGreatDoor
open Go.ChangeShapes Go.WideShapes Go.ChangeAt Go.RowKit Go.Proofs.Lz
open Go.Proofs.TryzL
theorem qe2 (xs:List CV) (h:q70 Tryz.prog 6 Tryz.f8.params.toList xs):∃ H',ev Ev 8 (xs.map .c) []=some (.c (.bool true),H'):=by
 rw [Tryz.params8] at h
 obtain ⟨x1,y1,e1,k1,h⟩:=qv4 h
 obtain ⟨x2,y2,e2,k2,h⟩:=qv4 h
 have en:=w56 h
 obtain ⟨a1,ea1,ha1⟩:=wf4 k1
 obtain ⟨a2,ea2,ha2⟩:=wh0 k2
 subst ea1 ea2
 rw [e1,e2,en]
 obtain ⟨H',h⟩:=jm9 (law8 a1 a2 ha1 ha2)
 exact wy5 envR h
theorem q46:Rows.LexerQuotesSaid:=
 OpenClaim.holds_of_wide 8 Tryz.f8 rfl rfl rfl rfl rfl rfl rfl ⟨rfl,rfl,rfl,rfl,rfl⟩ rfl rfl rfl rfl rfl (by kernel_rfl) Tryz.func8 (by kernel_rfl)
  (of_decide_eq_true (by kernel_rfl)) (by unfold Func.isWrapper;first | (rw [if_pos (by decide +kernel)];kernel_rfl) | (rw [if_neg (by decide +kernel)];exact ⟨rfl,rfl⟩))
  (fun os started H enc _=>wq9 (s:=Rows.lexerQuotesSpec) os started enc Tryz.func8 (by kernel_rfl) (by kernel_rfl) rfl rfl (fun ds h=>by match ds,h with | [d1,d2],_=>rfl)
    (ChangeSpec.witness_shaped (enc:=enc) (C:=Tryz.checked) (os:=os) (X:=fun w _=>laidMetH Tryz.prog zo0 w) false (World.laidAll Tryz.prog os zo0) #[.string (.mk #[]),.int .i64 0] 8 (World.laidAll_os _ _ _)
      (qv3 os) (by kernel_rfl) (by kernel_rfl) (by kernel_rfl) (jg8 os _))
    qe2)
theorem lexerQuotes_card:Rows.LexerQuotesCardSaid:=
 Claim7.holds_tied_plain_at .later [] [.data,.data,.data,.data,.sentinel,.sentinel,.pinned] true (true,"641a6eedb85e9fcdfc4a04b463ac295cc2ee5868a244e0a5b5af0ed3d49ea37c") true q46 (fun _ h=>by cases h) (by kernel_rfl) (fun _ h=>by cases h) lexerQuotes_row_tie rfl ⟨rfl,rfl⟩ (by kernel_rfl) rfl
  (fun f fn hf hfn=>by
    obtain rfl:f=8:=Option.some.inj ((show Tryz.prog.funcNamed "lazyc/lazyclaw02.LexerQuotes"=some 8 by kernel_rfl).symm.trans hf) |>.symm
    obtain rfl:fn=Tryz.f8:=(Option.some.inj (Tryz.func8.symm.trans hfn)).symm
    exact ⟨by kernel_rfl,fun j t ht=>by
     rw [Tryz.params8] at ht
     have hm:t∈[9,3]:=by simpa using Array.mem_of_getElem? ht
     have hall:([9,3].all fun u=>!Tryz.prog.wantsStandIn u)=true:=by kernel_rfl
     exact (show Tryz.prog.wantsStandIn t=false by simpa using List.all_eq_true.1 hall t hm)⟩)
  (by kernel_rfl)
end Go.Proofs.YtencoceemejcnaaGreatDoor
