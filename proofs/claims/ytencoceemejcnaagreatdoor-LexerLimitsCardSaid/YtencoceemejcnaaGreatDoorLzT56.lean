/- Chapter 02: the law about limits. -/
import Derived.Test.YtencoceemejcnaaGreatDoorLzT52
import Derived.Test.YtencoceemejcnaaGreatDoorLzT34
set_option linter.unusedSimpArgs false
set_option linter.unusedVariables false
namespace Go.Proofs.TryzL
open Go.Proofs.Lz
theorem qn3 {p:UInt8→Bool} {s:List UInt8} {i:Nat} {c:UInt8} (h:s[i]?=some c) (hp:p c=true):1≤(z82 p s i).length:=by
 rw [qr5 h hp]
 simp
theorem jj1 {i:Nat} {q t q' t':List UInt8} {e e':Nat} {op n:Int} (h:zl8 i q t e=.tok op q' t' n e'):e'=e:=by
 unfold zl8 at h
 split at h
 · cases h
 · split at h
   · cases h
   · injection h with _ _ _ _ h;exact h.symm
theorem wk2 {s:List UInt8} {i:Nat} {m:UInt8}:∀ n text j t e,s.length - j≤n→litS s i m text j=.ok t e→j<e∧e≤s.length:=by
 intro n
 induction n with
 | zero=>
   intro text j t e hn h
   have hs:zi8 s i j=some (7,i):=by unfold zi8;rw [List.getElem?_eq_none (by omega)]
   rw [qn5 hs] at h;cases h
 | succ n ih=>
   intro text j t e hn h
   cases hs:zi8 s i j with
   | some cp=>obtain ⟨a,b⟩:=cp;rw [qn5 hs] at h;cases h
   | none=>
     have hlt:=zv3 hs
     rw [jp6 hs] at h
     split at h
     · injection h with _ h;omega
     · split at h
       · cases h
       · split at h
         · cases h
         · rename_i hch
           have h1:=qj7 hch
           split at h
           · cases h
           · have:=ih _ _ _ _ (by omega) h;omega
theorem qp6 {s q t:List UInt8} {i e:Nat} {c:UInt8} {op n:Int} (hc:s[i]?=some c) (h:z71 s i c=.tok op q t n e):i<e∧e≤s.length:=by
 have hlt:i<s.length:=(List.getElem?_eq_some_iff.1 hc).1
 unfold z71 at h
 split at h
 · rename_i hcl
   have h1:=qn3 (p:=zb0) hc (by unfold zb0;rw [hcl];rfl)
   have h2:=zg3 (p:=zb0) (s:=s) (i:=i) (by omega)
   unfold zx6 at h
   dsimp only at h
   split at h
   · rename_i hq
     have h3:=jj1 h
     have h4:i+(z82 zb0 s i).length<s.length:=(List.getElem?_eq_some_iff.1 hq.2.1).1
     have h5:=j63 (s:=s) (j:=i+(z82 zb0 s i).length+1) (by omega)
     omega
   · have h3:=jj1 h
     omega
 · split at h
   · rename_i hd
     have h1:=qn3 (p:=z94) hc hd
     have h2:=zg3 (p:=z94) (s:=s) (i:=i) (by omega)
     unfold numU at h
     split at h
     · cases h
     · injection h with _ _ _ _ h;omega
   · split at h
     · unfold litU at h
       cases hr:litS s i c [] (i+1) with
       | bad a b=>rw [hr] at h;cases h
       | ok t' e'=>
         rw [hr] at h
         have h1:=wk2 _ _ _ _ _ (Nat.le_refl _) hr
         unfold quoU at h
         dsimp only at h
         split at h
         · split at h
           · cases h
           · injection h with _ _ _ _ h;omega
         · injection h with _ _ _ _ h;omega
     · split at h
       · rename_i hs
         have h1:=qn3 (p:=symB) hc hs
         have h2:=zg3 (p:=symB) (s:=s) (i:=i) (by omega)
         have h3:=jj1 h
         omega
       · split at h
         · injection h with _ _ _ _ h;omega
         · cases h
end Go.Proofs.TryzL
namespace Go.Proofs.TryzL
open Go.Proofs.Lz
set_option maxHeartbeats 4000000
theorem qr2 {s:List UInt8} {i e:Nat} {c:UInt8} {acc:List Tok} (hc:s[i]?=some c) (h:zf8 s i c=some (.skip e)):lexU s i acc=lexU s e acc:=by
 obtain ⟨hi,rfl⟩:=List.getElem?_eq_some_iff.1 hc
 rw [lexU,dif_pos hi,h]
 dsimp only
 rw [dif_pos (q93 hc h).1]
theorem j61 {s nm:List UInt8} {i code p:Nat} {c:UInt8} {acc:List Tok} (hc:s[i]?=some c) (h:zf8 s i c=some (.bad code p nm)):lexU s i acc=.bad code nm (plc s p).1 (plc s p).2:=by
 obtain ⟨hi,rfl⟩:=List.getElem?_eq_some_iff.1 hc
 rw [lexU,dif_pos hi,h]
theorem qg1 {s nm:List UInt8} {i code p:Nat} {c:UInt8} {acc:List Tok} (hc:s[i]?=some c) (h:zf8 s i c=none) (hu:z71 s i c=.bad code p nm):lexU s i acc=.bad code nm (plc s p).1 (plc s p).2:=by
 obtain ⟨hi,rfl⟩:=List.getElem?_eq_some_iff.1 hc
 rw [lexU,dif_pos hi,h]
 dsimp only
 rw [hu]
theorem qr3 {s q t:List UInt8} {i e:Nat} {op n:Int} {c:UInt8} {acc:List Tok} (hc:s[i]?=some c) (h:zf8 s i c=none) (hu:z71 s i c=.tok op q t n e) (ha:16384≤acc.length):lexU s i acc=.bad 3 [] (plc s i).1 (plc s i).2:=by
 obtain ⟨hi,rfl⟩:=List.getElem?_eq_some_iff.1 hc
 rw [lexU,dif_pos hi,h]
 dsimp only
 rw [hu]
 dsimp only
 rw [if_pos ha]
theorem j72 {s q t:List UInt8} {i e:Nat} {op n:Int} {c:UInt8} {acc:List Tok} (hc:s[i]?=some c) (h:zf8 s i c=none) (hu:z71 s i c=.tok op q t n e) (ha:¬ 16384≤acc.length):lexU s i acc=lexU s e (acc++[⟨op,q,t,n,false,(plc s i).1,(plc s i).2⟩]):=by
 obtain ⟨hi,rfl⟩:=List.getElem?_eq_some_iff.1 hc
 rw [lexU,dif_pos hi,h]
 dsimp only
 rw [hu]
 dsimp only
 rw [if_neg ha,dif_pos (qp6 hc hu).1]
theorem jn2 {H:z07} {s:List UInt8} {id i:Nat} {t6:CV} {N:Post} {B:Hs} {R:RP} (hH:ScH id (scAt s i) H) (hi:i<s.length) (hl:s.length<2^30) (hlen:([]:List Tok).length≤16384)
 (hgo:∀ (acc':List Tok) (e:Nat) (t':CV) H',lexU s i ([]:List Tok)=lexU s e acc'→i<e→e≤s.length→acc'.length≤16384→ScH id (scAt s e) H'→∀ fr,KpL [0,3,4,5,6] fr [0,3,4,5,6] (lexK s id acc' t')→R.go 0 fr H')
 (hbad:∀ code nm l c' H',lexU s i ([]:List Tok)=.bad code nm l c'→∀ fr:WFr,fr.env 2=.nils→fr.env 3=.lbox (some 4) (.c (fltC code nm l c'))→R.ret fr H') :
 WP Vv (lexQ zh0) (FL (lexK s id ([]:List Tok) t6) []) H N B R:=by
 have hc:s[i]?=some s[i]:=List.getElem?_eq_getElem hi
 generalize s[i]=c at hc
 refine wh5 hH hc hl ?_ ?_ ?_
 · intro e H' h1 h2 fr hk
   exact hgo _ e _ H' (qr2 hc h1) (q93 hc h1).1 (q93 hc h1).2 hlen h2 fr hk
 · intro code p nm H' h1 fr h2 h3
   exact hbad _ _ _ _ H' (j61 hc h1) fr h2 h3
 · intro H' hn hH'
   have g:∀ op q t n e H',z71 s i c=.tok op q t n e→([]:List Tok).length+1≤16384→ScH id (scAt s e) H'→∀ fr,KpL [0,3,4,5,6] fr [0,3,4,5,6] (lexK s id (([]:List Tok)++[⟨op,q,t,n,false,(plc s i).1,(plc s i).2⟩]) (tokC ⟨op,q,t,n,false,(plc s i).1,(plc s i).2⟩))→R.go 0 fr H':=
    fun op q t n e H' h1 h2 h3 fr hk=>hgo _ e _ H' (j72 hc hn h1 (by omega)) (qp6 hc h1).1 (qp6 hc h1).2 (by simp only [List.length_append,List.length_singleton];exact h2) h3 fr hk
   have ov:∀ op q t n e H',z71 s i c=.tok op q t n e→16384≤([]:List Tok).length→∀ fr:WFr,fr.env 2=.nils→fr.env 3=.lbox (some 4) (.c (fltC 3 [] (plc s i).1 (plc s i).2))→R.ret fr H':=
    fun op q t n e H' h1 h2 fr h3 h4=>hbad _ _ _ _ H' (qr3 hc hn h1 h2) fr h3 h4
   have bd:∀ code p nm H',z71 s i c=.bad code p nm→∀ fr:WFr,fr.env 2=.nils→fr.env 3=.lbox (some 4) (.c (fltC code nm (plc s p).1 (plc s p).2))→R.ret fr H':=
    fun code p nm H' h1 fr h2 h3=>hbad _ _ _ _ H' (qg1 hc hn h1) fr h2 h3
   by_cases hcl:(upperB c||lowerB c)=true
   · exact je3 hH' hc hl hlen g ov bd hcl
   by_cases hd:z94 c=true
   · exact jl7 hH' hc hl hlen g ov bd hcl hd
   by_cases hq:c=39∨c=34
   · exact jj8 hH' hc hl hlen g ov bd hcl hd hq
   by_cases hs:symB c=true
   · exact js9 hH' hc hl hlen g ov bd hcl hd hq hs
   by_cases hp:spS.contains c=true
   · exact w15 hH' hc hl hlen g ov bd hcl hd hq hs hp
   · exact w08 hH' hc hl hlen g ov bd hcl hd hq hs hp
theorem wd5 {H:z07} {s:List UInt8} {id i:Nat} {a:Tok} {r:List Tok} {t6:CV} {N:Post} {B:Hs} {R:RP} (hH:ScH id (scAt s i) H) (hi:i<s.length) (hl:s.length<2^30) (hlen:(a::r).length≤16384)
 (hgo:∀ (acc':List Tok) (e:Nat) (t':CV) H',lexU s i (a::r)=lexU s e acc'→i<e→e≤s.length→acc'.length≤16384→ScH id (scAt s e) H'→∀ fr,KpL [0,3,4,5,6] fr [0,3,4,5,6] (lexK s id acc' t')→R.go 0 fr H')
 (hbad:∀ code nm l c' H',lexU s i (a::r)=.bad code nm l c'→∀ fr:WFr,fr.env 2=.nils→fr.env 3=.lbox (some 4) (.c (fltC code nm l c'))→R.ret fr H') :
 WP Vv (lexQ zh0) (FL (lexK s id (a::r) t6) []) H N B R:=by
 have hc:s[i]?=some s[i]:=List.getElem?_eq_getElem hi
 generalize s[i]=c at hc
 refine wl3 hH hc hl ?_ ?_ ?_
 · intro e H' h1 h2 fr hk
   exact hgo _ e _ H' (qr2 hc h1) (q93 hc h1).1 (q93 hc h1).2 hlen h2 fr hk
 · intro code p nm H' h1 fr h2 h3
   exact hbad _ _ _ _ H' (j61 hc h1) fr h2 h3
 · intro H' hn hH'
   have g:∀ op q t n e H',z71 s i c=.tok op q t n e→(a::r).length+1≤16384→ScH id (scAt s e) H'→∀ fr,KpL [0,3,4,5,6] fr [0,3,4,5,6] (lexK s id ((a::r)++[⟨op,q,t,n,false,(plc s i).1,(plc s i).2⟩]) (tokC ⟨op,q,t,n,false,(plc s i).1,(plc s i).2⟩))→R.go 0 fr H':=
    fun op q t n e H' h1 h2 h3 fr hk=>hgo _ e _ H' (j72 hc hn h1 (by omega)) (qp6 hc h1).1 (qp6 hc h1).2 (by simp only [List.length_append,List.length_singleton];exact h2) h3 fr hk
   have ov:∀ op q t n e H',z71 s i c=.tok op q t n e→16384≤(a::r).length→∀ fr:WFr,fr.env 2=.nils→fr.env 3=.lbox (some 4) (.c (fltC 3 [] (plc s i).1 (plc s i).2))→R.ret fr H':=
    fun op q t n e H' h1 h2 fr h3 h4=>hbad _ _ _ _ H' (qr3 hc hn h1 h2) fr h3 h4
   have bd:∀ code p nm H',z71 s i c=.bad code p nm→∀ fr:WFr,fr.env 2=.nils→fr.env 3=.lbox (some 4) (.c (fltC code nm (plc s p).1 (plc s p).2))→R.ret fr H':=
    fun code p nm H' h1 fr h2 h3=>hbad _ _ _ _ H' (qg1 hc hn h1) fr h2 h3
   by_cases hcl:(upperB c||lowerB c)=true
   · exact j95 hH' hc hl hlen g ov bd hcl
   by_cases hd:z94 c=true
   · exact jj0 hH' hc hl hlen g ov bd hcl hd
   by_cases hq:c=39∨c=34
   · exact ji1 hH' hc hl hlen g ov bd hcl hd hq
   by_cases hs:symB c=true
   · exact js5 hH' hc hl hlen g ov bd hcl hd hq hs
   by_cases hp:spS.contains c=true
   · exact jx9 hH' hc hl hlen g ov bd hcl hd hq hs hp
   · exact jx5 hH' hc hl hlen g ov bd hcl hd hq hs hp
end Go.Proofs.TryzL
namespace Go.Proofs.TryzL
open Go.Proofs.Lz
set_option maxHeartbeats 4000000
def tksF:List Tok→CV
 | []=>.frz none []
 | t::r=>.frz (some 7) ((t::r).map tokC)
def lexR:LR→WV
 | .bad code nm l c=>.tup [.c (.frz none []),.c (fltC code nm l c)]
 | .ok l=>.tup [.c (tksF l),.c zF]
def qb1 (s:List UInt8):LR:=if 65536<s.length then .bad 3 [] 0 0 else lexU s 0 []
def tksV:List Tok→WV
 | []=>.nils
 | t::r=>.view (.sl 5 0 0) true 0 38 (some 7) ((t::r).map tokC)
def lexP0:ICode:=(ICode.region [⟨some 19,none,.mv (.t 4)⟩,⟨some 20,none,.nck (.t 19)⟩,⟨some 21,none,.faddr 1 (.t 20)⟩,⟨some 22,none,.load none (.t 21)⟩,⟨some 23,none,.mv (.t 0)⟩,⟨some 24,none,.len true (.t 23)⟩,⟨some 25,none,.bin .geq (.t 22) (.t 24)⟩]).seq (ICode.cond (.t 25) ((ICode.keep [3,5]).seq ((ICode.region [⟨some 26,none,.mv (.t 5)⟩,⟨some 27,none,.build [.c (.int .i64 0),.c (.str []),.c (.int .i64 0),.c (.int .i64 0)] []⟩,⟨some 2,none,.mv (.t 26)⟩,⟨none,none,.store (some 4) (.t 3) (.t 27)⟩]).seq ICode.ret)) ((ICode.keep [0,3,4,5,6]).seq ICode.skip))
def lexL:ICode:=lexP0.seq (lexQ zh0)
theorem wl2:Vv.fn 11=some { body:=(ICode.region [⟨some 2,none,.mv (.k .nils)⟩,⟨some 3,none,.lbox (some 4) (.k (.c (.agg [.int .i64 0,.str [],.int .i64 0,.int .i64 0])))⟩]).seq (ICode.scope 0 [0,3,4,5,6] (((ICode.region [⟨some 12,none,.mv (.t 0)⟩,⟨some 13,none,.len true (.t 12)⟩,⟨some 14,none,.bin .gtr (.t 13) (.k (.c (.int .i64 65536)))⟩]).seq (ICode.cond (.t 14) ((ICode.keep [3]).seq ((ICode.region [⟨some 15,none,.build [.c (.int .i64 0),.c (.str []),.c (.int .i64 0),.c (.int .i64 0)] [(0,1,.k (.c (.int .i64 3)))]⟩,⟨some 2,none,.mv (.k .nils)⟩,⟨none,none,.store (some 4) (.t 3) (.t 15)⟩]).seq ICode.ret)) ((ICode.keep [0,3]).seq ICode.skip))).seq ((ICode.region [⟨some 16,none,.mv (.t 0)⟩,⟨some 17,none,.build [.c (.str []),.c (.int .i64 0),.c (.int .i64 0),.c (.int .i64 0),.c (.int .i64 0),.c (.str []),.c (.int .i64 0),.c (.int .i64 0)] [(0,1,.t 16),(2,1,.k (.c (.int .i64 1))),(3,1,.k (.c (.int .i64 1)))]⟩,⟨some 18,none,.hbox (some 8) (.t 17)⟩,⟨some 4,none,.mv (.t 18)⟩]).seq ((ICode.region [⟨some 5,none,.mv (.k .nils)⟩]).seq ((ICode.region [⟨some 6,none,.lbox (some 7) (.k (.c (.agg [.int .i64 0,.str [],.str [],.int .i64 0,.bool false,.int .i64 0,.int .i64 0])))⟩]).seq ((ICode.region [⟨some 7,none,.mv (.k (.c (.bool false)))⟩]).seq ((ICode.region [⟨some 8,none,.mv (.k (.c (.int .i64 0)))⟩,⟨some 9,none,.mv (.k (.c (.int .i64 0)))⟩]).seq ((ICode.label 0).seq lexL))))))) (ICode.skip.seq lexL)),res:=[.tmp 2,.cell 3 (some 4)] }:=rfl
theorem zw8 {s:List UInt8} {i:Nat} {acc:List Tok} (h:¬ i<s.length):lexU s i acc=.ok acc:=by rw [lexU,dif_neg h]
theorem jd0 {H:z07} {s:List UInt8} {id i:Nat} {t6:CV} {N:Post} {B:Hs} {R:RP} (hH:ScH id (scAt s i) H) (hi:i≤s.length) (hl:s.length<2^30) (hlen:([]:List Tok).length≤16384)
 (hgo:∀ (acc':List Tok) (e:Nat) (t':CV) H',lexU s i ([]:List Tok)=lexU s e acc'→i<e→e≤s.length→acc'.length≤16384→ScH id (scAt s e) H'→∀ fr,KpL [0,3,4,5,6] fr [0,3,4,5,6] (lexK s id acc' t')→R.go 0 fr H')
 (hend:lexU s i ([]:List Tok)=.ok ([]:List Tok)→∀ fr:WFr,fr.env 2=tksV ([]:List Tok)→fr.env 3=.lbox (some 4) (.c zF)→R.ret fr H)
 (hbad:∀ code nm l c' H',lexU s i ([]:List Tok)=.bad code nm l c'→∀ fr:WFr,fr.env 2=.nils→fr.env 3=.lbox (some 4) (.c (fltC code nm l c'))→R.ret fr H') :
 WP Vv lexL (FL (lexK s id ([]:List Tok) t6) []) H N B R:=by
 have hr:=fun hi=>@jn2 H s id i t6 N B R hH hi hl hlen hgo hbad
 unfold lexL lexP0
 generalize hT:lexQ zh0=T at *
 unfold lexK at *
 unfold ScH at hH
 repeat' first
  | apply z01
  | exact z13
  | exact z18 rfl
  | (apply z17;rfl;rfl)
  | (apply z34;(iterate 3 rfl))
  | (apply z44;rfl)
  | (apply z61;(iterate 3 rfl))
  | (apply z56;rfl;rfl)
  | (apply z22;rfl;rfl)
  | (apply z06;rfl;rfl)
  | (apply z28;rfl;rfl)
  | (apply z27;(iterate 4 rfl);exact z30 (by first | exact rfl | assumption | exact z23 (by assumption)))
  | (apply z09;rfl;rfl;(assumption);rfl)
  | (apply z03;focus (repeat (first | exact z29 | (apply kq_c;rfl) | (apply za3;rfl) | (apply z49;rfl) | (apply z39;rfl))))
  | apply z02
  | apply z00
  | apply z04
  | apply z12
  | apply z19
  | (apply z15;rfl)
  | (with_reducible apply z81;intro hc)
  | (with_reducible apply z60;intro hc)
 · refine hend (zw8 ?_) _ rfl rfl
   have e:(scAt s i).pos=i:=rfl
   omega
 · refine hr ?_
   have e:(scAt s i).pos=i:=rfl
   omega
theorem jd2 {H:z07} {s:List UInt8} {id i:Nat} {a:Tok} {r:List Tok} {t6:CV} {N:Post} {B:Hs} {R:RP} (hH:ScH id (scAt s i) H) (hi:i≤s.length) (hl:s.length<2^30) (hlen:(a::r).length≤16384)
 (hgo:∀ (acc':List Tok) (e:Nat) (t':CV) H',lexU s i (a::r)=lexU s e acc'→i<e→e≤s.length→acc'.length≤16384→ScH id (scAt s e) H'→∀ fr,KpL [0,3,4,5,6] fr [0,3,4,5,6] (lexK s id acc' t')→R.go 0 fr H')
 (hend:lexU s i (a::r)=.ok (a::r)→∀ fr:WFr,fr.env 2=tksV (a::r)→fr.env 3=.lbox (some 4) (.c zF)→R.ret fr H)
 (hbad:∀ code nm l c' H',lexU s i (a::r)=.bad code nm l c'→∀ fr:WFr,fr.env 2=.nils→fr.env 3=.lbox (some 4) (.c (fltC code nm l c'))→R.ret fr H') :
 WP Vv lexL (FL (lexK s id (a::r) t6) []) H N B R:=by
 have hr:=fun hi=>@wd5 H s id i a r t6 N B R hH hi hl hlen hgo hbad
 unfold lexL lexP0
 generalize hT:lexQ zh0=T at *
 unfold lexK at *
 unfold ScH at hH
 repeat' first
  | apply z01
  | exact z13
  | exact z18 rfl
  | (apply z17;rfl;rfl)
  | (apply z34;(iterate 3 rfl))
  | (apply z44;rfl)
  | (apply z61;(iterate 3 rfl))
  | (apply z99;(iterate 3 rfl))
  | (apply z22;rfl;rfl)
  | (apply z06;rfl;rfl)
  | (apply z28;rfl;rfl)
  | (apply z27;(iterate 4 rfl);exact z30 (by first | exact rfl | assumption | exact z23 (by assumption)))
  | (apply z09;rfl;rfl;(assumption);rfl)
  | (apply z03;focus (repeat (first | exact z29 | (apply kq_c;rfl) | (apply zb8;rfl;rfl) | (apply z49;rfl) | (apply z39;rfl))))
  | apply z02
  | apply z00
  | apply z04
  | apply z12
  | apply z19
  | (apply z15;rfl)
  | (with_reducible apply z81;intro hc)
  | (with_reducible apply z60;intro hc)
 · refine hend (zw8 ?_) _ rfl rfl
   have e:(scAt s i).pos=i:=rfl
   omega
 · refine hr ?_
   have e:(scAt s i).pos=i:=rfl
   omega
theorem w30 {fr:WFr} {H:z07} {xs:List CV} {f:CV} (h1:fr.env 2=.view (.sl 5 0 0) true 0 38 (some 7) xs) (h2:fr.env 3=.lbox (some 4) (.c f)):fin [.tmp 2,.cell 3 (some 4)] (.tup [.c (.frz (some 7) xs),.c f]) fr H:=by
 refine ⟨[.view (.sl 5 0 0) true 0 38 (some 7) xs,.c f],.tup [.own true 38 (some 7) xs,.c f],hitH false [.sl 5 0 0] H,?_,?_,rfl⟩
 · simp only [zf2,h1,h2,if_true];rfl
 · unfold zq8
   rw [if_pos ⟨by exact List.nodup_cons.2 ⟨by simp [zd3,srcC,src1],List.nodup_nil⟩,rfl,.inr rfl⟩]
   rfl
theorem jq2 {fr:WFr} {H:z07} {acc:List Tok} {f:CV} (h1:fr.env 2=tksV acc) (h2:fr.env 3=.lbox (some 4) (.c f)):fin [.tmp 2,.cell 3 (some 4)] (.tup [.c (tksF acc),.c f]) fr H:=by
 cases acc with
 | nil=>exact fin2 (by decide) (.nils h1) h2
 | cons a r=>exact w30 h1 h2
theorem j20 {fr:WFr} {H:z07} {f:CV} (h1:fr.env 2=.nils) (h2:fr.env 3=.lbox (some 4) (.c f)):fin [.tmp 2,.cell 3 (some 4)] (.tup [.c (.frz none []),.c f]) fr H:=fin2 (by decide) (.nils h1) h2
theorem wp6 (s:List UInt8) (hl:s.length≤9223372036854775807):Rets Vv 11 [.c (.str s)] (lexR (qb1 s)):=by
 refine z92 wl2 ?_
 generalize hL:lexL=L
 repeat' first
  | apply z01
  | exact z18 rfl
  | (apply z56;rfl;rfl)
  | (apply zf7;rfl;rfl;first | exact za2 (by first | exact rfl | assumption | exact z23 (by assumption)) | exact zb6 (by first | exact rfl | assumption | exact z23 (by assumption)))
  | apply z02
  | apply z00
  | apply z04
 refine q22 (fun p:List Tok×Nat×CV=>lexK s 0 p.1 p.2.2) (fun (p:List Tok×Nat×CV) H'=>p.1.length≤16384∧p.2.1≤s.length∧ScH 0 (scAt s p.2.1) H'∧lexU s p.2.1 p.1=lexU s 0 []∧s.length≤65536) (fun (p:List Tok×Nat×CV)=>s.length - p.2.1) ?_ ?_
 · have hpl:plc s 0=(1,1):=rfl
   repeat' first
    | apply z01
    | exact z13
    | exact z18 rfl
    | (apply z17;rfl;rfl)
    | (apply z34;(iterate 3 rfl))
    | (apply z44;rfl)
    | (apply z61;(iterate 3 rfl))
    | (apply z56;rfl;rfl)
    | (apply z22;rfl;rfl)
    | (apply zf7;rfl;rfl;first | exact za2 (by first | exact rfl | assumption | exact z23 (by assumption)) | exact zb6 (by first | exact rfl | assumption | exact z23 (by assumption)))
    | (apply z27;(iterate 4 rfl);exact z30 (by first | exact rfl | assumption | exact z23 (by assumption)))
    | (apply jq8;rfl;rfl)
    | (apply z03;focus (repeat (first | exact z29 | (apply kq_c;rfl) | (apply z39;rfl))))
    | apply z02
    | apply z00
    | apply z04
    | apply z12
    | apply z19
    | apply q26
    | (apply z15;rfl)
    | (with_reducible apply z81;intro hc)
    | (with_reducible apply z60;intro hc)
    | (apply jw4;(exact ShI.nils rfl);(exact ShI.cell rfl);(exact by decide))
   · unfold qb1
     rw [if_pos (by omega)]
     rfl
   · have e:qb1 s=lexU s 0 []:=by unfold qb1;rw [if_neg (by omega)]
     have hH:ScH 0 (scAt s 0) [.var (some 8) (scC (scAt s 0))]:=rfl
     have gg:∀ (acc':List Tok) (e:Nat) (t':CV) H',lexU s 0 []=lexU s e acc'→0<e→e≤s.length→acc'.length≤16384→ScH 0 (scAt s e) H'→∀ fr,KpL [0,3,4,5,6] fr [0,3,4,5,6] (lexK s 0 acc' t')→(0=0∧∃ s':List Tok×Nat×CV,KpL [0,3,4,5,6] fr [0,3,4,5,6] (lexK s 0 s'.1 s'.2.2)∧(s'.1.length≤16384∧s'.2.1≤s.length∧ScH 0 (scAt s s'.2.1) H'∧lexU s s'.2.1 s'.1=lexU s 0 []∧s.length≤65536)):=
      fun acc' e t' H' g1 g2 g3 g4 g5 fr g6=>⟨rfl,(acc',e,t'),g6,⟨g4,g3,g5,g1.symm,by omega⟩⟩
     rw [e]
     subst hL
     unfold lexL lexP0
     generalize hT:lexQ zh0=T
     repeat' first
      | apply z01
      | exact z13
      | exact z18 rfl
      | (apply z17;rfl;rfl)
      | (apply z34;(iterate 3 rfl))
      | (apply z44;rfl)
      | (apply z61;(iterate 3 rfl))
      | (apply z56;rfl;rfl)
      | (apply z22;rfl;rfl)
      | (apply z06;rfl;rfl)
      | (apply z28;rfl;rfl)
      | (apply z27;(iterate 4 rfl);exact z30 (by first | exact rfl | assumption | exact z23 (by assumption)))
      | (apply z09;rfl;rfl;(assumption);rfl)
      | (apply z03;focus (repeat (first | exact z29 | (apply kq_c;rfl) | (apply za3;rfl) | (apply z49;rfl) | (apply z39;rfl))))
      | apply z02
      | apply z00
      | apply z04
      | apply z12
      | apply z19
      | (apply z15;rfl)
      | (with_reducible apply z81;intro hc)
      | (with_reducible apply z60;intro hc)
      | (apply jw4;(exact ShI.nils rfl);(exact ShI.cell rfl);(exact by decide))
     · have e1:(scAt s 0).pos=0:=rfl
       have e0:lexU s 0 []=.ok []:=zw8 (by omega)
       rw [e0]
       rfl
     · subst hT
       have e1:(scAt s 0).pos=0:=rfl
       refine jn2 (t6:=tokC ⟨0,[],[],0,false,0,0⟩) hH (by omega) (by omega) (by simp) gg ?_
       intro code nm l c' H' k fr k1 k2
       rw [k]
       exact j20 k1 k2
 · rintro ⟨acc,j,t6⟩ H ⟨h1,h2,h3,h4,h5⟩
   dsimp only at h1 h2 h3 h4 h5
   dsimp only
   repeat' first
    | apply z02
    | apply z12
   subst hL
   have e:qb1 s=lexU s j acc:=by unfold qb1;rw [if_neg (by omega),h4]
   have gg:∀ (acc':List Tok) (e:Nat) (t':CV) H',lexU s j acc=lexU s e acc'→j<e→e≤s.length→acc'.length≤16384→ScH 0 (scAt s e) H'→∀ fr,KpL [0,3,4,5,6] fr [0,3,4,5,6] (lexK s 0 acc' t')→(0=0∧∃ s':List Tok×Nat×CV,KpL [0,3,4,5,6] fr [0,3,4,5,6] (lexK s 0 s'.1 s'.2.2)∧(s'.1.length≤16384∧s'.2.1≤s.length∧ScH 0 (scAt s s'.2.1) H'∧lexU s s'.2.1 s'.1=lexU s 0 []∧s.length≤65536)∧s.length - s'.2.1<s.length - j):=
    fun acc' e t' H' g1 g2 g3 g4 g5 fr g6=>⟨rfl,(acc',e,t'),g6,⟨g4,g3,g5,g1.symm.trans h4,h5⟩,by dsimp only;omega⟩
   rw [e]
   cases acc with
   | nil=>
     refine jd0 h3 h2 (by omega) h1 gg ?_ ?_
     · intro k fr k1 k2
       rw [k]
       exact jq2 k1 k2
     · intro code nm l c' H' k fr k1 k2
       rw [k]
       exact j20 k1 k2
   | cons a r=>
     refine jd2 h3 h2 (by omega) h1 gg ?_ ?_
     · intro k fr k1 k2
       rw [k]
       exact jq2 k1 k2
     · intro code nm l c' H' k fr k1 k2
       rw [k]
       exact j20 k1 k2
end Go.Proofs.TryzL
namespace Go.Proofs.TryzL
open Go.Proofs.Lz
set_option maxHeartbeats 4000000
def ws0:LR→Prop
 | .ok l=>l.length≤16384
 | .bad _ _ l c=>0<l∧0<c
theorem jg5 (s:List UInt8):∀ n i acc,s.length - i≤n→acc.length≤16384→ws0 (lexU s i acc):=by
 intro n
 induction n with
 | zero=>
   intro i acc hn ha
   rw [zw8 (by omega)]
   exact ha
 | succ n ih=>
   intro i acc hn ha
   have hp:=fun p=>w42 s p
   by_cases hi:i<s.length
   · rw [lexU,dif_pos hi]
     split
     · split
       · exact ih _ _ (by omega) ha
       · exact Nat.zero_le _
     · rename_i p _ _
       exact ⟨(hp p).2.2.2,(hp p).2.2.1⟩
     · exact Nat.zero_le _
     · split
       · rename_i p _ _
         exact ⟨(hp p).2.2.2,(hp p).2.2.1⟩
       · exact Nat.zero_le _
       · split
         · exact ⟨(hp i).2.2.2,(hp i).2.2.1⟩
         · split
           · exact ih _ _ (by omega) (by simp;omega)
           · exact Nat.zero_le _
   · rw [zw8 hi]
     exact ha
def repB (p:List UInt8) (n:Nat):List UInt8:=(List.replicate n p).flatten
def bufW:List UInt8→WV
 | []=>.nils
 | c::r=>.own true 5 none (bytesV (c::r))
theorem qm7 (p:List UInt8) (n:Nat):(repB p n).length=n * p.length:=by
 unfold repB
 induction n with
 | zero=>simp
 | succ n ih=>rw [List.replicate_succ,List.flatten_cons,List.length_append,ih,Nat.succ_mul,Nat.add_comm]
theorem wk8 (p:List UInt8) (n:Nat):repB p (n+1)=repB p n++p:=by
 unfold repB
 rw [List.replicate_succ',List.flatten_append]
 simp
theorem jo9 (a b:List UInt8):bytesV (a++b)=bytesV a++bytesV b:=by simp [bytesV]
theorem mulB {n:Int} {k:Nat}:n<0∨70000<n∨100<(k:Int)∨(0≤n * (k:Int)∧n * (k:Int)≤7000000):=by
 by_cases h1:n<0
 · exact .inl h1
 · by_cases h2:70000<n
   · exact .inr (.inl h2)
   · by_cases h3:100<(k:Int)
     · exact .inr (.inr (.inl h3))
     · refine .inr (.inr (.inr ⟨Int.mul_nonneg (by omega) (by omega),?_⟩))
       have:=Int.mul_le_mul (a:=n) (c:=70000) (b:=(k:Int)) (d:=100) (by omega) (by omega) (by omega) (by omega)
       omega
theorem wp7 (p:List UInt8) (n:Int) (hp:p.length≤9223372036854775807) (h:n<0∨70000<n∨100<p.length∨200000<n * p.length):Rets Vv 4 [.c (.str p),.c (.int .i64 n)] (.c (.bool true)):=by
 refine z92 vfn4 ?_
 have hm:=mulB (n:=n) (k:=p.length)
 repeat' first
  | apply z01
  | exact z13
  | exact z18 rfl
  | (apply z17;rfl;rfl)
  | (apply qh9;rfl;rfl;omega)
  | (apply z34;(iterate 3 rfl))
  | (apply z44;rfl)
  | (apply z16;rfl;(with_reducible rfl);rfl)
  | (apply z14;rfl;(with_reducible rfl);rfl)
  | (apply z56;rfl;rfl)
  | (apply z05 (hc:=zy5);rfl;rfl;rfl)
  | (apply z03;focus (repeat (first | exact z29 | (apply kq_c;rfl))))
  | apply z02
  | apply z00
  | apply z04
  | apply z08
  | apply z12
  | apply z19
  | (apply z41;rfl;(with_reducible rfl))
  | (apply z15;rfl)
  | (apply z52;rfl;(with_reducible rfl))
  | (apply z42;rfl;(with_reducible rfl))
  | (apply z40;rfl)
  | (with_reducible apply z81;intro hc)
  | (with_reducible apply z60;intro hc)
  | (apply zd7;rfl)
 all_goals first | rfl | (exfalso;omega) | exact absurd hc (by decide) | trace_state
end Go.Proofs.TryzL
