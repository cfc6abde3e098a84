/- Chapter 02: the law about Same. -/
import Derived.Test.YtencoceemejcnaaGreatDoorLzT54
import Derived.Test.YtencoceemejcnaaGreatDoorLzSeat02c
import Derived.Test.YtencoceemejcnaaGreatDoorLzVc7
set_option linter.unusedSimpArgs false
set_option linter.unusedVariables false
namespace Go.Proofs.TryzL
open Go.Proofs.Lz
set_option maxHeartbeats 4000000
def tksF:List Tok→CV
 | []=>.frz none []
 | t::r=>.frz (some 7) ((t::r).map tokC)
def lexR:LR→WV
 | .bad code nm l c=>.tup [.c (.frz none []),.c (fltC code nm l c)]
 | .ok l=>.tup [.c (tksF l),.c zF]
def zy6 (s:List UInt8):LR:=if 65536<s.length then .bad 3 [] 0 0 else lexU s 0 []
def tksV:List Tok→WV
 | []=>.nils
 | t::r=>.view (.sl 5 0 0) true 0 38 (some 7) ((t::r).map tokC)
def lexP0:ICode:=(ICode.region [⟨some 19,none,.mv (.t 4)⟩,⟨some 20,none,.nck (.t 19)⟩,⟨some 21,none,.faddr 1 (.t 20)⟩,⟨some 22,none,.load none (.t 21)⟩,⟨some 23,none,.mv (.t 0)⟩,⟨some 24,none,.len true (.t 23)⟩,⟨some 25,none,.bin .geq (.t 22) (.t 24)⟩]).seq (ICode.cond (.t 25) ((ICode.keep [3,5]).seq ((ICode.region [⟨some 26,none,.mv (.t 5)⟩,⟨some 27,none,.build [.c (.int .i64 0),.c (.str []),.c (.int .i64 0),.c (.int .i64 0)] []⟩,⟨some 2,none,.mv (.t 26)⟩,⟨none,none,.store (some 4) (.t 3) (.t 27)⟩]).seq ICode.ret)) ((ICode.keep [0,3,4,5,6]).seq ICode.skip))
def lexL:ICode:=lexP0.seq (lexQ zh0)
theorem wv0:Vv.fn 11=some { body:=(ICode.region [⟨some 2,none,.mv (.k .nils)⟩,⟨some 3,none,.lbox (some 4) (.k (.c (.agg [.int .i64 0,.str [],.int .i64 0,.int .i64 0])))⟩]).seq (ICode.scope 0 [0,3,4,5,6] (((ICode.region [⟨some 12,none,.mv (.t 0)⟩,⟨some 13,none,.len true (.t 12)⟩,⟨some 14,none,.bin .gtr (.t 13) (.k (.c (.int .i64 65536)))⟩]).seq (ICode.cond (.t 14) ((ICode.keep [3]).seq ((ICode.region [⟨some 15,none,.build [.c (.int .i64 0),.c (.str []),.c (.int .i64 0),.c (.int .i64 0)] [(0,1,.k (.c (.int .i64 3)))]⟩,⟨some 2,none,.mv (.k .nils)⟩,⟨none,none,.store (some 4) (.t 3) (.t 15)⟩]).seq ICode.ret)) ((ICode.keep [0,3]).seq ICode.skip))).seq ((ICode.region [⟨some 16,none,.mv (.t 0)⟩,⟨some 17,none,.build [.c (.str []),.c (.int .i64 0),.c (.int .i64 0),.c (.int .i64 0),.c (.int .i64 0),.c (.str []),.c (.int .i64 0),.c (.int .i64 0)] [(0,1,.t 16),(2,1,.k (.c (.int .i64 1))),(3,1,.k (.c (.int .i64 1)))]⟩,⟨some 18,none,.hbox (some 8) (.t 17)⟩,⟨some 4,none,.mv (.t 18)⟩]).seq ((ICode.region [⟨some 5,none,.mv (.k .nils)⟩]).seq ((ICode.region [⟨some 6,none,.lbox (some 7) (.k (.c (.agg [.int .i64 0,.str [],.str [],.int .i64 0,.bool false,.int .i64 0,.int .i64 0])))⟩]).seq ((ICode.region [⟨some 7,none,.mv (.k (.c (.bool false)))⟩]).seq ((ICode.region [⟨some 8,none,.mv (.k (.c (.int .i64 0)))⟩,⟨some 9,none,.mv (.k (.c (.int .i64 0)))⟩]).seq ((ICode.label 0).seq lexL))))))) (ICode.skip.seq lexL)),res:=[.tmp 2,.cell 3 (some 4)] }:=rfl
theorem qo6 {s:List UInt8} {i:Nat} {acc:List Tok} (h:¬ i<s.length):lexU s i acc=.ok acc:=by rw [lexU,dif_neg h]
theorem jh9 {H:z06} {s:List UInt8} {id i:Nat} {t6:CV} {N:Post} {B:Hs} {R:RP} (hH:ScH id (scAt s i) H) (hi:i≤s.length) (hl:s.length<2^30) (hlen:([]:List Tok).length≤16384)
 (hgo:∀ (acc':List Tok) (e:Nat) (t':CV) H',lexU s i ([]:List Tok)=lexU s e acc'→i<e→e≤s.length→acc'.length≤16384→ScH id (scAt s e) H'→∀ fr,KpL [0,3,4,5,6] fr [0,3,4,5,6] (lexK s id acc' t')→R.go 0 fr H')
 (hend:lexU s i ([]:List Tok)=.ok ([]:List Tok)→∀ fr:WFr,fr.env 2=tksV ([]:List Tok)→fr.env 3=.lbox (some 4) (.c zF)→R.ret fr H)
 (hbad:∀ code nm l c' H',lexU s i ([]:List Tok)=.bad code nm l c'→∀ fr:WFr,fr.env 2=.nils→fr.env 3=.lbox (some 4) (.c (fltC code nm l c'))→R.ret fr H') :
 WP Vv lexL (FL (lexK s id ([]:List Tok) t6) []) H N B R:=by
 have hr:=fun hi=>@jr9 H s id i t6 N B R hH hi hl hlen hgo hbad
 unfold lexL lexP0
 generalize hT:lexQ zh0=T at *
 unfold lexK at *
 unfold ScH at hH
 repeat' first
  | apply z01
  | exact z13
  | exact z19 rfl
  | (apply z17;rfl;rfl)
  | (apply z30;(iterate 3 rfl))
  | (apply z42;rfl)
  | (apply z66;(iterate 3 rfl))
  | (apply z58;rfl;rfl)
  | (apply z23;rfl;rfl)
  | (apply z07;rfl;rfl)
  | (apply z27;rfl;rfl)
  | (apply z29;(iterate 4 rfl);exact z32 (by first | exact rfl | assumption | exact z25 (by assumption)))
  | (apply z08;rfl;rfl;(assumption);rfl)
  | (apply z04;focus (repeat (first | exact z28 | (apply kq_c;rfl) | (apply za8;rfl) | (apply z49;rfl) | (apply z43;rfl))))
  | apply z02
  | apply z00
  | apply z03
  | apply z12
  | apply z15
  | (apply z14;rfl)
  | (with_reducible apply z78;intro hc)
  | (with_reducible apply z57;intro hc)
 · refine hend (qo6 ?_) _ rfl rfl
   have e:(scAt s i).pos=i:=rfl
   omega
 · refine hr ?_
   have e:(scAt s i).pos=i:=rfl
   omega
theorem jh1 {H:z06} {s:List UInt8} {id i:Nat} {a:Tok} {r:List Tok} {t6:CV} {N:Post} {B:Hs} {R:RP} (hH:ScH id (scAt s i) H) (hi:i≤s.length) (hl:s.length<2^30) (hlen:(a::r).length≤16384)
 (hgo:∀ (acc':List Tok) (e:Nat) (t':CV) H',lexU s i (a::r)=lexU s e acc'→i<e→e≤s.length→acc'.length≤16384→ScH id (scAt s e) H'→∀ fr,KpL [0,3,4,5,6] fr [0,3,4,5,6] (lexK s id acc' t')→R.go 0 fr H')
 (hend:lexU s i (a::r)=.ok (a::r)→∀ fr:WFr,fr.env 2=tksV (a::r)→fr.env 3=.lbox (some 4) (.c zF)→R.ret fr H)
 (hbad:∀ code nm l c' H',lexU s i (a::r)=.bad code nm l c'→∀ fr:WFr,fr.env 2=.nils→fr.env 3=.lbox (some 4) (.c (fltC code nm l c'))→R.ret fr H') :
 WP Vv lexL (FL (lexK s id (a::r) t6) []) H N B R:=by
 have hr:=fun hi=>@wg7 H s id i a r t6 N B R hH hi hl hlen hgo hbad
 unfold lexL lexP0
 generalize hT:lexQ zh0=T at *
 unfold lexK at *
 unfold ScH at hH
 repeat' first
  | apply z01
  | exact z13
  | exact z19 rfl
  | (apply z17;rfl;rfl)
  | (apply z30;(iterate 3 rfl))
  | (apply z42;rfl)
  | (apply z66;(iterate 3 rfl))
  | (apply za5;(iterate 3 rfl))
  | (apply z23;rfl;rfl)
  | (apply z07;rfl;rfl)
  | (apply z27;rfl;rfl)
  | (apply z29;(iterate 4 rfl);exact z32 (by first | exact rfl | assumption | exact z25 (by assumption)))
  | (apply z08;rfl;rfl;(assumption);rfl)
  | (apply z04;focus (repeat (first | exact z28 | (apply kq_c;rfl) | (apply zc6;rfl;rfl) | (apply z49;rfl) | (apply z43;rfl))))
  | apply z02
  | apply z00
  | apply z03
  | apply z12
  | apply z15
  | (apply z14;rfl)
  | (with_reducible apply z78;intro hc)
  | (with_reducible apply z57;intro hc)
 · refine hend (qo6 ?_) _ rfl rfl
   have e:(scAt s i).pos=i:=rfl
   omega
 · refine hr ?_
   have e:(scAt s i).pos=i:=rfl
   omega
theorem jy6 {fr:WFr} {H:z06} {xs:List CV} {f:CV} (h1:fr.env 2=.view (.sl 5 0 0) true 0 38 (some 7) xs) (h2:fr.env 3=.lbox (some 4) (.c f)):fin [.tmp 2,.cell 3 (some 4)] (.tup [.c (.frz (some 7) xs),.c f]) fr H:=by
 refine ⟨[.view (.sl 5 0 0) true 0 38 (some 7) xs,.c f],.tup [.own true 38 (some 7) xs,.c f],hitH false [.sl 5 0 0] H,?_,?_,rfl⟩
 · simp only [ze3,h1,h2,if_true];rfl
 · unfold zo3
   rw [if_pos ⟨by exact List.nodup_cons.2 ⟨by simp [zc4,srcC,src1],List.nodup_nil⟩,rfl,.inr rfl⟩]
   rfl
theorem jj1 {fr:WFr} {H:z06} {acc:List Tok} {f:CV} (h1:fr.env 2=tksV acc) (h2:fr.env 3=.lbox (some 4) (.c f)):fin [.tmp 2,.cell 3 (some 4)] (.tup [.c (tksF acc),.c f]) fr H:=by
 cases acc with
 | nil=>exact fin2 (by decide) (.nils h1) h2
 | cons a r=>exact jy6 h1 h2
theorem j51 {fr:WFr} {H:z06} {f:CV} (h1:fr.env 2=.nils) (h2:fr.env 3=.lbox (some 4) (.c f)):fin [.tmp 2,.cell 3 (some 4)] (.tup [.c (.frz none []),.c f]) fr H:=fin2 (by decide) (.nils h1) h2
theorem wr8 (s:List UInt8) (hl:s.length≤9223372036854775807):Rets Vv 11 [.c (.str s)] (lexR (zy6 s)):=by
 refine z83 wv0 ?_
 generalize hL:lexL=L
 repeat' first
  | apply z01
  | exact z19 rfl
  | (apply z58;rfl;rfl)
  | (apply zj5;rfl;rfl;first | exact zb7 (by first | exact rfl | assumption | exact z25 (by assumption)) | exact ze6 (by first | exact rfl | assumption | exact z25 (by assumption)))
  | apply z02
  | apply z00
  | apply z03
 refine q52 (fun p:List Tok×Nat×CV=>lexK s 0 p.1 p.2.2) (fun (p:List Tok×Nat×CV) H'=>p.1.length≤16384∧p.2.1≤s.length∧ScH 0 (scAt s p.2.1) H'∧lexU s p.2.1 p.1=lexU s 0 []∧s.length≤65536) (fun (p:List Tok×Nat×CV)=>s.length - p.2.1) ?_ ?_
 · have hpl:plc s 0=(1,1):=rfl
   repeat' first
    | apply z01
    | exact z13
    | exact z19 rfl
    | (apply z17;rfl;rfl)
    | (apply z30;(iterate 3 rfl))
    | (apply z42;rfl)
    | (apply z66;(iterate 3 rfl))
    | (apply z58;rfl;rfl)
    | (apply z23;rfl;rfl)
    | (apply zj5;rfl;rfl;first | exact zb7 (by first | exact rfl | assumption | exact z25 (by assumption)) | exact ze6 (by first | exact rfl | assumption | exact z25 (by assumption)))
    | (apply z29;(iterate 4 rfl);exact z32 (by first | exact rfl | assumption | exact z25 (by assumption)))
    | (apply jj4;rfl;rfl)
    | (apply z04;focus (repeat (first | exact z28 | (apply kq_c;rfl) | (apply z43;rfl))))
    | apply z02
    | apply z00
    | apply z03
    | apply z12
    | apply z15
    | apply q38
    | (apply z14;rfl)
    | (with_reducible apply z78;intro hc)
    | (with_reducible apply z57;intro hc)
    | (apply w27;(exact ShI.nils rfl);(exact ShI.cell rfl);(exact by decide))
   · unfold zy6
     rw [if_pos (by omega)]
     rfl
   · have e:zy6 s=lexU s 0 []:=by unfold zy6;rw [if_neg (by omega)]
     have hH:ScH 0 (scAt s 0) [.var (some 8) (scC (scAt s 0))]:=rfl
     have gg:∀ (acc':List Tok) (e:Nat) (t':CV) H',lexU s 0 []=lexU s e acc'→0<e→e≤s.length→acc'.length≤16384→ScH 0 (scAt s e) H'→∀ fr,KpL [0,3,4,5,6] fr [0,3,4,5,6] (lexK s 0 acc' t')→(0=0∧∃ s':List Tok×Nat×CV,KpL [0,3,4,5,6] fr [0,3,4,5,6] (lexK s 0 s'.1 s'.2.2)∧(s'.1.length≤16384∧s'.2.1≤s.length∧ScH 0 (scAt s s'.2.1) H'∧lexU s s'.2.1 s'.1=lexU s 0 []∧s.length≤65536)):=
      fun acc' e t' H' g1 g2 g3 g4 g5 fr g6=>⟨rfl,(acc',e,t'),g6,⟨g4,g3,g5,g1.symm,by omega⟩⟩
     rw [e]
     subst hL
     unfold lexL lexP0
     generalize hT:lexQ zh0=T
     repeat' first
      | apply z01
      | exact z13
      | exact z19 rfl
      | (apply z17;rfl;rfl)
      | (apply z30;(iterate 3 rfl))
      | (apply z42;rfl)
      | (apply z66;(iterate 3 rfl))
      | (apply z58;rfl;rfl)
      | (apply z23;rfl;rfl)
      | (apply z07;rfl;rfl)
      | (apply z27;rfl;rfl)
      | (apply z29;(iterate 4 rfl);exact z32 (by first | exact rfl | assumption | exact z25 (by assumption)))
      | (apply z08;rfl;rfl;(assumption);rfl)
      | (apply z04;focus (repeat (first | exact z28 | (apply kq_c;rfl) | (apply za8;rfl) | (apply z49;rfl) | (apply z43;rfl))))
      | apply z02
      | apply z00
      | apply z03
      | apply z12
      | apply z15
      | (apply z14;rfl)
      | (with_reducible apply z78;intro hc)
      | (with_reducible apply z57;intro hc)
      | (apply w27;(exact ShI.nils rfl);(exact ShI.cell rfl);(exact by decide))
     · have e1:(scAt s 0).pos=0:=rfl
       have e0:lexU s 0 []=.ok []:=qo6 (by omega)
       rw [e0]
       rfl
     · subst hT
       have e1:(scAt s 0).pos=0:=rfl
       refine jr9 (t6:=tokC ⟨0,[],[],0,false,0,0⟩) hH (by omega) (by omega) (by simp) gg ?_
       intro code nm l c' H' k fr k1 k2
       rw [k]
       exact j51 k1 k2
 · rintro ⟨acc,j,t6⟩ H ⟨h1,h2,h3,h4,h5⟩
   dsimp only at h1 h2 h3 h4 h5
   dsimp only
   repeat' first
    | apply z02
    | apply z12
   subst hL
   have e:zy6 s=lexU s j acc:=by unfold zy6;rw [if_neg (by omega),h4]
   have gg:∀ (acc':List Tok) (e:Nat) (t':CV) H',lexU s j acc=lexU s e acc'→j<e→e≤s.length→acc'.length≤16384→ScH 0 (scAt s e) H'→∀ fr,KpL [0,3,4,5,6] fr [0,3,4,5,6] (lexK s 0 acc' t')→(0=0∧∃ s':List Tok×Nat×CV,KpL [0,3,4,5,6] fr [0,3,4,5,6] (lexK s 0 s'.1 s'.2.2)∧(s'.1.length≤16384∧s'.2.1≤s.length∧ScH 0 (scAt s s'.2.1) H'∧lexU s s'.2.1 s'.1=lexU s 0 []∧s.length≤65536)∧s.length - s'.2.1<s.length - j):=
    fun acc' e t' H' g1 g2 g3 g4 g5 fr g6=>⟨rfl,(acc',e,t'),g6,⟨g4,g3,g5,g1.symm.trans h4,h5⟩,by dsimp only;omega⟩
   rw [e]
   cases acc with
   | nil=>
     refine jh9 h3 h2 (by omega) h1 gg ?_ ?_
     · intro k fr k1 k2
       rw [k]
       exact jj1 k1 k2
     · intro code nm l c' H' k fr k1 k2
       rw [k]
       exact j51 k1 k2
   | cons a r=>
     refine jh1 h3 h2 (by omega) h1 gg ?_ ?_
     · intro k fr k1 k2
       rw [k]
       exact jj1 k1 k2
     · intro code nm l c' H' k fr k1 k2
       rw [k]
       exact j51 k1 k2
end Go.Proofs.TryzL
namespace Go.Proofs.TryzL
set_option maxHeartbeats 4000000
theorem u8n {c:UInt8} {n:Nat} (hn:n<256):c=UInt8.ofNat n↔c.toNat=n:=by
 constructor
 · rintro rfl;simp;omega
 · intro h;apply UInt8.toNat_inj.1;simp;omega
theorem w31:∀ t∈rwordL,zo6 t=true:=by decide
theorem wr7:∀ t∈rsymL,zf7 t=true:=by decide
theorem zx5 {t:List UInt8} (h:z86 t=1∨z86 t=2∨z86 t=5):zo6 t=true:=by
 unfold z86 at h
 by_cases h1:rwordL.contains t=true
 · exact w31 t (List.contains_iff_mem.1 h1)
 · by_cases h2:rsymL.contains t=true
   · simp only [if_neg h1,if_pos h2] at h
     omega
   · cases hw:zo6 t with
     | true=>rfl
     | false=>
       simp only [if_neg h1,if_neg h2,hw,Bool.false_and,Bool.false_eq_true,if_false] at h
       repeat' (split at h)
       all_goals omega
theorem qb1 {t:List UInt8} (h:z86 t=3∨z86 t=4∨z86 t=6):zf7 t=true:=by
 unfold z86 at h
 by_cases h1:rwordL.contains t=true
 · simp only [if_pos h1] at h
   omega
 · by_cases h2:rsymL.contains t=true
   · exact wr7 t (List.contains_iff_mem.1 h2)
   · cases hw:zf7 t with
     | true=>rfl
     | false=>
       simp only [if_neg h1,if_neg h2,hw,Bool.false_and,Bool.false_eq_true,if_false] at h
       repeat' (split at h)
       all_goals omega
theorem v08 {c:UInt8} (h:wcB c=true):z98 c=true:=by
 unfold wcB q40 at h
 unfold z98 lowerB
 simp [upperB,z84,u8n] at h ⊢
 have e1:c=95↔c.toNat=95:=u8n (n:=95) (by decide)
 have e2:c=39↔c.toNat=39:=u8n (n:=39) (by decide)
 rw [e1,e2] at h
 omega
theorem wx4 {c:UInt8} (h:wsB c=true):(upperB c||lowerB c)=true:=by
 unfold wsB q40 at h
 unfold lowerB
 have e1:c=95↔c.toNat=95:=u8n (n:=95) (by decide)
 simp [upperB,e1] at h ⊢
 omega
theorem q50 {t:List UInt8} (h:zo6 t=true):∃ c r,t=c::r∧t.length≤64∧(upperB c||lowerB c)=true∧t.all z98=true:=by
 cases t with
 | nil=>simp [zo6] at h
 | cons c r=>
   simp only [zo6,List.getElem?_cons_zero,Bool.and_eq_true,decide_eq_true_eq] at h
   exact ⟨c,r,rfl,h.1.1,wx4 h.1.2,List.all_eq_true.2 fun x hx=>v08 (List.all_eq_true.1 h.2 x hx)⟩
theorem qw0 {t:List UInt8} (h:zf7 t=true):∃ c r,t=c::r∧t.length≤64∧symB c=true∧t.all symB=true∧qg9 t=false:=by
 cases t with
 | nil=>simp [zf7] at h
 | cons c r=>
   simp only [zf7,List.getElem?_cons_zero,Bool.and_eq_true,decide_eq_true_eq,Bool.or_eq_true] at h
   refine ⟨c,r,rfl,h.1.1,List.all_eq_true.1 h.1.2 c (by simp),h.1.2,?_⟩
   unfold qg9
   rcases h.2 with h2 | h2
   · simp only [h2];rfl
   · rw [Bool.and_eq_false_iff]
     right
     rw [← Bool.not_eq_true]
     intro ha
     have:(c::r).count 45=(c::r).length:=by
      rw [List.count_eq_length]
      intro b hb
      have:=List.all_eq_true.1 ha b hb
      simpa using (beq_iff_eq.1 this).symm
     omega
theorem qo5 {c:UInt8} (h:symB c=true):c.toNat=33∨c.toNat=35∨c.toNat=36∨c.toNat=37∨c.toNat=38∨c.toNat=42∨c.toNat=43∨c.toNat=46∨c.toNat=47∨c.toNat=60∨c.toNat=61∨c.toNat=62∨c.toNat=63∨c.toNat=64∨c.toNat=92∨c.toNat=94∨c.toNat=124∨c.toNat=45∨c.toNat=126∨c.toNat=58:=by
 have h:=List.contains_iff_mem.1 h
 simp only [symS,List.mem_cons,List.not_mem_nil,or_false] at h
 rcases h with h | h | h | h | h | h | h | h | h | h | h | h | h | h | h | h | h | h | h | h<;>subst h<;>decide
theorem we7 {c:UInt8} (h:spS.contains c=true):c.toNat=40∨c.toNat=41∨c.toNat=91∨c.toNat=93∨c.toNat=123∨c.toNat=125∨c.toNat=44∨c.toNat=59∨c.toNat=96:=by
 have h:=List.contains_iff_mem.1 h
 simp only [spS,List.mem_cons,List.not_mem_nil,or_false] at h
 rcases h with h | h | h | h | h | h | h | h | h<;>subst h<;>decide
def Sep (z:List UInt8):Prop:=z=[]∨∃ r,z=32::r∨z=10::r
theorem qe4 {p:UInt8→Bool} (h1:p 32=false) (h2:p 10=false) {z:List UInt8} (h:Sep z):∀ x,z.head?=some x→p x=false:=by
 intro x hx
 rcases h with rfl | ⟨r,rfl | rfl⟩
 · cases hx
 · injection hx with hx;subst hx;exact h1
 · injection hx with hx;subst hx;exact h2
theorem zx7 {p:UInt8→Bool} {s w z:List UInt8} {i:Nat} (hs:s.drop i=w++z) (hw:w.all p=true) (hz:∀ x,z.head?=some x→p x=false):z74 p s i=w:=by
 unfold z74
 rw [hs,List.takeWhile_append_of_pos (fun x hx=>List.all_eq_true.1 hw x hx)]
 cases z with
 | nil=>simp
 | cons c r=>rw [List.takeWhile_cons_of_neg (by simp [hz c rfl])];simp
theorem zh2 {s w:List UInt8} {i:Nat} {c:UInt8} (h:s.drop i=c::w):s[i]?=some c:=by
 have:=List.getElem?_drop (xs:=s) (i:=i) (j:=0)
 rw [h] at this
 simpa using this.symm
theorem q84 {s w z:List UInt8} {i:Nat} (h:s.drop i=w++z):s.drop (i+w.length)=z:=by
 rw [← List.drop_drop,h,List.drop_left]
theorem jm8 {s z:List UInt8} {i:Nat} (h:s.drop i=z):s[i]?=z.head?:=by
 rw [← h,List.head?_drop]
theorem zj1 {s r:List UInt8} {i:Nat} {c:UInt8} (h:s.drop i=c::r) (h1:c≠32) (h2:c≠9) (h3:c≠10) (h4:c=45→qg9 (z74 symB s i)=false) (h5:c=123→r.head?≠some 45):za1 s i c=none:=by
 unfold za1
 rw [if_neg (by simp [h1,h2,h3]),if_neg (by rintro ⟨a,b⟩;rw [h4 a] at b;cases b),if_neg]
 rw [h]
 intro hp
 cases r with
 | nil=>simp at hp
 | cons d r=>
   simp at hp
   exact h5 hp.1.symm (by simp [hp.2])
theorem j46 {s t z:List UInt8} {i:Nat} (hs:s.drop i=t++z) (hz:Sep z) (ht:zo6 t=true):∃ c,s[i]?=some c∧za1 s i c=none∧z62 s i c=.tok (nmOp t) [] t 0 (i+t.length):=by
 obtain ⟨c,r,e,hl,hc,ha⟩:=q50 ht
 have hc0:=hc
 simp [upperB,lowerB] at hc0
 have hsp:z74 z98 s i=t:=zx7 hs ha (qe4 (by decide) (by decide) hz)
 refine ⟨c,zh2 (w:=r++z) (by rw [hs,e];rfl),?_,?_⟩
 · refine zj1 (r:=r++z) (by rw [hs,e];rfl) ?_ ?_ ?_ ?_ ?_
   all_goals (intro h;subst h;simp at hc0)
 · unfold z62
   rw [if_pos hc]
   unfold zs9
   simp only [hsp]
   rw [if_neg]
   · unfold zk4
     rw [if_neg (by simp),if_neg (by omega)]
   · rintro ⟨_,h,_⟩
     rw [jm8 (q84 hs)] at h
     have:=qe4 (p:=fun x=>x==46) (by decide) (by decide) hz _ h
     simp at this
theorem wf2 {s q t z:List UInt8} {i:Nat} (hs:s.drop i=q++(46::(t++z))) (hz:Sep z) (hq:zo6 q=true) (hu:q09 q=true) (ht:(zo6 t=true∧z86 t≠5)∨(zf7 t=true∧z86 t≠6)):∃ c,s[i]?=some c∧za1 s i c=none∧z62 s i c=.tok (nmOp t) q t 0 (i+q.length+1+t.length):=by
 obtain ⟨c,r,e,hl,hc,ha⟩:=q50 hq
 have hc0:=hc
 simp [upperB,lowerB] at hc0
 have hsp:z74 z98 s i=q:=zx7 hs ha (by intro x hx;injection hx with hx;subst hx;decide)
 have hd:s.drop (i+q.length)=46::(t++z):=q84 hs
 have hd1:s.drop (i+q.length+1)=t++z:=by rw [← List.drop_drop,hd];rfl
 have hqs:q11 s (i+q.length+1)=t∧t≠[]∧t.length≤64:=by
  unfold q11
  rcases ht with ⟨h1,h2⟩ | ⟨h1,h2⟩
  · obtain ⟨d,r',e',hl',hd',ha'⟩:=q50 h1
    rw [zh2 (w:=r'++z) (by rw [hd1,e'];rfl)]
    dsimp only
    rw [if_pos hd',zx7 hd1 ha' (qe4 (by decide) (by decide) hz),if_neg h2]
    exact ⟨rfl,by rw [e'];simp,hl'⟩
  · obtain ⟨d,r',e',hl',hd',ha',hda⟩:=qw0 h1
    rw [zh2 (w:=r'++z) (by rw [hd1,e'];rfl)]
    have:=qo5 hd'
    dsimp only
    rw [if_neg (by simp [upperB,lowerB];omega),zx7 hd1 ha' (qe4 (by decide) (by decide) hz),hda,if_neg (by simp [h2])]
    exact ⟨rfl,by rw [e'];simp,hl'⟩
 obtain ⟨hqs,hne,htl⟩:=hqs
 have hci:s[i]?=some c:=zh2 (w:=r++(46::(t++z))) (by rw [hs,e];rfl)
 refine ⟨c,hci,?_,?_⟩
 · refine zj1 (r:=r++(46::(t++z))) (by rw [hs,e];rfl) ?_ ?_ ?_ ?_ ?_
   all_goals (intro h;subst h;simp at hc0)
 · unfold z62
   rw [if_pos hc]
   unfold zs9
   simp only [hsp,hqs]
   have hup:upperB c=true:=by rw [e] at hu;simpa [q09] using hu
   rw [if_pos ⟨⟨c,hci,hup⟩,zh2 hd,hne⟩]
   unfold zk4
   rw [if_neg (by omega),if_neg (by omega)]
theorem jn8 {s t z:List UInt8} {i:Nat} (hs:s.drop i=t++z) (hz:Sep z) (ht:zf7 t=true):∃ c,s[i]?=some c∧za1 s i c=none∧z62 s i c=.tok (nmOp t) [] t 0 (i+t.length):=by
 obtain ⟨c,r,e,hl,hc,ha,hda⟩:=qw0 ht
 have hsp:z74 symB s i=t:=zx7 hs ha (qe4 (by decide) (by decide) hz)
 have hcl:=qo5 hc
 have e39:c=39↔c.toNat=39:=u8n (n:=39) (by decide)
 have e34:c=34↔c.toNat=34:=u8n (n:=34) (by decide)
 refine ⟨c,zh2 (w:=r++z) (by rw [hs,e];rfl),?_,?_⟩
 · refine zj1 (r:=r++z) (by rw [hs,e];rfl) ?_ ?_ ?_ ?_ ?_
   · intro h;subst h;simp at hcl
   · intro h;subst h;simp at hcl
   · intro h;subst h;simp at hcl
   · intro _;rw [hsp];exact hda
   · intro h;subst h;simp at hcl
 · unfold z62
   rw [if_neg (by simp [upperB,lowerB];omega),if_neg (by simp [z84];omega),if_neg (by rw [e39,e34];omega),if_pos hc,hsp]
   unfold zk4
   rw [if_neg (by simp),if_neg (by omega)]
theorem wx3 {s z:List UInt8} {i:Nat} {c:UInt8} (hs:s.drop i=[c]++z) (hz:Sep z) (hc:spS.contains c=true):s[i]?=some c∧za1 s i c=none∧z62 s i c=.tok 8 [] [c] 0 (i+1):=by
 have hcl:=we7 hc
 have e39:c=39↔c.toNat=39:=u8n (n:=39) (by decide)
 have e34:c=34↔c.toNat=34:=u8n (n:=34) (by decide)
 refine ⟨zh2 hs,?_,?_⟩
 · refine zj1 hs ?_ ?_ ?_ ?_ ?_
   · intro h;subst h;simp at hcl
   · intro h;subst h;simp at hcl
   · intro h;subst h;simp at hcl
   · intro h;subst h;simp at hcl
   · intro _ h
     have:=qe4 (p:=fun x=>x==45) (by decide) (by decide) hz _ h
     simp at this
 · unfold z62
   have hns:symB c≠true:=by intro h;have:=qo5 h;omega
   rw [if_neg (by simp [upperB,lowerB];omega),if_neg (by simp [z84];omega),if_neg (by rw [e39,e34];omega),if_neg hns,if_pos hc]
theorem w57:∀ (a b:List UInt8) (v:Nat),numF (a++b) v=(numF a v).bind fun w=>numF b w:=by
 intro a
 induction a with
 | nil=>intro b v;rfl
 | cons c r ih=>
   intro b v
   simp only [List.cons_append,numF]
   split
   · exact ih _ _
   · rfl
theorem j85 {d:Nat} (h:d<10):z84 (UInt8.ofNat (48+d))=true∧(UInt8.ofNat (48+d)).toNat=48+d:=by
 have e:(UInt8.ofNat (48+d)).toNat=48+d:=by simp;omega
 refine ⟨?_,e⟩
 unfold z84
 rw [e]
 simp
 omega
theorem jh8 (m:Nat):(Lib.decDigits m).all z84=true:=by
 induction m using Nat.strongRecOn with
 | ind m ih=>
   rw [Lib.decDigits]
   split
   · simp only [List.all_cons,List.all_nil,Bool.and_true];exact (j85 (by omega)).1
   · simp only [List.all_append,List.all_cons,List.all_nil,Bool.and_true,Bool.and_eq_true]
     exact ⟨ih _ (by omega),(j85 (by omega)).1⟩
theorem jr3 (m:Nat):∃ c r,Lib.decDigits m=c::r:=by
 cases h:Lib.decDigits m with
 | nil=>rw [Lib.decDigits] at h;split at h<;>simp at h
 | cons c r=>exact ⟨c,r,rfl⟩
theorem qz7 (m:Nat) (h:m≤9223372036854775807):numF (Lib.decDigits m) 0=some m:=by
 induction m using Nat.strongRecOn with
 | ind m ih=>
   rw [Lib.decDigits]
   split
   · obtain ⟨h1,h2⟩:=j85 (d:=m) (by omega)
     rw [numF,if_pos ⟨h1,by omega⟩,h2,numF]
     congr 1
     omega
   · obtain ⟨h1,h2⟩:=j85 (d:=m % 10) (by omega)
     rw [w57,ih _ (by omega) (by omega),Option.bind_some,numF,if_pos ⟨h1,by rw [h2];omega⟩,h2,numF]
     congr 1
     omega
theorem wt8 {s z:List UInt8} {i:Nat} {n:Int} (hn:0≤n∧n≤9223372036854775807) (hs:s.drop i=Lib.itoa n++z) (hz:Sep z):∃ c,s[i]?=some c∧za1 s i c=none∧z62 s i c=.tok 5 [] [] n (i+(Lib.itoa n).length):=by
 have e:Lib.itoa n=Lib.decDigits n.toNat:=by unfold Lib.itoa;rw [if_neg (by omega)]
 rw [e] at hs ⊢
 have ha:=jh8 n.toNat
 have hf:=qz7 n.toNat (by omega)
 obtain ⟨c,r,ec⟩:=jr3 n.toNat
 have hd:z84 c=true:=List.all_eq_true.1 ha c (by rw [ec];simp)
 have hd0:=hd
 simp [z84] at hd0
 have hsp:z74 z84 s i=Lib.decDigits n.toNat:=zx7 hs ha (qe4 (by decide) (by decide) hz)
 refine ⟨c,zh2 (w:=r++z) (by rw [hs,ec];rfl),?_,?_⟩
 · refine zj1 (r:=r++z) (by rw [hs,ec];rfl) ?_ ?_ ?_ ?_ ?_
   all_goals (intro h;subst h;simp at hd0)
 · unfold z62
   rw [if_neg (by simp [upperB,lowerB];omega),if_pos hd]
   unfold numU
   rw [hsp,hf]
   dsimp only
   congr 1
   omega
theorem step_none {s z:List UInt8} {i j:Nat} {c:UInt8} (h:s.drop j=c::z) (hc:32≤c.toNat∧c.toNat≤126):zg6 s i j=none∧s.getD j 0=c:=by
 have hg:=zh2 h
 constructor
 · unfold zg6
   rw [hg]
   dsimp only
   rw [if_neg (by simp [q14];omega),if_neg (by omega)]
 · simp [List.getD,hg]
theorem zl8 {s z:List UInt8} {j:Nat} {c:UInt8} (h:s.drop j=c::z):s.drop (j+1)=z:=by rw [← List.drop_drop,h];rfl
theorem wj4:∀ k:Fin 16,hexV (hexd k)=some k.val∧32≤(hexd k).toNat∧(hexd k).toNat≤126:=by decide
theorem j97 {k:Nat} (h:k<16):hexV (hexd k)=some k∧32≤(hexd k).toNat∧(hexd k).toNat≤126:=wj4 ⟨k,h⟩
theorem jy7 {s z:List UInt8} {i j:Nat} {c m:UInt8} (hm:m=39∨m=34) (h:s.drop j=escB c m++z):zg6 s i j=none∧s.getD j 0≠m∧zm0 s i (s.getD j 0) (j+1)=.ok c (j+(escB c m).length):=by
 have hm92:(92:UInt8)≠m:=by rcases hm with rfl | rfl<;>decide
 have em:m.toNat=39∨m.toNat=34:=by rcases hm with rfl | rfl<;>decide
 have key:∀ d,escB c m=[92,d]→(32≤d.toNat∧d.toNat≤126)→((d=110∧c=10)∨(d=116∧c=9)∨((d=92∨d=39∨d=34)∧c=d))→zg6 s i j=none∧s.getD j 0≠m∧zm0 s i (s.getD j 0) (j+1)=.ok c (j+(escB c m).length):=by
  intro d he hd hk
  rw [he] at h ⊢
  have h1:s.drop j=92::(d::z):=h
  obtain ⟨a1,a2⟩:=step_none (i:=i) h1 (by decide)
  obtain ⟨b1,b2⟩:=step_none (i:=i) (zl8 h1) hd
  rw [a2]
  refine ⟨a1,hm92,?_⟩
  unfold zm0
  rw [if_neg (by simp),b1]
  dsimp only
  rw [b2]
  rcases hk with ⟨rfl,rfl⟩ | ⟨rfl,rfl⟩ | ⟨hk,rfl⟩
  · rfl
  · rfl
  · rcases hk with rfl | rfl | rfl<;>rfl
 by_cases h10:c=10
 · exact key 110 (by unfold escB;rw [if_pos h10]) (by decide) (by simp [h10])
 by_cases h9:c=9
 · exact key 116 (by unfold escB;rw [if_neg h10,if_pos h9]) (by decide) (by simp [h9])
 by_cases h92:c=92∨c=m
 · refine key c (by unfold escB;rw [if_neg h10,if_neg h9,if_pos h92]) ?_ ?_
   · rcases h92 with rfl | rfl
     · decide
     · omega
   · rcases h92 with rfl | rfl
     · simp
     · rcases hm with rfl | rfl<;>simp
 by_cases hp:32≤c.toNat∧c.toNat≤126
 · have he:escB c m=[c]:=by unfold escB;rw [if_neg h10,if_neg h9,if_neg h92,if_pos hp]
   rw [he] at h ⊢
   obtain ⟨a1,a2⟩:=step_none (i:=i) (show s.drop j=c::z from h) hp
   rw [a2]
   refine ⟨a1,fun e=>h92 (.inr e),?_⟩
   unfold zm0
   rw [if_pos (fun e=>h92 (.inl e))]
   rfl
 · have he:escB c m=[92,120,hexd (c.toNat / 16),hexd (c.toNat % 16)]:=by unfold escB;rw [if_neg h10,if_neg h9,if_neg h92,if_neg hp]
   have hlt:=c.toNat_lt
   obtain ⟨x1,x2⟩:=j97 (k:=c.toNat / 16) (by omega)
   obtain ⟨y1,y2⟩:=j97 (k:=c.toNat % 16) (by omega)
   rw [he] at h ⊢
   have h1:s.drop j=92::(120::hexd (c.toNat / 16)::hexd (c.toNat % 16)::z):=h
   obtain ⟨a1,a2⟩:=step_none (i:=i) h1 (by decide)
   have h2:=zl8 h1
   obtain ⟨b1,b2⟩:=step_none (i:=i) h2 (by decide)
   have h3:=zl8 h2
   obtain ⟨c1,c2⟩:=step_none (i:=i) h3 x2
   have h4:=zl8 h3
   obtain ⟨d1,d2⟩:=step_none (i:=i) h4 y2
   rw [a2]
   refine ⟨a1,hm92,?_⟩
   unfold zm0
   rw [if_neg (by simp),b1]
   dsimp only
   rw [b2,if_neg (by decide),if_neg (by decide),if_neg (by decide),if_pos rfl,hexS,c1]
   dsimp only
   rw [c2,x1]
   dsimp only
   rw [hexS,d1]
   dsimp only
   rw [d2,y1]
   dsimp only
   rw [hexS]
   have:UInt8.ofNat (16 * (16 * 0+c.toNat / 16)+c.toNat % 16)=c:=by
    rw [show 16 * (16 * 0+c.toNat / 16)+c.toNat % 16=c.toNat by omega]
    simp
   rw [this]
   rfl
theorem ja9 {s z t:List UInt8} {i j:Nat} {m:UInt8} (hm:m=39∨m=34) (h:s.drop j=m::z):litS s i m t j=.ok t (j+1):=by
 have hc:32≤m.toNat∧m.toNat≤126:=by rcases hm with rfl | rfl<;>decide
 obtain ⟨a1,a2⟩:=step_none (i:=i) h hc
 rw [litS]
 split
 · rename_i h0;rw [a1] at h0;cases h0
 · rw [if_pos a2]
theorem jc1 {s z t:List UInt8} {i j:Nat} {c m:UInt8} (hm:m=39∨m=34) (h:s.drop j=escB c m++z) (hl:t.length<200) (h39:m=39→t=[]):litS s i m t j=litS s i m (t++[c]) (j+(escB c m).length):=by
 obtain ⟨a1,a2,a3⟩:=jy7 (i:=i) hm h
 rw [litS]
 split
 · rename_i h0;rw [a1] at h0;cases h0
 · rw [if_neg a2,if_neg (by rintro ⟨e,e2⟩;rw [h39 e] at e2;cases e2)]
   split
   · rename_i h0;rw [a3] at h0;cases h0
   · rename_i b e h0
     rw [a3] at h0
     injection h0 with e1 e2
     subst e1 e2
     rw [if_neg (by omega)]
theorem wi4 {s z:List UInt8} {i:Nat}:∀ (u t:List UInt8) (j:Nat),s.drop j=escS u 34++(34::z)→t.length+u.length≤200→litS s i 34 t j=.ok (t++u) (j+(escS u 34).length+1):=by
 intro u
 induction u with
 | nil=>
   intro t j h _
   rw [ja9 (.inr rfl) h]
   simp [escS]
 | cons c u ih=>
   intro t j h hl
   have h:s.drop j=escB c 34++(escS u 34++(34::z)):=by
    rw [h];simp [escS]
   rw [jc1 (.inr rfl) h (by simp at hl;omega) (fun e=>absurd e (by decide)),ih _ _ (q84 h) (by simp at hl ⊢;omega)]
   simp [escS]
   omega
theorem ws2 {s u z:List UInt8} {i:Nat} (hs:s.drop i=([34]++escS u 34++[34])++z) (hl:u.length≤200):s[i]?=some 34∧za1 s i 34=none∧z62 s i 34=.tok 7 [] u 0 (i+([34]++escS u 34++[34]).length):=by
 have h:s.drop i=34::(escS u 34++(34::z)):=by rw [hs];simp
 refine ⟨zh2 h,zj1 h (by decide) (by decide) (by decide) (fun e=>absurd e (by decide)) (fun e=>absurd e (by decide)),?_⟩
 unfold z62
 rw [if_neg (by decide),if_neg (by decide),if_pos (.inr rfl)]
 unfold litU
 rw [wi4 u [] (i+1) (zl8 h) (by simpa using hl)]
 unfold quoU
 dsimp only
 rw [if_neg (by decide)]
 simp
 omega
theorem wn0 {s z:List UInt8} {i:Nat} {c:UInt8} (hs:s.drop i=([39]++escB c 39++[39])++z):s[i]?=some 39∧za1 s i 39=none∧z62 s i 39=.tok 6 [] [] c.toNat (i+([39]++escB c 39++[39]).length):=by
 have h:s.drop i=39::(escB c 39++(39::z)):=by rw [hs];simp
 refine ⟨zh2 h,zj1 h (by decide) (by decide) (by decide) (fun e=>absurd e (by decide)) (fun e=>absurd e (by decide)),?_⟩
 unfold z62
 rw [if_neg (by decide),if_neg (by decide),if_pos (.inl rfl)]
 unfold litU
 rw [jc1 (.inl rfl) (zl8 h) (by simp) (by simp),ja9 (.inl rfl) (q84 (zl8 h))]
 unfold quoU
 dsimp only [List.nil_append]
 rw [if_pos rfl]
 simp
 omega
end Go.Proofs.TryzL
namespace Go.Proofs.TryzL
open Go.Proofs.Lz
set_option maxHeartbeats 4000000
end Go.Proofs.TryzL
