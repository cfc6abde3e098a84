/- Chapter 02: the law about Same. -/
import Derived.Test.YtencoceemejcnaaGreatDoorLzT54
import Derived.Test.YtencoceemejcnaaGreatDoorLzT34
import Derived.Test.YtencoceemejcnaaGreatDoorLzVc7
set_option linter.unusedSimpArgs false
set_option linter.unusedVariables false
namespace Go.Proofs.TryzL
open Go.Proofs.Lz
set_option maxHeartbeats 4000000
def tksF:List Tok→CV
 | []=>.frz none []
 | t::r=>.frz (some 7) ((t::r).map tokC)
def lexR:LR→WV
 | .bad code nm l c=>.tup [.c (.frz none []),.c (fltC code nm l c)]
 | .ok l=>.tup [.c (tksF l),.c zF]
def q86 (s:List UInt8):LR:=if 65536<s.length then .bad 3 [] 0 0 else lexU s 0 []
def tksV:List Tok→WV
 | []=>.nils
 | t::r=>.view (.sl 5 0 0) true 0 38 (some 7) ((t::r).map tokC)
def lexP0:ICode:=(ICode.region [⟨some 19,none,.mv (.t 4)⟩,⟨some 20,none,.nck (.t 19)⟩,⟨some 21,none,.faddr 1 (.t 20)⟩,⟨some 22,none,.load none (.t 21)⟩,⟨some 23,none,.mv (.t 0)⟩,⟨some 24,none,.len true (.t 23)⟩,⟨some 25,none,.bin .geq (.t 22) (.t 24)⟩]).seq (ICode.cond (.t 25) ((ICode.keep [3,5]).seq ((ICode.region [⟨some 26,none,.mv (.t 5)⟩,⟨some 27,none,.build [.c (.int .i64 0),.c (.str []),.c (.int .i64 0),.c (.int .i64 0)] []⟩,⟨some 2,none,.mv (.t 26)⟩,⟨none,none,.store (some 4) (.t 3) (.t 27)⟩]).seq ICode.ret)) ((ICode.keep [0,3,4,5,6]).seq ICode.skip))
def lexL:ICode:=lexP0.seq (lexQ zi9)
theorem wv6:Vv.fn 11=some { body:=(ICode.region [⟨some 2,none,.mv (.k .nils)⟩,⟨some 3,none,.lbox (some 4) (.k (.c (.agg [.int .i64 0,.str [],.int .i64 0,.int .i64 0])))⟩]).seq (ICode.scope 0 [0,3,4,5,6] (((ICode.region [⟨some 12,none,.mv (.t 0)⟩,⟨some 13,none,.len true (.t 12)⟩,⟨some 14,none,.bin .gtr (.t 13) (.k (.c (.int .i64 65536)))⟩]).seq (ICode.cond (.t 14) ((ICode.keep [3]).seq ((ICode.region [⟨some 15,none,.build [.c (.int .i64 0),.c (.str []),.c (.int .i64 0),.c (.int .i64 0)] [(0,1,.k (.c (.int .i64 3)))]⟩,⟨some 2,none,.mv (.k .nils)⟩,⟨none,none,.store (some 4) (.t 3) (.t 15)⟩]).seq ICode.ret)) ((ICode.keep [0,3]).seq ICode.skip))).seq ((ICode.region [⟨some 16,none,.mv (.t 0)⟩,⟨some 17,none,.build [.c (.str []),.c (.int .i64 0),.c (.int .i64 0),.c (.int .i64 0),.c (.int .i64 0),.c (.str []),.c (.int .i64 0),.c (.int .i64 0)] [(0,1,.t 16),(2,1,.k (.c (.int .i64 1))),(3,1,.k (.c (.int .i64 1)))]⟩,⟨some 18,none,.hbox (some 8) (.t 17)⟩,⟨some 4,none,.mv (.t 18)⟩]).seq ((ICode.region [⟨some 5,none,.mv (.k .nils)⟩]).seq ((ICode.region [⟨some 6,none,.lbox (some 7) (.k (.c (.agg [.int .i64 0,.str [],.str [],.int .i64 0,.bool false,.int .i64 0,.int .i64 0])))⟩]).seq ((ICode.region [⟨some 7,none,.mv (.k (.c (.bool false)))⟩]).seq ((ICode.region [⟨some 8,none,.mv (.k (.c (.int .i64 0)))⟩,⟨some 9,none,.mv (.k (.c (.int .i64 0)))⟩]).seq ((ICode.label 0).seq lexL))))))) (ICode.skip.seq lexL)),res:=[.tmp 2,.cell 3 (some 4)] }:=rfl
theorem qr6 {s:List UInt8} {i:Nat} {acc:List Tok} (h:¬ i<s.length):lexU s i acc=.ok acc:=by rw [lexU,dif_neg h]
theorem ji8 {H:z18} {s:List UInt8} {id i:Nat} {t6:CV} {N:Post} {B:Hs} {R:RP} (hH:ScH id (scAt s i) H) (hi:i≤s.length) (hl:s.length<2^30) (hlen:([]:List Tok).length≤16384)
 (hgo:∀ (acc':List Tok) (e:Nat) (t':CV) H',lexU s i ([]:List Tok)=lexU s e acc'→i<e→e≤s.length→acc'.length≤16384→ScH id (scAt s e) H'→∀ fr,KpL [0,3,4,5,6] fr [0,3,4,5,6] (lexK s id acc' t')→R.go 0 fr H')
 (hend:lexU s i ([]:List Tok)=.ok ([]:List Tok)→∀ fr:WFr,fr.env 2=tksV ([]:List Tok)→fr.env 3=.lbox (some 4) (.c zF)→R.ret fr H)
 (hbad:∀ code nm l c' H',lexU s i ([]:List Tok)=.bad code nm l c'→∀ fr:WFr,fr.env 2=.nils→fr.env 3=.lbox (some 4) (.c (fltC code nm l c'))→R.ret fr H') :
 WP Vv lexL (FL (lexK s id ([]:List Tok) t6) []) H N B R:=by
 have hr:=fun hi=>@jv7 H s id i t6 N B R hH hi hl hlen hgo hbad
 unfold lexL lexP0
 generalize hT:lexQ zi9=T at *
 unfold lexK at *
 unfold ScH at hH
 repeat' first
  | apply z01
  | exact z13
  | exact z19 rfl
  | (apply z15;rfl;rfl)
  | (apply z30;(iterate 3 rfl))
  | (apply z44;rfl)
  | (apply z78;(iterate 3 rfl))
  | (apply z66;rfl;rfl)
  | (apply z24;rfl;rfl)
  | (apply z14;rfl;rfl)
  | (apply z29;rfl;rfl)
  | (apply z28;(iterate 4 rfl);exact z34 (by first | exact rfl | assumption | exact z06 (by assumption)))
  | (apply z22;rfl;rfl;(assumption);rfl)
  | (apply z04;focus (repeat (first | exact z23 | (apply kq_c;rfl) | (apply zc5;rfl) | (apply z50;rfl) | (apply z38;rfl))))
  | apply z02
  | apply z00
  | apply z03
  | apply z07
  | apply z09
  | (apply z12;rfl)
  | (with_reducible apply z69;intro hc)
  | (with_reducible apply z52;intro hc)
 · refine hend (qr6 ?_) _ rfl rfl
   have e:(scAt s i).pos=i:=rfl
   omega
 · refine hr ?_
   have e:(scAt s i).pos=i:=rfl
   omega
theorem jg7 {H:z18} {s:List UInt8} {id i:Nat} {a:Tok} {r:List Tok} {t6:CV} {N:Post} {B:Hs} {R:RP} (hH:ScH id (scAt s i) H) (hi:i≤s.length) (hl:s.length<2^30) (hlen:(a::r).length≤16384)
 (hgo:∀ (acc':List Tok) (e:Nat) (t':CV) H',lexU s i (a::r)=lexU s e acc'→i<e→e≤s.length→acc'.length≤16384→ScH id (scAt s e) H'→∀ fr,KpL [0,3,4,5,6] fr [0,3,4,5,6] (lexK s id acc' t')→R.go 0 fr H')
 (hend:lexU s i (a::r)=.ok (a::r)→∀ fr:WFr,fr.env 2=tksV (a::r)→fr.env 3=.lbox (some 4) (.c zF)→R.ret fr H)
 (hbad:∀ code nm l c' H',lexU s i (a::r)=.bad code nm l c'→∀ fr:WFr,fr.env 2=.nils→fr.env 3=.lbox (some 4) (.c (fltC code nm l c'))→R.ret fr H') :
 WP Vv lexL (FL (lexK s id (a::r) t6) []) H N B R:=by
 have hr:=fun hi=>@wp1 H s id i a r t6 N B R hH hi hl hlen hgo hbad
 unfold lexL lexP0
 generalize hT:lexQ zi9=T at *
 unfold lexK at *
 unfold ScH at hH
 repeat' first
  | apply z01
  | exact z13
  | exact z19 rfl
  | (apply z15;rfl;rfl)
  | (apply z30;(iterate 3 rfl))
  | (apply z44;rfl)
  | (apply z78;(iterate 3 rfl))
  | (apply zb9;(iterate 3 rfl))
  | (apply z24;rfl;rfl)
  | (apply z14;rfl;rfl)
  | (apply z29;rfl;rfl)
  | (apply z28;(iterate 4 rfl);exact z34 (by first | exact rfl | assumption | exact z06 (by assumption)))
  | (apply z22;rfl;rfl;(assumption);rfl)
  | (apply z04;focus (repeat (first | exact z23 | (apply kq_c;rfl) | (apply ze1;rfl;rfl) | (apply z50;rfl) | (apply z38;rfl))))
  | apply z02
  | apply z00
  | apply z03
  | apply z07
  | apply z09
  | (apply z12;rfl)
  | (with_reducible apply z69;intro hc)
  | (with_reducible apply z52;intro hc)
 · refine hend (qr6 ?_) _ rfl rfl
   have e:(scAt s i).pos=i:=rfl
   omega
 · refine hr ?_
   have e:(scAt s i).pos=i:=rfl
   omega
theorem w74 {fr:WFr} {H:z18} {xs:List CV} {f:CV} (h1:fr.env 2=.view (.sl 5 0 0) true 0 38 (some 7) xs) (h2:fr.env 3=.lbox (some 4) (.c f)):fin [.tmp 2,.cell 3 (some 4)] (.tup [.c (.frz (some 7) xs),.c f]) fr H:=by
 refine ⟨[.view (.sl 5 0 0) true 0 38 (some 7) xs,.c f],.tup [.own true 38 (some 7) xs,.c f],hitH false [.sl 5 0 0] H,?_,?_,rfl⟩
 · simp only [zg0,h1,h2,if_true];rfl
 · unfold zq0
   rw [if_pos ⟨by exact List.nodup_cons.2 ⟨by simp [ze3,srcC,src1],List.nodup_nil⟩,rfl,.inr rfl⟩]
   rfl
theorem jt9 {fr:WFr} {H:z18} {acc:List Tok} {f:CV} (h1:fr.env 2=tksV acc) (h2:fr.env 3=.lbox (some 4) (.c f)):fin [.tmp 2,.cell 3 (some 4)] (.tup [.c (tksF acc),.c f]) fr H:=by
 cases acc with
 | nil=>exact fin2 (by decide) (.nils h1) h2
 | cons a r=>exact w74 h1 h2
theorem j34 {fr:WFr} {H:z18} {f:CV} (h1:fr.env 2=.nils) (h2:fr.env 3=.lbox (some 4) (.c f)):fin [.tmp 2,.cell 3 (some 4)] (.tup [.c (.frz none []),.c f]) fr H:=fin2 (by decide) (.nils h1) h2
theorem v47 (s:List UInt8) (hl:s.length≤9223372036854775807):Rets Vv 11 [.c (.str s)] (lexR (q86 s)):=by
 refine z67 wv6 ?_
 generalize hL:lexL=L
 repeat' first
  | apply z01
  | exact z19 rfl
  | (apply z66;rfl;rfl)
  | (apply z88;rfl;rfl;first | exact z65 (by first | exact rfl | assumption | exact z06 (by assumption)) | exact z73 (by first | exact rfl | assumption | exact z06 (by assumption)))
  | apply z02
  | apply z00
  | apply z03
 refine q66 (fun p:List Tok×Nat×CV=>lexK s 0 p.1 p.2.2) (fun (p:List Tok×Nat×CV) H'=>p.1.length≤16384∧p.2.1≤s.length∧ScH 0 (scAt s p.2.1) H'∧lexU s p.2.1 p.1=lexU s 0 []∧s.length≤65536) (fun (p:List Tok×Nat×CV)=>s.length - p.2.1) ?_ ?_
 · have hpl:plc s 0=(1,1):=rfl
   repeat' first
    | apply z01
    | exact z13
    | exact z19 rfl
    | (apply z15;rfl;rfl)
    | (apply z30;(iterate 3 rfl))
    | (apply z44;rfl)
    | (apply z78;(iterate 3 rfl))
    | (apply z66;rfl;rfl)
    | (apply z24;rfl;rfl)
    | (apply z88;rfl;rfl;first | exact z65 (by first | exact rfl | assumption | exact z06 (by assumption)) | exact z73 (by first | exact rfl | assumption | exact z06 (by assumption)))
    | (apply z28;(iterate 4 rfl);exact z34 (by first | exact rfl | assumption | exact z06 (by assumption)))
    | (apply ju1;rfl;rfl)
    | (apply z04;focus (repeat (first | exact z23 | (apply kq_c;rfl) | (apply z38;rfl))))
    | apply z02
    | apply z00
    | apply z03
    | apply z07
    | apply z09
    | apply q68
    | (apply z12;rfl)
    | (with_reducible apply z69;intro hc)
    | (with_reducible apply z52;intro hc)
    | (apply qi8;(exact ShI.nils rfl);(exact ShI.cell rfl);(exact by decide))
   · unfold q86
     rw [if_pos (by omega)]
     rfl
   · have e:q86 s=lexU s 0 []:=by unfold q86;rw [if_neg (by omega)]
     have hH:ScH 0 (scAt s 0) [.var (some 8) (scC (scAt s 0))]:=rfl
     have gg:∀ (acc':List Tok) (e:Nat) (t':CV) H',lexU s 0 []=lexU s e acc'→0<e→e≤s.length→acc'.length≤16384→ScH 0 (scAt s e) H'→∀ fr,KpL [0,3,4,5,6] fr [0,3,4,5,6] (lexK s 0 acc' t')→(0=0∧∃ s':List Tok×Nat×CV,KpL [0,3,4,5,6] fr [0,3,4,5,6] (lexK s 0 s'.1 s'.2.2)∧(s'.1.length≤16384∧s'.2.1≤s.length∧ScH 0 (scAt s s'.2.1) H'∧lexU s s'.2.1 s'.1=lexU s 0 []∧s.length≤65536)):=
      fun acc' e t' H' g1 g2 g3 g4 g5 fr g6=>⟨rfl,(acc',e,t'),g6,⟨g4,g3,g5,g1.symm,by omega⟩⟩
     rw [e]
     subst hL
     unfold lexL lexP0
     generalize hT:lexQ zi9=T
     repeat' first
      | apply z01
      | exact z13
      | exact z19 rfl
      | (apply z15;rfl;rfl)
      | (apply z30;(iterate 3 rfl))
      | (apply z44;rfl)
      | (apply z78;(iterate 3 rfl))
      | (apply z66;rfl;rfl)
      | (apply z24;rfl;rfl)
      | (apply z14;rfl;rfl)
      | (apply z29;rfl;rfl)
      | (apply z28;(iterate 4 rfl);exact z34 (by first | exact rfl | assumption | exact z06 (by assumption)))
      | (apply z22;rfl;rfl;(assumption);rfl)
      | (apply z04;focus (repeat (first | exact z23 | (apply kq_c;rfl) | (apply zc5;rfl) | (apply z50;rfl) | (apply z38;rfl))))
      | apply z02
      | apply z00
      | apply z03
      | apply z07
      | apply z09
      | (apply z12;rfl)
      | (with_reducible apply z69;intro hc)
      | (with_reducible apply z52;intro hc)
      | (apply qi8;(exact ShI.nils rfl);(exact ShI.cell rfl);(exact by decide))
     · have e1:(scAt s 0).pos=0:=rfl
       have e0:lexU s 0 []=.ok []:=qr6 (by omega)
       rw [e0]
       rfl
     · subst hT
       have e1:(scAt s 0).pos=0:=rfl
       refine jv7 (t6:=tokC ⟨0,[],[],0,false,0,0⟩) hH (by omega) (by omega) (by simp) gg ?_
       intro code nm l c' H' k fr k1 k2
       rw [k]
       exact j34 k1 k2
 · rintro ⟨acc,j,t6⟩ H ⟨h1,h2,h3,h4,h5⟩
   dsimp only at h1 h2 h3 h4 h5
   dsimp only
   repeat' first
    | apply z02
    | apply z07
   subst hL
   have e:q86 s=lexU s j acc:=by unfold q86;rw [if_neg (by omega),h4]
   have gg:∀ (acc':List Tok) (e:Nat) (t':CV) H',lexU s j acc=lexU s e acc'→j<e→e≤s.length→acc'.length≤16384→ScH 0 (scAt s e) H'→∀ fr,KpL [0,3,4,5,6] fr [0,3,4,5,6] (lexK s 0 acc' t')→(0=0∧∃ s':List Tok×Nat×CV,KpL [0,3,4,5,6] fr [0,3,4,5,6] (lexK s 0 s'.1 s'.2.2)∧(s'.1.length≤16384∧s'.2.1≤s.length∧ScH 0 (scAt s s'.2.1) H'∧lexU s s'.2.1 s'.1=lexU s 0 []∧s.length≤65536)∧s.length - s'.2.1<s.length - j):=
    fun acc' e t' H' g1 g2 g3 g4 g5 fr g6=>⟨rfl,(acc',e,t'),g6,⟨g4,g3,g5,g1.symm.trans h4,h5⟩,by dsimp only;omega⟩
   rw [e]
   cases acc with
   | nil=>
     refine ji8 h3 h2 (by omega) h1 gg ?_ ?_
     · intro k fr k1 k2
       rw [k]
       exact jt9 k1 k2
     · intro code nm l c' H' k fr k1 k2
       rw [k]
       exact j34 k1 k2
   | cons a r=>
     refine jg7 h3 h2 (by omega) h1 gg ?_ ?_
     · intro k fr k1 k2
       rw [k]
       exact jt9 k1 k2
     · intro code nm l c' H' k fr k1 k2
       rw [k]
       exact j34 k1 k2
end Go.Proofs.TryzL
namespace Go.Proofs.TryzL
open Go.Proofs.Lz
set_option maxHeartbeats 4000000
def keyT (t:Tok):Int×List UInt8×List UInt8×Int:=(t.op,t.qual,t.text,t.n)
def q33 (a b:List Tok):Bool:=decide (a.map keyT=b.map keyT)
theorem q43 {a b:List Tok} (h:a.length≠b.length):q33 a b=false:=by
 unfold q33
 rw [decide_eq_false_iff_not]
 intro e
 exact h (by simpa using congrArg List.length e)
theorem je2 {a b:List Tok} {n:Nat} (ha:n<a.length) (hb:n<b.length) (h:keyT a[n]≠keyT b[n]):q33 a b=false:=by
 unfold q33
 rw [decide_eq_false_iff_not]
 intro e
 apply h
 have:=congrArg (fun l=>l[n]?) e
 simpa [ha,hb] using this
theorem wd5 {a b:List Tok} {n:Nat} (ha:n<a.length) (hb:n<b.length) (hall:(a.take n).map keyT=(b.take n).map keyT) (h:keyT a[n]=keyT b[n]):(a.take (n+1)).map keyT=(b.take (n+1)).map keyT:=by
 rw [List.take_add_one,List.take_add_one,List.map_append,List.map_append,hall,List.getElem?_eq_getElem ha,List.getElem?_eq_getElem hb]
 simp [h]
theorem we6 {a b:List Tok} {n:Nat} (ha:a.length≤n) (hb:b.length≤n) (hall:(a.take n).map keyT=(b.take n).map keyT):q33 a b=true:=by
 rw [List.take_of_length_le ha,List.take_of_length_le hb] at hall
 unfold q33
 rw [decide_eq_true_iff]
 exact hall
theorem wt9 (a b:List Tok) (ha:a.length≤9223372036854775807) (hb:b.length≤9223372036854775807):Rets Vv 17 [.c (tks a),.c (tks b)] (.c (.bool (q33 a b))):=by
 refine z67 wz8 ?_
 unfold tks
 repeat' first
  | apply z01
  | exact z13
  | (apply z15;rfl;rfl)
  | (apply z30;(iterate 3 rfl))
  | (apply zb8;rfl)
  | (apply z04;focus (repeat (first | exact z23 | (apply kq_c;rfl))))
  | apply z02
  | apply z00
  | apply z03
  | apply z05
  | apply z07
  | apply z09
  | (apply z12;rfl)
  | (with_reducible apply zd3;intro hc)
  | (with_reducible apply za6;intro hc)
  | (apply z98;rfl)
 · rw [q43 (by omega)]
 refine zd2 (fun n:Nat=>[(1,.c (.frz (some 7) (b.map tokC))),(13,.c (.frz (some 7) (a.map tokC))),(14,.c (.int .i64 a.length)),(15,.c (.int .i64 n))]) (fun n=>n≤a.length∧(a.take n).map keyT=(b.take n).map keyT) (fun n=>a.length - n) 0 ?_ ⟨Nat.zero_le _,rfl⟩ ?_
 · repeat' first
    | exact z23
    | refine z64 rfl ?_
 rintro n ⟨hn,hall⟩
 have hab:a.length=b.length:=by omega
 by_cases hnl:n<a.length
 · have hnb:n<b.length:=by omega
   repeat' first
    | apply z01
    | exact z13
    | exact zd4 rfl
    | (apply z15;rfl;rfl)
    | (apply zl1;rfl;rfl)
    | (apply z45;(iterate 3 rfl))
    | (apply z99;rfl;rfl;omega)
    | (apply z30;(iterate 3 rfl))
    | (apply z17;rfl;(with_reducible rfl);rfl)
    | (apply z16;rfl;(with_reducible rfl);rfl)
    | (apply zh8;(iterate 3 rfl);exact List.getElem?_eq_getElem (by omega))
    | (apply z49;rfl;exact zd0 rfl)
    | (apply z88;rfl;rfl;first | exact z65 (by first | exact rfl | assumption | exact z06 (by assumption)) | exact z73 (by first | exact rfl | assumption | exact z06 (by assumption)))
    | (apply z28;(iterate 4 rfl);exact z34 (by first | exact rfl | assumption | exact z06 (by assumption)))
    | (apply z04;focus (repeat (first | exact z23 | (apply kq_c;rfl))))
    | apply z02
    | apply z00
    | apply z03
    | apply z05
    | apply z07
    | apply z09
    | apply z56
    | (apply z35;rfl;(with_reducible rfl))
    | (apply z12;rfl)
    | (apply z47;rfl;(with_reducible rfl))
    | (apply z41;rfl;(with_reducible rfl))
    | (apply z39;rfl)
    | with_reducible apply z57
    | with_reducible apply z58
    | (with_reducible apply zh3;intro hc)
    | (with_reducible apply zb2;intro hc)
    | (with_reducible apply zd3;intro hc)
    | (with_reducible apply za6;intro hc)
    | (with_reducible apply z69;intro hc)
    | (with_reducible apply z52;intro hc)
    | (apply z98;rfl)
   any_goals (exfalso;omega)
   any_goals rw [je2 hnl hnb (by unfold keyT;intro e;simp only [Prod.mk.injEq] at e;simp_all)]
   refine ⟨n+1,?_,rfl,⟨by omega,wd5 hnl hnb hall (by unfold keyT;simp_all)⟩,by omega⟩
   repeat' first
    | exact z23
    | refine z64 rfl ?_
 · repeat' first
    | apply z01
    | exact z13
    | exact zd4 rfl
    | (apply z15;rfl;rfl)
    | (apply zl1;rfl;rfl)
    | (apply z45;(iterate 3 rfl))
    | (apply z99;rfl;rfl;omega)
    | (apply z30;(iterate 3 rfl))
    | (apply z17;rfl;(with_reducible rfl);rfl)
    | (apply z16;rfl;(with_reducible rfl);rfl)
    | (apply zh8;(iterate 3 rfl);exact List.getElem?_eq_getElem (by omega))
    | (apply z49;rfl;exact zd0 rfl)
    | (apply z88;rfl;rfl;first | exact z65 (by first | exact rfl | assumption | exact z06 (by assumption)) | exact z73 (by first | exact rfl | assumption | exact z06 (by assumption)))
    | (apply z28;(iterate 4 rfl);exact z34 (by first | exact rfl | assumption | exact z06 (by assumption)))
    | (apply z04;focus (repeat (first | exact z23 | (apply kq_c;rfl))))
    | apply z02
    | apply z00
    | apply z03
    | apply z05
    | apply z07
    | apply z09
    | apply z56
    | (apply z35;rfl;(with_reducible rfl))
    | (apply z12;rfl)
    | (apply z47;rfl;(with_reducible rfl))
    | (apply z41;rfl;(with_reducible rfl))
    | (apply z39;rfl)
    | with_reducible apply z57
    | with_reducible apply z58
    | (with_reducible apply zh3;intro hc)
    | (with_reducible apply zb2;intro hc)
    | (with_reducible apply zd3;intro hc)
    | (with_reducible apply za6;intro hc)
    | (with_reducible apply z69;intro hc)
    | (with_reducible apply z52;intro hc)
    | (apply z98;rfl)
   any_goals (exfalso;omega)
   rw [we6 (by omega) (by omega) hall]
theorem v13:Vv.fn 18=some ic18:=rfl
theorem ww3 (a b:List Tok) (ha:a.length≤9223372036854775807) (hb:b.length≤9223372036854775807):Rets Vv 18 [.c (tks a),.c (tks b)] (.c (.bool (q33 a b))):=by
 refine z67 v13 ?_
 unfold tks
 repeat' first
  | apply z01
  | exact z13
  | (apply z15;rfl;rfl)
  | (apply z30;(iterate 3 rfl))
  | (apply zb8;rfl)
  | (apply z04;focus (repeat (first | exact z23 | (apply kq_c;rfl))))
  | apply z02
  | apply z00
  | apply z03
  | apply z05
  | apply z07
  | apply z09
  | (apply z12;rfl)
  | (with_reducible apply zd3;intro hc)
  | (with_reducible apply za6;intro hc)
  | (apply z98;rfl)
 · rw [q43 (by omega)]
 refine zd2 (fun n:Nat=>[(0,.c (.frz (some 7) (a.map tokC))),(1,.c (.frz (some 7) (b.map tokC))),(5,.c (.int .i64 n))]) (fun n=>n≤a.length∧(a.take n).map keyT=(b.take n).map keyT) (fun n=>a.length - n) 0 ?_ ⟨Nat.zero_le _,rfl⟩ ?_
 · repeat' first
    | exact z23
    | refine z64 rfl ?_
 rintro n ⟨hn,hall⟩
 have hab:a.length=b.length:=by omega
 by_cases hnl:n<a.length
 · have hnb:n<b.length:=by omega
   repeat' first
    | apply z01
    | exact z13
    | exact zd4 rfl
    | (apply z15;rfl;rfl)
    | (apply zl1;rfl;rfl)
    | (apply z45;(iterate 3 rfl))
    | (apply z99;rfl;rfl;omega)
    | (apply z30;(iterate 3 rfl))
    | (apply zb8;rfl)
    | (apply z17;rfl;(with_reducible rfl);rfl)
    | (apply z16;rfl;(with_reducible rfl);rfl)
    | (apply zh8;(iterate 3 rfl);exact List.getElem?_eq_getElem (by omega))
    | (apply z49;rfl;exact zd0 rfl)
    | (apply z88;rfl;rfl;first | exact z65 (by first | exact rfl | assumption | exact z06 (by assumption)) | exact z73 (by first | exact rfl | assumption | exact z06 (by assumption)))
    | (apply z28;(iterate 4 rfl);exact z34 (by first | exact rfl | assumption | exact z06 (by assumption)))
    | (apply z04;focus (repeat (first | exact z23 | (apply kq_c;rfl))))
    | apply z02
    | apply z00
    | apply z03
    | apply z05
    | apply z07
    | apply z09
    | apply z56
    | apply z25
    | apply z54
    | (apply z35;rfl;(with_reducible rfl))
    | (apply z12;rfl)
    | (apply z47;rfl;(with_reducible rfl))
    | (apply z41;rfl;(with_reducible rfl))
    | (apply z39;rfl)
    | (apply wq4;(exact rfl))
    | (apply z62;(exact rfl))
    | with_reducible apply z57
    | with_reducible apply z58
    | (with_reducible apply zh3;intro hc)
    | (with_reducible apply zb2;intro hc)
    | (with_reducible apply zd3;intro hc)
    | (with_reducible apply za6;intro hc)
    | (with_reducible apply z69;intro hc)
    | (with_reducible apply z52;intro hc)
    | (apply z48;rfl)
    | (apply z55;rfl)
    | (apply jt4)
    | (apply zd7;rfl)
    | (apply qo0)
    | (apply dand;rfl)
    | (apply z98;rfl)
   any_goals (exfalso;omega)
   any_goals rw [je2 hnl hnb (by unfold keyT;intro e;simp only [Prod.mk.injEq] at e;simp_all)]
   refine ⟨n+1,?_,rfl,⟨by omega,wd5 hnl hnb hall (by unfold keyT;simp_all)⟩,by omega⟩
   repeat' first
    | exact z23
    | refine z64 rfl ?_
 · repeat' first
    | apply z01
    | exact z13
    | exact zd4 rfl
    | (apply z15;rfl;rfl)
    | (apply zl1;rfl;rfl)
    | (apply z45;(iterate 3 rfl))
    | (apply z99;rfl;rfl;omega)
    | (apply z30;(iterate 3 rfl))
    | (apply zb8;rfl)
    | (apply z17;rfl;(with_reducible rfl);rfl)
    | (apply z16;rfl;(with_reducible rfl);rfl)
    | (apply zh8;(iterate 3 rfl);exact List.getElem?_eq_getElem (by omega))
    | (apply z49;rfl;exact zd0 rfl)
    | (apply z88;rfl;rfl;first | exact z65 (by first | exact rfl | assumption | exact z06 (by assumption)) | exact z73 (by first | exact rfl | assumption | exact z06 (by assumption)))
    | (apply z28;(iterate 4 rfl);exact z34 (by first | exact rfl | assumption | exact z06 (by assumption)))
    | (apply z04;focus (repeat (first | exact z23 | (apply kq_c;rfl))))
    | apply z02
    | apply z00
    | apply z03
    | apply z05
    | apply z07
    | apply z09
    | apply z56
    | apply z25
    | apply z54
    | (apply z35;rfl;(with_reducible rfl))
    | (apply z12;rfl)
    | (apply z47;rfl;(with_reducible rfl))
    | (apply z41;rfl;(with_reducible rfl))
    | (apply z39;rfl)
    | (apply wq4;(exact rfl))
    | (apply z62;(exact rfl))
    | with_reducible apply z57
    | with_reducible apply z58
    | (with_reducible apply zh3;intro hc)
    | (with_reducible apply zb2;intro hc)
    | (with_reducible apply zd3;intro hc)
    | (with_reducible apply za6;intro hc)
    | (with_reducible apply z69;intro hc)
    | (with_reducible apply z52;intro hc)
    | (apply z48;rfl)
    | (apply z55;rfl)
    | (apply jt4)
    | (apply zd7;rfl)
    | (apply qo0)
    | (apply dand;rfl)
    | (apply z98;rfl)
   any_goals (exfalso;omega)
   rw [we6 (by omega) (by omega) hall]
end Go.Proofs.TryzL
