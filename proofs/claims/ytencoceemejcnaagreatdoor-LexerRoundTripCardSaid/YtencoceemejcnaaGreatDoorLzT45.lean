/- Chapter 02: a turn of Lex that gives a token. -/
import Derived.Test.YtencoceemejcnaaGreatDoorLzT40
import Derived.Test.YtencoceemejcnaaGreatDoorLzT43
set_option linter.unusedSimpArgs false
set_option linter.unusedVariables false
namespace Go.Proofs.TryzL
open Go.Proofs.Lz
set_option maxHeartbeats 4000000
def lexP1:ICode:=(ICode.region [⟨some 28,none,.mv (.t 4)⟩,⟨some 29,none,.call 23 [.t 28]⟩]).seq (ICode.cond (.t 29) ((ICode.keep [0,3,4,5,6]).seq (ICode.goto 0)) ((ICode.keep [0,3,4,5,6]).seq ICode.skip))
def lexP2:ICode:=(ICode.region [⟨some 30,none,.mv (.t 4)⟩,⟨some 31,none,.nck (.t 30)⟩,⟨some 32,none,.faddr 4 (.t 31)⟩,⟨some 33,none,.faddr 0 (.t 32)⟩,⟨some 34,none,.load none (.t 33)⟩,⟨some 35,none,.bin .neq (.t 34) (.k (.c (.int .i64 0)))⟩]).seq (ICode.cond (.t 35) ((ICode.keep [3,4]).seq ((ICode.regionD [(.pure,⟨some 36,none,.mv (.t 4)⟩),(.pure,⟨some 37,none,.nck (.t 36)⟩),(.pure,⟨some 38,none,.faddr 4 (.t 37)⟩),(.rd,⟨some 39,none,.load (some 4) (.t 38)⟩),(.pure,⟨some 2,none,.mv (.k .nils)⟩),(.wrb,⟨none,none,.store (some 4) (.t 3) (.t 39)⟩)]).seq ICode.ret)) ((ICode.keep [0,3,4,5,6]).seq ICode.skip))
def lexP3:ICode:=ICode.regionD [(.pure,⟨some 40,none,.mv (.t 4)⟩),(.pure,⟨some 41,none,.nck (.t 40)⟩),(.pure,⟨some 42,none,.faddr 2 (.t 41)⟩),(.rd,⟨some 43,none,.load none (.t 42)⟩),(.pure,⟨some 44,none,.mv (.t 4)⟩),(.pure,⟨some 45,none,.nck (.t 44)⟩),(.pure,⟨some 46,none,.faddr 3 (.t 45)⟩),(.rd,⟨some 47,none,.load none (.t 46)⟩),(.pure,⟨some 8,none,.mv (.t 43)⟩),(.pure,⟨some 9,none,.mv (.t 47)⟩)]
def lexP4:ICode:=(ICode.region [⟨some 48,none,.mv (.t 0)⟩,⟨some 49,none,.mv (.t 4)⟩,⟨some 50,none,.nck (.t 49)⟩,⟨some 51,none,.faddr 1 (.t 50)⟩,⟨some 52,none,.load none (.t 51)⟩,⟨some 53,none,.six (.t 48) (.t 52)⟩,⟨some 10,none,.mv (.t 53)⟩]).seq (ICode.block 0 ((ICode.region [⟨some 57,none,.mv (.t 10)⟩,⟨some 58,none,.call 24 [.t 57]⟩,⟨some 59,none,.mv (.t 58)⟩,⟨some 60,some (59,false),.mv (.t 10)⟩,⟨some 61,some (59,false),.call 25 [.t 60]⟩,⟨some 62,none,.pick (.t 59) (.k (.c (.bool true))) (.t 61)⟩,⟨some 56,none,.mv (.t 62)⟩]).seq (ICode.cond (.t 56) ((ICode.keep [0,3,4,5,6,8,9]).seq (ICode.region [⟨some 64,none,.mv (.t 4)⟩,⟨some 65,none,.call 26 [.t 64]⟩,⟨some 63,none,.mv (.t 65)⟩,⟨some 66,none,.ext (.t 63) 0⟩,⟨some 67,none,.ext (.t 63) 1⟩,⟨none,none,.store (some 7) (.t 6) (.t 66)⟩,⟨some 7,none,.mv (.t 67)⟩])) ((ICode.keep [0,3,4,5,6,8,9,10]).seq ((ICode.region [⟨some 69,none,.mv (.t 10)⟩,⟨some 70,none,.call 27 [.t 69]⟩,⟨some 68,none,.mv (.t 70)⟩]).seq (ICode.cond (.t 68) ((ICode.keep [0,3,4,5,6,8,9]).seq (ICode.region [⟨some 72,none,.mv (.t 4)⟩,⟨some 73,none,.call 28 [.t 72]⟩,⟨some 71,none,.mv (.t 73)⟩,⟨some 74,none,.ext (.t 71) 0⟩,⟨some 75,none,.ext (.t 71) 1⟩,⟨none,none,.store (some 7) (.t 6) (.t 74)⟩,⟨some 7,none,.mv (.t 75)⟩])) ((ICode.keep [0,3,4,5,6,8,9,10]).seq ((ICode.region [⟨some 77,none,.mv (.t 10)⟩,⟨some 78,none,.bin .eql (.t 77) (.k (.c (.int .u8 39)))⟩,⟨some 79,none,.mv (.t 78)⟩,⟨some 80,some (79,false),.mv (.t 10)⟩,⟨some 81,some (79,false),.bin .eql (.t 80) (.k (.c (.int .u8 34)))⟩,⟨some 82,none,.pick (.t 79) (.k (.c (.bool true))) (.t 81)⟩,⟨some 76,none,.mv (.t 82)⟩]).seq (ICode.cond (.t 76) ((ICode.keep [0,3,4,5,6,8,9]).seq (ICode.region [⟨some 84,none,.mv (.t 4)⟩,⟨some 85,none,.call 29 [.t 84]⟩,⟨some 83,none,.mv (.t 85)⟩,⟨some 86,none,.ext (.t 83) 0⟩,⟨some 87,none,.ext (.t 83) 1⟩,⟨none,none,.store (some 7) (.t 6) (.t 86)⟩,⟨some 7,none,.mv (.t 87)⟩])) ((ICode.keep [0,3,4,5,6,8,9,10]).seq ((ICode.region [⟨some 89,none,.mv (.t 10)⟩,⟨some 90,none,.call 30 [.t 89]⟩,⟨some 88,none,.mv (.t 90)⟩]).seq (ICode.cond (.t 88) ((ICode.keep [0,3,4,5,6,8,9]).seq ((ICode.region [⟨some 91,none,.mv (.t 4)⟩,⟨some 92,none,.mv (.t 4)⟩,⟨some 93,none,.nck (.t 92)⟩,⟨some 94,none,.faddr 1 (.t 93)⟩,⟨some 95,none,.load none (.t 94)⟩,⟨some 96,none,.call 31 [.t 91,.t 95,.k (.c (.fn 30 [] []))]⟩,⟨some 11,none,.mv (.t 96)⟩]).seq ((ICode.region [⟨some 97,none,.mv (.t 4)⟩,⟨some 98,none,.mv (.t 11)⟩,⟨some 99,none,.call 32 [.t 97,.t 98]⟩,⟨some 7,none,.mv (.t 99)⟩]).seq ((ICode.region [⟨some 100,none,.mv (.t 7)⟩]).seq (ICode.cond (.t 100) ((ICode.keep [0,3,4,5,6,7,8,9,11]).seq ((ICode.region [⟨some 101,none,.mv (.t 11)⟩,⟨some 102,none,.call 33 [.t 101]⟩,⟨none,none,.store (some 7) (.t 6) (.t 102)⟩]).seq (ICode.region [⟨some 103,none,.mv (.t 4)⟩,⟨some 104,none,.mv (.t 11)⟩,⟨some 105,none,.len true (.t 104)⟩,⟨some 106,none,.call 34 [.t 103,.t 105]⟩]))) ((ICode.keep [0,3,4,5,6,7,8,9]).seq ICode.skip)))))) ((ICode.keep [0,3,4,5,6,8,9,10]).seq ((ICode.region [⟨some 108,none,.mv (.t 10)⟩,⟨some 109,none,.call 35 [.k (.c (.str [40,41,91,93,123,125,44,59,96])),.t 108]⟩,⟨some 110,none,.bin .geq (.t 109) (.k (.c (.int .i64 0)))⟩,⟨some 107,none,.mv (.t 110)⟩]).seq (ICode.cond (.t 107) ((ICode.keep [0,3,4,5,6,8,9]).seq ((ICode.regionD [(.pure,⟨some 111,none,.mv (.t 0)⟩),(.pure,⟨some 112,none,.mv (.t 4)⟩),(.pure,⟨some 113,none,.nck (.t 112)⟩),(.pure,⟨some 114,none,.faddr 1 (.t 113)⟩),(.rd,⟨some 115,none,.load none (.t 114)⟩),(.pure,⟨some 116,none,.mv (.t 4)⟩),(.pure,⟨some 117,none,.nck (.t 116)⟩),(.pure,⟨some 118,none,.faddr 1 (.t 117)⟩),(.rd,⟨some 119,none,.load none (.t 118)⟩),(.pure,⟨some 120,none,.bin .add (.t 119) (.k (.c (.int .i64 1)))⟩),(.rd,⟨some 121,none,.slc true none (.t 111) (some (.t 115)) (some (.t 120))⟩),(.pure,⟨some 122,none,.build [.c (.int .i64 0),.c (.str []),.c (.str []),.c (.int .i64 0),.c (.bool false),.c (.int .i64 0),.c (.int .i64 0)] [(0,1,.k (.c (.int .i64 8))),(2,1,.t 121)]⟩),(.wrb,⟨none,none,.store (some 7) (.t 6) (.t 122)⟩),(.pure,⟨some 7,none,.mv (.k (.c (.bool true)))⟩)]).seq (ICode.region [⟨some 123,none,.mv (.t 4)⟩,⟨some 124,none,.call 34 [.t 123,.k (.c (.int .i64 1))]⟩]))) ((ICode.keep [0,3,4,5,6,8,9]).seq (ICode.region [⟨some 54,none,.mv (.t 4)⟩,⟨some 55,none,.call 36 [.t 54,.k (.c (.int .i64 5)),.k (.c (.str []))]⟩,⟨some 7,none,.mv (.t 55)⟩])))))))))))))))))
def lexP5:ICode:=(ICode.region [⟨some 125,none,.mv (.t 7)⟩,⟨some 126,none,.un .not (.t 125)⟩]).seq (ICode.cond (.t 126) ((ICode.keep [3,4]).seq ((ICode.regionD [(.pure,⟨some 127,none,.mv (.t 4)⟩),(.pure,⟨some 128,none,.nck (.t 127)⟩),(.pure,⟨some 129,none,.faddr 4 (.t 128)⟩),(.rd,⟨some 130,none,.load (some 4) (.t 129)⟩),(.pure,⟨some 2,none,.mv (.k .nils)⟩),(.wrb,⟨none,none,.store (some 4) (.t 3) (.t 130)⟩)]).seq ICode.ret)) ((ICode.keep [0,3,4,5,6,8,9]).seq ICode.skip))
def lexP6:ICode:=(ICode.region [⟨some 131,none,.mv (.t 5)⟩,⟨some 132,none,.len false (.t 131)⟩,⟨some 133,none,.bin .geq (.t 132) (.k (.c (.int .i64 16384)))⟩]).seq (ICode.cond (.t 133) ((ICode.keep [3,8,9]).seq ((ICode.region [⟨some 134,none,.mv (.t 8)⟩,⟨some 135,none,.mv (.t 9)⟩,⟨some 136,none,.build [.c (.int .i64 0),.c (.str []),.c (.int .i64 0),.c (.int .i64 0)] [(0,1,.k (.c (.int .i64 3))),(2,1,.t 134),(3,1,.t 135)]⟩,⟨some 2,none,.mv (.k .nils)⟩,⟨none,none,.store (some 4) (.t 3) (.t 136)⟩]).seq ICode.ret)) ((ICode.keep [0,3,4,5,6,8,9]).seq ICode.skip))
def lexP7:ICode:=ICode.region [⟨some 137,none,.mv (.t 8)⟩,⟨some 138,none,.mv (.t 9)⟩,⟨some 139,none,.faddr 5 (.t 6)⟩,⟨none,none,.store none (.t 139) (.t 137)⟩,⟨some 140,none,.faddr 6 (.t 6)⟩,⟨none,none,.store none (.t 140) (.t 138)⟩]
def lexP8:ICode:=ICode.region [⟨some 141,none,.mv (.t 5)⟩,⟨some 142,none,.load (some 7) (.t 6)⟩,⟨some 143,none,.bsl true 38 (some 7) [.int .i64 0,.str [],.str [],.int .i64 0,.bool false,.int .i64 0,.int .i64 0] 1 [(0,.t 142)]⟩,⟨some 144,none,.app 38 (some 7) 72 (.t 141) (.t 143)⟩,⟨some 5,none,.mv (.t 144)⟩]
def lexT:ICode:=lexP6.seq (lexP7.seq (lexP8.seq (ICode.goto 0)))
def zF:CV:=.agg [.int .i64 0,.str [],.int .i64 0,.int .i64 0]
def fltC (code:Int) (nm:List UInt8) (line col:Int):CV:=.agg [.int .i64 code,.str nm,.int .i64 line,.int .i64 col]
def tksW:List Tok→WV
 | []=>.nils
 | t::r=>.own true 38 (some 7) ((t::r).map tokC)
def lexK (s:List UInt8) (id:Nat) (acc:List Tok) (t:CV):List (Nat×WV):=[(0,.c (.str s)),(3,.lbox (some 4) (.c zF)),(4,.ptr id 0),(5,tksW acc),(6,.lbox (some 7) (.c t))]
theorem wb1 (a t:Tok) (r:List Tok):tksW (a::r++[t])=.own true 38 (some 7) ((a::r).map tokC++[tokC t]):=by simp [tksW]
theorem jy2 {H:z18} {s:List UInt8} {id:Nat} {t:Tok} {line col:Int} {N:Post} {B:Hs} {R:RP} (hlen:([]:List Tok).length≤16384)
 (hgo:([]:List Tok).length+1≤16384→∀ fr,KpL [0,3,4,5,6] fr [0,3,4,5,6] (lexK s id (([]:List Tok)++[⟨t.op,t.qual,t.text,t.n,t.auto,line,col⟩]) (tokC ⟨t.op,t.qual,t.text,t.n,t.auto,line,col⟩))→R.go 0 fr H)
 (hbad:16384≤([]:List Tok).length→∀ fr:WFr,fr.env 2=.nils→fr.env 3=.lbox (some 4) (.c (fltC 3 [] line col))→R.ret fr H) :
 WP Vv lexT (FL [(0,.c (.str s)),(3,.lbox (some 4) (.c zF)),(4,.ptr id 0),(5,tksW ([]:List Tok)),(6,.lbox (some 7) (.c (tokC t))),(8,.c (.int .i64 line)),(9,.c (.int .i64 col))] []) H N B R:=by
 unfold lexT lexP6 lexP7 lexP8
 repeat' first
  | apply z01
  | exact z13
  | exact z19 rfl
  | exact zd8 rfl rfl
  | (apply z15;rfl;rfl)
  | (apply z45;(iterate 3 rfl))
  | (apply z30;(iterate 3 rfl))
  | (apply zf6;rfl)
  | (apply z78;(iterate 3 rfl))
  | (apply q04;(iterate 6 rfl))
  | (apply z66;rfl;rfl)
  | (apply zk9;(iterate 3 rfl))
  | (apply z49;rfl;exact zd0 rfl)
  | (apply z28;(iterate 4 rfl);exact z34 (by first | exact rfl | assumption | exact z06 (by assumption)))
  | (apply zs1;(iterate 8 rfl);exact qe2 (by first | exact rfl | assumption | exact z06 (by assumption)))
  | (apply zy0;rfl;rfl;(omega))
  | (apply z04;focus (repeat (first | exact z23 | (apply kq_c;rfl) | (apply zc5;rfl) | (apply z50;rfl) | (apply z38;rfl))))
  | apply z02
  | apply z00
  | apply z03
  | apply z07
  | apply z09
  | (apply z12;rfl)
  | (with_reducible apply z69;intro hc)
  | (with_reducible apply z52;intro hc)
 try any_goals (exfalso;omega)
 · refine q32 (hgo (by simp) _ ?_)
   unfold lexK
   repeat' first
    | exact z23
    | refine z64 rfl ?_
theorem jy8 {H:z18} {s:List UInt8} {id:Nat} {a:Tok} {r:List Tok} {t:Tok} {line col:Int} {N:Post} {B:Hs} {R:RP} (hlen:(a::r).length≤16384)
 (hgo:(a::r).length+1≤16384→∀ fr,KpL [0,3,4,5,6] fr [0,3,4,5,6] (lexK s id ((a::r)++[⟨t.op,t.qual,t.text,t.n,t.auto,line,col⟩]) (tokC ⟨t.op,t.qual,t.text,t.n,t.auto,line,col⟩))→R.go 0 fr H)
 (hbad:16384≤(a::r).length→∀ fr:WFr,fr.env 2=.nils→fr.env 3=.lbox (some 4) (.c (fltC 3 [] line col))→R.ret fr H) :
 WP Vv lexT (FL [(0,.c (.str s)),(3,.lbox (some 4) (.c zF)),(4,.ptr id 0),(5,tksW (a::r)),(6,.lbox (some 7) (.c (tokC t))),(8,.c (.int .i64 line)),(9,.c (.int .i64 col))] []) H N B R:=by
 unfold lexT lexP6 lexP7 lexP8
 have ht2:r.length+1≤16384:=hlen
 repeat' first
  | apply z01
  | exact z13
  | exact z19 rfl
  | exact zd8 rfl rfl
  | (apply z15;rfl;rfl)
  | (apply z45;(iterate 3 rfl))
  | (apply z30;(iterate 3 rfl))
  | (apply zd5;rfl)
  | (apply z78;(iterate 3 rfl))
  | (apply q04;(iterate 6 rfl))
  | (apply z66;rfl;rfl)
  | (apply zk9;(iterate 3 rfl))
  | (apply zb9;(iterate 3 rfl))
  | (apply z49;rfl;exact zd0 rfl)
  | (apply z28;(iterate 4 rfl);exact z34 (by first | exact rfl | assumption | exact z06 (by assumption)))
  | (apply zs1;(iterate 8 rfl);exact qe2 (by first | exact rfl | assumption | exact z06 (by assumption)))
  | (apply qj8;rfl;rfl;(simp only [List.length_map,List.length_cons,List.length_nil,List.length_append,List.length_replicate];omega))
  | (apply z04;focus (repeat (first | exact z23 | (apply kq_c;rfl) | (apply ze1;rfl;rfl) | (apply z50;rfl) | (apply z38;rfl))))
  | apply z02
  | apply z00
  | apply z03
  | apply z07
  | apply z09
  | (apply z12;rfl)
  | (with_reducible apply z69;intro hc)
  | (with_reducible apply z52;intro hc)
 try any_goals (exfalso;omega)
 · exact hbad (by omega) _ rfl rfl
 · refine q32 (hgo (by omega) _ ?_)
   unfold lexK
   rw [wb1]
   repeat' first
    | exact z23
    | refine z64 rfl ?_
end Go.Proofs.TryzL
namespace Go.Proofs.TryzL
open Go.Proofs.Lz
set_option maxHeartbeats 4000000
def z74 (s:List UInt8) (i:Nat) (c:UInt8):U:=
 if (upperB c||lowerB c)=true then zu2 s i
 else if z93 c=true then numU s i
 else if c=39∨c=34 then litU s i c
 else if symB c=true then zm1 i [] (z87 symB s i) (i+(z87 symB s i).length)
 else if spS.contains c=true then .tok 8 [] [c] 0 (i+1)
 else .bad 5 i []
def zi9:ICode:=lexP3.seq (lexP4.seq (lexP5.seq lexT))
theorem zy4 {H:z18} {id f e:Nat} {s q t:List UInt8} {op n:Int} (h:Shr Vv f [.ptr id 0] H (resU (.tok op q t n e)) (j07 id H s (.tok op q t n e))):Shr Vv f [.ptr id 0] H (.tup [.c (tokC ⟨op,q,t,n,false,0,0⟩),.c (.bool true)]) (fun H'=>ScH id (scAt s e) H'∧KpH id H H'):=by
 obtain ⟨H',a,⟨y,hy,hf⟩,hk⟩:=h.run
 have hf:y=scAt s e:=hf
 subst hf
 exact ⟨H',a,hy,hk⟩
theorem zx9 {H:z18} {id f code p:Nat} {s nm:List UInt8} (h:Shr Vv f [.ptr id 0] H (resU (.bad code p nm)) (j07 id H s (.bad code p nm))):∃ y,zf1 s code p nm y∧Shr Vv f [.ptr id 0] H (.tup [.c q14,.c (.bool false)]) (fun H'=>ScH id y H'∧KpH id H H'):=by
 obtain ⟨H',a,⟨y,hy,hf⟩,hk⟩:=h.run
 exact ⟨y,hf,H',a,hy,hk⟩
theorem zr1 {H:z18} {id f e:Nat} {s:List UInt8} (h:Shr Vv f [.ptr id 0] H (resU (.skip e)) (j07 id H s (.skip e))):False:=by
 obtain ⟨H',a,⟨y,hy,hf⟩,hk⟩:=h.run
 exact hf
theorem qj1 {s nm:List UInt8} {code p:Nat} {y:Sc} (h:zf1 s code p nm y):CV.agg [.int .i64 y.code,.str y.name,.int .i64 y.fl,.int .i64 y.fc]=fltC code nm (plc s p).1 (plc s p).2:=by
 obtain ⟨h1,h2,h3,h4⟩:=h
 unfold fltC
 rw [h1,h2,h3,h4]
theorem jg8 {H:z18} {s:List UInt8} {id i:Nat} {c:UInt8} {t6:CV} {N:Post} {B:Hs} {R:RP} (hH:ScH id (scAt s i) H) (hc:s[i]?=some c) (hl:s.length<2^30) (hlen:([]:List Tok).length≤16384)
 (hgo:∀ op q t n e H',z74 s i c=.tok op q t n e→([]:List Tok).length+1≤16384→ScH id (scAt s e) H'→∀ fr,KpL [0,3,4,5,6] fr [0,3,4,5,6] (lexK s id (([]:List Tok)++[⟨op,q,t,n,false,(plc s i).1,(plc s i).2⟩]) (tokC ⟨op,q,t,n,false,(plc s i).1,(plc s i).2⟩))→R.go 0 fr H')
 (hover:∀ op q t n e H',z74 s i c=.tok op q t n e→16384≤([]:List Tok).length→∀ fr:WFr,fr.env 2=.nils→fr.env 3=.lbox (some 4) (.c (fltC 3 [] (plc s i).1 (plc s i).2))→R.ret fr H')
 (hbad:∀ code p nm H',z74 s i c=.bad code p nm→∀ fr:WFr,fr.env 2=.nils→fr.env 3=.lbox (some 4) (.c (fltC code nm (plc s p).1 (plc s p).2))→R.ret fr H')
 (hcl:(upperB c||lowerB c)=true) :
 WP Vv zi9 (FL (lexK s id ([]:List Tok) t6) []) H N B R:=by
 have hH0:H[id]?=some (.var (some 8) (scC (scAt s i))):=hH
 have h0:s[(scAt s i).pos]?=some c:=hc
 have hlt:i<s.length:=(List.getElem?_eq_some_iff.1 hc).1
 have h24:=zf0 c
 have h25:=zj1 c
 have h27:=zh5 c
 unfold zi9 lexP3 lexP4 lexP5 lexK
 generalize hT:lexT=T
 have eu:z74 s i c=zu2 s i:=by unfold z74;rw [if_pos hcl]
 have hcall:=name26 (x:=scAt s i) rfl hH hc hcl hl
 cases hu:zu2 s i with
 | skip e=>have h:=hcall;rw [show zu2 (scAt s i).src (scAt s i).pos=.skip e from hu] at h;exact (zr1 h).elim
 | bad code p nm=>
   rw [show zu2 (scAt s i).src (scAt s i).pos=.bad code p nm from hu] at hcall
   obtain ⟨y,hy,hcall⟩:=zx9 hcall
   have hb:=hbad code p nm
   rw [eu,hu] at hb
   repeat' first
    | apply z01
    | exact z13
    | exact z19 rfl
    | (apply z15;rfl;rfl)
    | (apply z84;rfl;rfl)
    | (apply z17;rfl;(with_reducible rfl);rfl)
    | (apply z16;rfl;(with_reducible rfl);rfl)
    | (apply z68;(iterate 3 rfl);assumption)
    | (apply z66;rfl;rfl)
    | (apply z63;(iterate 3 rfl))
    | (apply z24;rfl;rfl)
    | (apply z14;rfl;rfl)
    | (apply z29;rfl;rfl)
    | (apply z28;(iterate 4 rfl);exact z34 (by first | exact rfl | assumption | exact z06 (by assumption)))
    | (apply za4;rfl;rfl)
    | (apply z22;rfl;rfl;(assumption);rfl)
    | (apply z08 (hc:=h24);rfl;rfl;rfl)
    | (apply z08 (hc:=h25);rfl;rfl;rfl)
    | (apply z27 (hc:=⟨hcall.run⟩);rfl;rfl;(exact rfl);rfl;(exact z19 rfl);rintro H1 ⟨r1,k1⟩)
    | (apply z04;focus (repeat (first | exact z23 | (apply kq_c;rfl) | (apply zc5;rfl) | (apply z50;rfl) | (apply z38;rfl))))
    | apply z02
    | apply z00
    | apply z03
    | apply z05
    | apply z09
    | apply z25
    | apply z54
    | (apply z35;rfl;(with_reducible rfl))
    | (apply z12;rfl)
    | (apply z47;rfl;(with_reducible rfl))
    | (apply z41;rfl;(with_reducible rfl))
    | (apply z39;rfl)
    | (apply z62;(exact rfl))
    | with_reducible exact ze7
    | with_reducible apply ze2
    | with_reducible apply z57
    | with_reducible apply z58
    | (with_reducible apply zh6;intro hc)
    | (apply z48;rfl)
    | (apply z55;rfl)
    | (apply zd7;rfl)
    | (apply dand;rfl)
   try any_goals (exfalso;simp_all;done)
   all_goals exact hb _ rfl _ rfl (congrArg (fun u=>WV.lbox (some 4) (.c u)) (qj1 hy))
 | tok op q t n e=>
   rw [show zu2 (scAt s i).src (scAt s i).pos=.tok op q t n e from hu] at hcall
   have hcall:=zy4 hcall
   have hg:=hgo op q t n e
   have ho:=hover op q t n e
   rw [eu,hu] at hg ho
   repeat' first
    | apply z01
    | exact z13
    | exact z19 rfl
    | (apply z15;rfl;rfl)
    | (apply z84;rfl;rfl)
    | (apply z17;rfl;(with_reducible rfl);rfl)
    | (apply z16;rfl;(with_reducible rfl);rfl)
    | (apply z68;(iterate 3 rfl);assumption)
    | (apply z63;(iterate 3 rfl))
    | (apply z24;rfl;rfl)
    | (apply z14;rfl;rfl)
    | (apply z29;rfl;rfl)
    | (apply z28;(iterate 4 rfl);exact z34 (by first | exact rfl | assumption | exact z06 (by assumption)))
    | (apply za4;rfl;rfl)
    | (apply z22;rfl;rfl;(assumption);rfl)
    | (apply z08 (hc:=h24);rfl;rfl;rfl)
    | (apply z08 (hc:=h25);rfl;rfl;rfl)
    | (apply z27 (hc:=⟨hcall.run⟩);rfl;rfl;(exact rfl);rfl;(exact z19 rfl);rintro H1 ⟨r1,k1⟩)
    | (apply z04;focus (repeat (first | exact z23 | (apply kq_c;rfl) | (apply zc5;rfl) | (apply z50;rfl) | (apply z38;rfl))))
    | apply z02
    | apply z00
    | apply z03
    | apply z05
    | apply z07
    | apply z25
    | apply z54
    | (apply z35;rfl;(with_reducible rfl))
    | (apply z12;rfl)
    | (apply z47;rfl;(with_reducible rfl))
    | (apply z41;rfl;(with_reducible rfl))
    | (apply z39;rfl)
    | (apply z62;(exact rfl))
    | with_reducible exact zb5
    | with_reducible apply zb4
    | with_reducible apply z57
    | with_reducible apply z58
    | (with_reducible apply zh6;intro hc)
    | (apply z48;rfl)
    | (apply z55;rfl)
    | (apply dand;rfl)
   try any_goals (exfalso;simp_all;done)
   all_goals exact hT▸jy2 (t:=⟨op,q,t,n,false,0,0⟩) hlen (fun h fr hk=>hg _ rfl h r1 fr hk) (fun h fr h1 h2=>ho _ rfl h fr h1 h2)
theorem jr4 {H:z18} {s:List UInt8} {id i:Nat} {c:UInt8} {t6:CV} {N:Post} {B:Hs} {R:RP} (hH:ScH id (scAt s i) H) (hc:s[i]?=some c) (hl:s.length<2^30) (hlen:([]:List Tok).length≤16384)
 (hgo:∀ op q t n e H',z74 s i c=.tok op q t n e→([]:List Tok).length+1≤16384→ScH id (scAt s e) H'→∀ fr,KpL [0,3,4,5,6] fr [0,3,4,5,6] (lexK s id (([]:List Tok)++[⟨op,q,t,n,false,(plc s i).1,(plc s i).2⟩]) (tokC ⟨op,q,t,n,false,(plc s i).1,(plc s i).2⟩))→R.go 0 fr H')
 (hover:∀ op q t n e H',z74 s i c=.tok op q t n e→16384≤([]:List Tok).length→∀ fr:WFr,fr.env 2=.nils→fr.env 3=.lbox (some 4) (.c (fltC 3 [] (plc s i).1 (plc s i).2))→R.ret fr H')
 (hbad:∀ code p nm H',z74 s i c=.bad code p nm→∀ fr:WFr,fr.env 2=.nils→fr.env 3=.lbox (some 4) (.c (fltC code nm (plc s p).1 (plc s p).2))→R.ret fr H')
 (hcl:¬ (upperB c||lowerB c)=true) (hd:z93 c=true) :
 WP Vv zi9 (FL (lexK s id ([]:List Tok) t6) []) H N B R:=by
 have hH0:H[id]?=some (.var (some 8) (scC (scAt s i))):=hH
 have h0:s[(scAt s i).pos]?=some c:=hc
 have hlt:i<s.length:=(List.getElem?_eq_some_iff.1 hc).1
 have h24:=zf0 c
 have h25:=zj1 c
 have h27:=zh5 c
 unfold zi9 lexP3 lexP4 lexP5 lexK
 generalize hT:lexT=T
 have eu:z74 s i c=numU s i:=by unfold z74;rw [if_neg hcl,if_pos hd]
 have hcall:=jc1 (x:=scAt s i) rfl hH (by show i≤s.length;omega) hl
 have hup:upperB c=false:=Bool.eq_false_iff.2 (fun h=>hcl (by rw [h];rfl))
 have hlo:lowerB c=false:=Bool.eq_false_iff.2 (fun h=>hcl (by rw [h];exact Bool.or_true _))
 rw [hup] at h24
 rw [hlo] at h25
 rw [hd] at h27
 cases hu:numU s i with
 | skip e=>have h:=hcall;rw [show numU (scAt s i).src (scAt s i).pos=.skip e from hu] at h;exact (zr1 h).elim
 | bad code p nm=>
   rw [show numU (scAt s i).src (scAt s i).pos=.bad code p nm from hu] at hcall
   obtain ⟨y,hy,hcall⟩:=zx9 hcall
   have hb:=hbad code p nm
   rw [eu,hu] at hb
   repeat' first
    | apply z01
    | exact z13
    | exact z19 rfl
    | (apply z15;rfl;rfl)
    | (apply z84;rfl;rfl)
    | (apply z16;rfl;(with_reducible rfl);rfl)
    | (apply z68;(iterate 3 rfl);assumption)
    | (apply z66;rfl;rfl)
    | (apply z63;(iterate 3 rfl))
    | (apply z24;rfl;rfl)
    | (apply z14;rfl;rfl)
    | (apply z29;rfl;rfl)
    | (apply z28;(iterate 4 rfl);exact z34 (by first | exact rfl | assumption | exact z06 (by assumption)))
    | (apply za4;rfl;rfl)
    | (apply z22;rfl;rfl;(assumption);rfl)
    | (apply z08 (hc:=h24);rfl;rfl;rfl)
    | (apply z08 (hc:=h25);rfl;rfl;rfl)
    | (apply z08 (hc:=h27);rfl;rfl;rfl)
    | (apply z27 (hc:=⟨hcall.run⟩);rfl;rfl;(exact rfl);rfl;(exact z19 rfl);rintro H1 ⟨r1,k1⟩)
    | (apply z04;focus (repeat (first | exact z23 | (apply kq_c;rfl) | (apply zc5;rfl) | (apply z50;rfl) | (apply z38;rfl))))
    | apply z02
    | apply z00
    | apply z03
    | apply z05
    | apply z09
    | apply z25
    | apply z54
    | (apply z35;rfl;(with_reducible rfl))
    | (apply z32;rfl;(with_reducible rfl))
    | (apply z12;rfl)
    | (apply z47;rfl;(with_reducible rfl))
    | (apply z62;(exact rfl))
    | with_reducible exact ze7
    | with_reducible apply ze2
    | with_reducible apply z57
    | with_reducible apply z58
    | (apply z48;rfl)
    | (apply z55;rfl)
    | (apply zd7;rfl)
    | (apply dand;rfl)
   try any_goals (exfalso;simp_all;done)
   all_goals exact hb _ rfl _ rfl (congrArg (fun u=>WV.lbox (some 4) (.c u)) (qj1 hy))
 | tok op q t n e=>
   rw [show numU (scAt s i).src (scAt s i).pos=.tok op q t n e from hu] at hcall
   have hcall:=zy4 hcall
   have hg:=hgo op q t n e
   have ho:=hover op q t n e
   rw [eu,hu] at hg ho
   repeat' first
    | apply z01
    | exact z13
    | exact z19 rfl
    | (apply z15;rfl;rfl)
    | (apply z84;rfl;rfl)
    | (apply z16;rfl;(with_reducible rfl);rfl)
    | (apply z68;(iterate 3 rfl);assumption)
    | (apply z63;(iterate 3 rfl))
    | (apply z24;rfl;rfl)
    | (apply z14;rfl;rfl)
    | (apply z29;rfl;rfl)
    | (apply z28;(iterate 4 rfl);exact z34 (by first | exact rfl | assumption | exact z06 (by assumption)))
    | (apply za4;rfl;rfl)
    | (apply z22;rfl;rfl;(assumption);rfl)
    | (apply z08 (hc:=h24);rfl;rfl;rfl)
    | (apply z08 (hc:=h25);rfl;rfl;rfl)
    | (apply z08 (hc:=h27);rfl;rfl;rfl)
    | (apply z27 (hc:=⟨hcall.run⟩);rfl;rfl;(exact rfl);rfl;(exact z19 rfl);rintro H1 ⟨r1,k1⟩)
    | (apply z04;focus (repeat (first | exact z23 | (apply kq_c;rfl) | (apply zc5;rfl) | (apply z50;rfl) | (apply z38;rfl))))
    | apply z02
    | apply z00
    | apply z03
    | apply z05
    | apply z07
    | apply z25
    | apply z54
    | (apply z35;rfl;(with_reducible rfl))
    | (apply z32;rfl;(with_reducible rfl))
    | (apply z12;rfl)
    | (apply z47;rfl;(with_reducible rfl))
    | (apply z62;(exact rfl))
    | with_reducible exact zb5
    | with_reducible apply zb4
    | with_reducible apply z57
    | with_reducible apply z58
    | (apply z48;rfl)
    | (apply z55;rfl)
    | (apply dand;rfl)
   try any_goals (exfalso;simp_all;done)
   all_goals exact hT▸jy2 (t:=⟨op,q,t,n,false,0,0⟩) hlen (fun h fr hk=>hg _ rfl h r1 fr hk) (fun h fr h1 h2=>ho _ rfl h fr h1 h2)
theorem jj7 {H:z18} {s:List UInt8} {id i:Nat} {c:UInt8} {a:Tok} {r:List Tok} {t6:CV} {N:Post} {B:Hs} {R:RP} (hH:ScH id (scAt s i) H) (hc:s[i]?=some c) (hl:s.length<2^30) (hlen:(a::r).length≤16384)
 (hgo:∀ op q t n e H',z74 s i c=.tok op q t n e→(a::r).length+1≤16384→ScH id (scAt s e) H'→∀ fr,KpL [0,3,4,5,6] fr [0,3,4,5,6] (lexK s id ((a::r)++[⟨op,q,t,n,false,(plc s i).1,(plc s i).2⟩]) (tokC ⟨op,q,t,n,false,(plc s i).1,(plc s i).2⟩))→R.go 0 fr H')
 (hover:∀ op q t n e H',z74 s i c=.tok op q t n e→16384≤(a::r).length→∀ fr:WFr,fr.env 2=.nils→fr.env 3=.lbox (some 4) (.c (fltC 3 [] (plc s i).1 (plc s i).2))→R.ret fr H')
 (hbad:∀ code p nm H',z74 s i c=.bad code p nm→∀ fr:WFr,fr.env 2=.nils→fr.env 3=.lbox (some 4) (.c (fltC code nm (plc s p).1 (plc s p).2))→R.ret fr H')
 (hcl:(upperB c||lowerB c)=true) :
 WP Vv zi9 (FL (lexK s id (a::r) t6) []) H N B R:=by
 have hH0:H[id]?=some (.var (some 8) (scC (scAt s i))):=hH
 have h0:s[(scAt s i).pos]?=some c:=hc
 have hlt:i<s.length:=(List.getElem?_eq_some_iff.1 hc).1
 have h24:=zf0 c
 have h25:=zj1 c
 have h27:=zh5 c
 unfold zi9 lexP3 lexP4 lexP5 lexK
 generalize hT:lexT=T
 have eu:z74 s i c=zu2 s i:=by unfold z74;rw [if_pos hcl]
 have hcall:=name26 (x:=scAt s i) rfl hH hc hcl hl
 cases hu:zu2 s i with
 | skip e=>have h:=hcall;rw [show zu2 (scAt s i).src (scAt s i).pos=.skip e from hu] at h;exact (zr1 h).elim
 | bad code p nm=>
   rw [show zu2 (scAt s i).src (scAt s i).pos=.bad code p nm from hu] at hcall
   obtain ⟨y,hy,hcall⟩:=zx9 hcall
   have hb:=hbad code p nm
   rw [eu,hu] at hb
   repeat' first
    | apply z01
    | exact z13
    | exact z19 rfl
    | (apply z15;rfl;rfl)
    | (apply z84;rfl;rfl)
    | (apply z17;rfl;(with_reducible rfl);rfl)
    | (apply z16;rfl;(with_reducible rfl);rfl)
    | (apply z68;(iterate 3 rfl);assumption)
    | (apply z66;rfl;rfl)
    | (apply z63;(iterate 3 rfl))
    | (apply z24;rfl;rfl)
    | (apply z14;rfl;rfl)
    | (apply z29;rfl;rfl)
    | (apply z28;(iterate 4 rfl);exact z34 (by first | exact rfl | assumption | exact z06 (by assumption)))
    | (apply za4;rfl;rfl)
    | (apply z22;rfl;rfl;(assumption);rfl)
    | (apply z08 (hc:=h24);rfl;rfl;rfl)
    | (apply z08 (hc:=h25);rfl;rfl;rfl)
    | (apply z27 (hc:=⟨hcall.run⟩);rfl;rfl;(exact rfl);rfl;(exact z19 rfl);rintro H1 ⟨r1,k1⟩)
    | (apply z04;focus (repeat (first | exact z23 | (apply kq_c;rfl) | (apply ze1;rfl;rfl) | (apply z50;rfl) | (apply z38;rfl))))
    | apply z02
    | apply z00
    | apply z03
    | apply z05
    | apply z09
    | apply z25
    | apply z54
    | (apply z35;rfl;(with_reducible rfl))
    | (apply z12;rfl)
    | (apply z47;rfl;(with_reducible rfl))
    | (apply z41;rfl;(with_reducible rfl))
    | (apply z39;rfl)
    | (apply z62;(exact rfl))
    | with_reducible exact ze7
    | with_reducible apply ze2
    | with_reducible apply z57
    | with_reducible apply z58
    | (with_reducible apply zh6;intro hc)
    | (apply z48;rfl)
    | (apply z55;rfl)
    | (apply zd7;rfl)
    | (apply dand;rfl)
   try any_goals (exfalso;simp_all;done)
   all_goals exact hb _ rfl _ rfl (congrArg (fun u=>WV.lbox (some 4) (.c u)) (qj1 hy))
 | tok op q t n e=>
   rw [show zu2 (scAt s i).src (scAt s i).pos=.tok op q t n e from hu] at hcall
   have hcall:=zy4 hcall
   have hg:=hgo op q t n e
   have ho:=hover op q t n e
   rw [eu,hu] at hg ho
   repeat' first
    | apply z01
    | exact z13
    | exact z19 rfl
    | (apply z15;rfl;rfl)
    | (apply z84;rfl;rfl)
    | (apply z17;rfl;(with_reducible rfl);rfl)
    | (apply z16;rfl;(with_reducible rfl);rfl)
    | (apply z68;(iterate 3 rfl);assumption)
    | (apply z63;(iterate 3 rfl))
    | (apply z24;rfl;rfl)
    | (apply z14;rfl;rfl)
    | (apply z29;rfl;rfl)
    | (apply z28;(iterate 4 rfl);exact z34 (by first | exact rfl | assumption | exact z06 (by assumption)))
    | (apply za4;rfl;rfl)
    | (apply z22;rfl;rfl;(assumption);rfl)
    | (apply z08 (hc:=h24);rfl;rfl;rfl)
    | (apply z08 (hc:=h25);rfl;rfl;rfl)
    | (apply z27 (hc:=⟨hcall.run⟩);rfl;rfl;(exact rfl);rfl;(exact z19 rfl);rintro H1 ⟨r1,k1⟩)
    | (apply z04;focus (repeat (first | exact z23 | (apply kq_c;rfl) | (apply ze1;rfl;rfl) | (apply z50;rfl) | (apply z38;rfl))))
    | apply z02
    | apply z00
    | apply z03
    | apply z05
    | apply z07
    | apply z25
    | apply z54
    | (apply z35;rfl;(with_reducible rfl))
    | (apply z12;rfl)
    | (apply z47;rfl;(with_reducible rfl))
    | (apply z41;rfl;(with_reducible rfl))
    | (apply z39;rfl)
    | (apply z62;(exact rfl))
    | with_reducible exact zb5
    | with_reducible apply zb4
    | with_reducible apply z57
    | with_reducible apply z58
    | (with_reducible apply zh6;intro hc)
    | (apply z48;rfl)
    | (apply z55;rfl)
    | (apply dand;rfl)
   try any_goals (exfalso;simp_all;done)
   all_goals exact hT▸jy8 (t:=⟨op,q,t,n,false,0,0⟩) hlen (fun h fr hk=>hg _ rfl h r1 fr hk) (fun h fr h1 h2=>ho _ rfl h fr h1 h2)
theorem jo8 {H:z18} {s:List UInt8} {id i:Nat} {c:UInt8} {a:Tok} {r:List Tok} {t6:CV} {N:Post} {B:Hs} {R:RP} (hH:ScH id (scAt s i) H) (hc:s[i]?=some c) (hl:s.length<2^30) (hlen:(a::r).length≤16384)
 (hgo:∀ op q t n e H',z74 s i c=.tok op q t n e→(a::r).length+1≤16384→ScH id (scAt s e) H'→∀ fr,KpL [0,3,4,5,6] fr [0,3,4,5,6] (lexK s id ((a::r)++[⟨op,q,t,n,false,(plc s i).1,(plc s i).2⟩]) (tokC ⟨op,q,t,n,false,(plc s i).1,(plc s i).2⟩))→R.go 0 fr H')
 (hover:∀ op q t n e H',z74 s i c=.tok op q t n e→16384≤(a::r).length→∀ fr:WFr,fr.env 2=.nils→fr.env 3=.lbox (some 4) (.c (fltC 3 [] (plc s i).1 (plc s i).2))→R.ret fr H')
 (hbad:∀ code p nm H',z74 s i c=.bad code p nm→∀ fr:WFr,fr.env 2=.nils→fr.env 3=.lbox (some 4) (.c (fltC code nm (plc s p).1 (plc s p).2))→R.ret fr H')
 (hcl:¬ (upperB c||lowerB c)=true) (hd:z93 c=true) :
 WP Vv zi9 (FL (lexK s id (a::r) t6) []) H N B R:=by
 have hH0:H[id]?=some (.var (some 8) (scC (scAt s i))):=hH
 have h0:s[(scAt s i).pos]?=some c:=hc
 have hlt:i<s.length:=(List.getElem?_eq_some_iff.1 hc).1
 have h24:=zf0 c
 have h25:=zj1 c
 have h27:=zh5 c
 unfold zi9 lexP3 lexP4 lexP5 lexK
 generalize hT:lexT=T
 have eu:z74 s i c=numU s i:=by unfold z74;rw [if_neg hcl,if_pos hd]
 have hcall:=jc1 (x:=scAt s i) rfl hH (by show i≤s.length;omega) hl
 have hup:upperB c=false:=Bool.eq_false_iff.2 (fun h=>hcl (by rw [h];rfl))
 have hlo:lowerB c=false:=Bool.eq_false_iff.2 (fun h=>hcl (by rw [h];exact Bool.or_true _))
 rw [hup] at h24
 rw [hlo] at h25
 rw [hd] at h27
 cases hu:numU s i with
 | skip e=>have h:=hcall;rw [show numU (scAt s i).src (scAt s i).pos=.skip e from hu] at h;exact (zr1 h).elim
 | bad code p nm=>
   rw [show numU (scAt s i).src (scAt s i).pos=.bad code p nm from hu] at hcall
   obtain ⟨y,hy,hcall⟩:=zx9 hcall
   have hb:=hbad code p nm
   rw [eu,hu] at hb
   repeat' first
    | apply z01
    | exact z13
    | exact z19 rfl
    | (apply z15;rfl;rfl)
    | (apply z84;rfl;rfl)
    | (apply z16;rfl;(with_reducible rfl);rfl)
    | (apply z68;(iterate 3 rfl);assumption)
    | (apply z66;rfl;rfl)
    | (apply z63;(iterate 3 rfl))
    | (apply z24;rfl;rfl)
    | (apply z14;rfl;rfl)
    | (apply z29;rfl;rfl)
    | (apply z28;(iterate 4 rfl);exact z34 (by first | exact rfl | assumption | exact z06 (by assumption)))
    | (apply za4;rfl;rfl)
    | (apply z22;rfl;rfl;(assumption);rfl)
    | (apply z08 (hc:=h24);rfl;rfl;rfl)
    | (apply z08 (hc:=h25);rfl;rfl;rfl)
    | (apply z08 (hc:=h27);rfl;rfl;rfl)
    | (apply z27 (hc:=⟨hcall.run⟩);rfl;rfl;(exact rfl);rfl;(exact z19 rfl);rintro H1 ⟨r1,k1⟩)
    | (apply z04;focus (repeat (first | exact z23 | (apply kq_c;rfl) | (apply ze1;rfl;rfl) | (apply z50;rfl) | (apply z38;rfl))))
    | apply z02
    | apply z00
    | apply z03
    | apply z05
    | apply z09
    | apply z25
    | apply z54
    | (apply z35;rfl;(with_reducible rfl))
    | (apply z32;rfl;(with_reducible rfl))
    | (apply z12;rfl)
    | (apply z47;rfl;(with_reducible rfl))
    | (apply z62;(exact rfl))
    | with_reducible exact ze7
    | with_reducible apply ze2
    | with_reducible apply z57
    | with_reducible apply z58
    | (apply z48;rfl)
    | (apply z55;rfl)
    | (apply zd7;rfl)
    | (apply dand;rfl)
   try any_goals (exfalso;simp_all;done)
   all_goals exact hb _ rfl _ rfl (congrArg (fun u=>WV.lbox (some 4) (.c u)) (qj1 hy))
 | tok op q t n e=>
   rw [show numU (scAt s i).src (scAt s i).pos=.tok op q t n e from hu] at hcall
   have hcall:=zy4 hcall
   have hg:=hgo op q t n e
   have ho:=hover op q t n e
   rw [eu,hu] at hg ho
   repeat' first
    | apply z01
    | exact z13
    | exact z19 rfl
    | (apply z15;rfl;rfl)
    | (apply z84;rfl;rfl)
    | (apply z16;rfl;(with_reducible rfl);rfl)
    | (apply z68;(iterate 3 rfl);assumption)
    | (apply z63;(iterate 3 rfl))
    | (apply z24;rfl;rfl)
    | (apply z14;rfl;rfl)
    | (apply z29;rfl;rfl)
    | (apply z28;(iterate 4 rfl);exact z34 (by first | exact rfl | assumption | exact z06 (by assumption)))
    | (apply za4;rfl;rfl)
    | (apply z22;rfl;rfl;(assumption);rfl)
    | (apply z08 (hc:=h24);rfl;rfl;rfl)
    | (apply z08 (hc:=h25);rfl;rfl;rfl)
    | (apply z08 (hc:=h27);rfl;rfl;rfl)
    | (apply z27 (hc:=⟨hcall.run⟩);rfl;rfl;(exact rfl);rfl;(exact z19 rfl);rintro H1 ⟨r1,k1⟩)
    | (apply z04;focus (repeat (first | exact z23 | (apply kq_c;rfl) | (apply ze1;rfl;rfl) | (apply z50;rfl) | (apply z38;rfl))))
    | apply z02
    | apply z00
    | apply z03
    | apply z05
    | apply z07
    | apply z25
    | apply z54
    | (apply z35;rfl;(with_reducible rfl))
    | (apply z32;rfl;(with_reducible rfl))
    | (apply z12;rfl)
    | (apply z47;rfl;(with_reducible rfl))
    | (apply z62;(exact rfl))
    | with_reducible exact zb5
    | with_reducible apply zb4
    | with_reducible apply z57
    | with_reducible apply z58
    | (apply z48;rfl)
    | (apply z55;rfl)
    | (apply dand;rfl)
   try any_goals (exfalso;simp_all;done)
   all_goals exact hT▸jy8 (t:=⟨op,q,t,n,false,0,0⟩) hlen (fun h fr hk=>hg _ rfl h r1 fr hk) (fun h fr h1 h2=>ho _ rfl h fr h1 h2)
end Go.Proofs.TryzL
