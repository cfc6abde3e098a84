/- Chapter 02: Render, plain, and the first function. -/
import Derived.Test.YtencoceemejcnaaGreatDoorLzT20
set_option linter.unusedSimpArgs false
set_option linter.unusedVariables false
namespace Go.Proofs.TryzL
open Go.Proofs.Lz
set_option maxHeartbeats 4000000
section
variable {V:WEnv} {fr fr':WFr} {H H':z18} {N:Post} {dst:Option Nat}
end
end Go.Proofs.TryzL
namespace Go.Proofs.TryzL
open Go.Proofs.Lz
set_option maxHeartbeats 4000000
theorem qx1 (s:List UInt8):∀ k,Lib.repeatL s (k+1)=Lib.repeatL s k++s
 | 0=>by simp [Lib.repeatL]
 | k+1=>by
   show s++Lib.repeatL s (k+1)=(s++Lib.repeatL s k)++s
   rw [qx1 s k,List.append_assoc]
end Go.Proofs.TryzL
namespace Go.Proofs.TryzL
open Go.Proofs.Lz
end Go.Proofs.TryzL
namespace Go.Proofs.TryzL
open Go.Proofs.Lz
set_option maxHeartbeats 4000000
end Go.Proofs.TryzL
namespace Go.Proofs.TryzL
open Go.Proofs.Lz
set_option maxHeartbeats 4000000
end Go.Proofs.TryzL
namespace Go.Proofs.TryzL
open Go.Proofs.Lz
set_option maxHeartbeats 4000000
end Go.Proofs.TryzL
namespace Go.Proofs.Lz
section
variable {V:WEnv} {fr fr':WFr} {H H':z18} {N:Post} {dst:Option Nat}
theorem qr8 {T n id:Nat} {x:Opd} {ek:Option Nat} {cs:List WV} (hx:fr.rd x=.ptr id 0) (hH:H[id]?=some (.var ek cs)) (hT:tyOf ek=some T) (hn:Nat.beq cs.length n=true) (hq:Put fr dst (.ptr id 0) fr') (h:N fr' H):OpP V (.tyck T n x) dst fr H N:=
 ⟨fr',H,by show wOp0 (.tyck T n x) dst fr H=_;simp only [wOp0,hx,hH,hT,Nat.eq_of_beq_eq_true hn,and_self,if_true,hq.eq],h⟩
theorem v06 {x y:Opd} {id:Nat} (hx:fr.rd x=.ptr id 0) (hy:fr.rd y=.ptr id 0) (hq:Put fr dst (.c (.bool true)) fr') (h:N fr' H):OpP V (.peq x y) dst fr H N:=
 ⟨fr',H,by show wOp0 (.peq x y) dst fr H=_;simp only [wOp0,hx,hy,and_self,decide_true,hq.eq],h⟩
theorem jz2 {e:Nat} {x:Opd} (hx:fr.rd x=.nils) (hq:Put fr dst (.c (.bool true)) fr') (h:N fr' H):OpP V (.rowck e x) dst fr H N:=
 ⟨fr',H,by show wOp0 (.rowck e x) dst fr H=_;simp only [wOp0,hx,hq.eq],h⟩
theorem wa0 {e:Nat} {x:Opd} {p:Pl} {xs:List CV} (hx:fr.rd x=.view p true 0 e none xs) (hc:(0<xs.length∧zv0 xs=true)) (hq:Put fr dst (.c (.bool false)) fr') (h:N fr' H):OpP V (.rowck e x) dst fr H N:=
 ⟨fr',H,by show wOp0 (.rowck e x) dst fr H=_;simp only [wOp0,hx,hc.1,hc.2,and_self,if_true,hq.eq],h⟩
theorem wt7 {l:List (Nat×WV)} {al:List (Nat×Option (Nat×Nat))} {e:Nat} {ek:Option Nat} {zero:List CV} {n:Nat} {parts:List (Nat×Opd)} {z:CV} {xs:List CV} {p:Pl} {ps:List Pl} (hz:zc0 ek zero=some z) (hf:fits ek z=true) (hr:zh0 ek (List.replicate n z) (parts.map fun p=>(p.1,(FL l al).rd p.2))=some (xs,p::ps)) (hq:Put (FL (hitM (inK (p::ps)) true l) al) dst (.c (.frz ek xs)) fr') (h:N fr' (hitH true (p::ps) H)):OpP V (.bsl true e ek zero n parts) dst (FL l al) H N:=
 ⟨fr',_,by
  show wOp0 (.bsl true e ek zero n parts) dst (FL l al) H=_
  have hh:zh3 (p::ps) true (FL l al) H=(FL (hitM (inK (p::ps)) true l) al,hitH true (p::ps) H):=by
   rw [← q22];rfl
  simp only [wOp0,hz,if_pos hf,hr,hh,if_true,hq.eq],h⟩
theorem qq7 {k:Option Nat} {a x:Opd} {id off:Nat} {cs:List WV} (hp:fr.place a=none) (ha:fr.rd a=.ptr id off) (hx:fr.rd x=.nils) (hH:H[id]?=some (.var k cs)) (hb:(decide (off+1≤cs.length))=true)
 (h:∀ H',H'[id]?=some (.var k (cs.set off .nils))→(∀ (i:Nat) (o:WO),i≠id→H[i]?=some o→H'[i]?=some o)→N fr H'):OpP V (.store none a x) none fr H N:=by
 have hb:=of_decide_eq_true hb
 refine ⟨fr,H.set id (.var k (cs.set off .nils)),?_,h _ (qc8 hH _) (fun i o hi ho=>by rw [List.getElem?_set_ne (Ne.symm hi)];exact ho)⟩
 show wOp0 (.store none a x) none fr H=_
 have ht:Lz.take .nils fr H=some (.nils,fr,H):=by simp [Lz.take,srcs,srcC,src1,zh3,zg7,z62,ze2]
 have hs:za0 cs off [.nils]=cs.set off .nils:=by
  simp only [za0,List.length_singleton]
  rw [List.set_eq_take_append_cons_drop,if_pos (by omega),List.append_assoc,List.singleton_append]
 have hf:fitsW none .nils=true:=rfl
 simp only [wOp0,hp,ha,hx,q06,if_pos hf,ht,hH]
 show (if off+1≤cs.length then some (if false=true then _ else fr,H.set id (.var k (za0 cs off [.nils]))) else none)=_
 rw [if_pos hb,hs]
 rfl
theorem qj0 {k:Option Nat} {a x:Opd} {id off j o:Nat} {cs:List WV} (hp:fr.place a=none) (ha:fr.rd a=.ptr id off) (hx:fr.rd x=.ptr j o) (hH:H[id]?=some (.var k cs)) (hb:(decide (off+1≤cs.length))=true)
 (h:∀ H',H'[id]?=some (.var k (cs.set off (.ptr j o)))→(∀ (i:Nat) (o:WO),i≠id→H[i]?=some o→H'[i]?=some o)→N fr H'):OpP V (.store none a x) none fr H N:=by
 have hb:=of_decide_eq_true hb
 refine ⟨fr,H.set id (.var k (cs.set off (.ptr j o))),?_,h _ (qc8 hH _) (fun i o hi ho=>by rw [List.getElem?_set_ne (Ne.symm hi)];exact ho)⟩
 show wOp0 (.store none a x) none fr H=_
 have ht:Lz.take (.ptr j o) fr H=some (.ptr j o,fr,H):=by simp [Lz.take,srcs,srcC,src1,zh3,zg7,z62,ze2]
 have hs:za0 cs off [.ptr j o]=cs.set off (.ptr j o):=by
  simp only [za0,List.length_singleton]
  rw [List.set_eq_take_append_cons_drop,if_pos (by omega),List.append_assoc,List.singleton_append]
 have hf:fitsW none (.ptr j o)=true:=rfl
 simp only [wOp0,hp,ha,hx,q06,if_pos hf,ht,hH]
 show (if off+1≤cs.length then some (if false=true then _ else fr,H.set id (.var k (za0 cs off [.ptr j o]))) else none)=_
 rw [if_pos hb,hs]
 rfl
theorem q76 {n a b:Nat} {u v:CV} {r:WV} {Q:z18→Prop} (h1:fr.env a=.c u) (h2:fr.env b=.c v) (hr:r=.tup [.c u,.c v]) (h:Q H):finS n [.tmp a,.tmp b] r Q fr H:=by
 subst hr
 refine ⟨[.c u,.c v],.tup [.c u,.c v],H,?_,?_,rfl,h⟩
 · simp only [zf7,h1,h2];rfl
 · rfl
theorem zu2 {n a b:Nat} {ek:Option Nat} {u v:CV} {r:WV} {Q:z18→Prop} (h1:fr.env a=.lbox ek (.c u)) (h2:fr.env b=.c v) (hr:r=.tup [.c u,.c v]) (h:Q H):finS n [.cell a ek,.tmp b] r Q fr H:=by
 subst hr
 refine ⟨[.c u,.c v],.tup [.c u,.c v],H,?_,?_,rfl,h⟩
 · simp only [zf7,h1,h2,if_true];rfl
 · rfl
end
end Go.Proofs.Lz
namespace Go.Proofs.TryzL
open Go.Proofs.Lz
def bK:Option Nat:=some 67108866
def BB (id:Nat) (l:List UInt8) (H:z18):Prop:=(l=[]∧∃ a,(a=.c .nilp∨a=.ptr id 0)∧H[id]?=some (.var bK [a,.nils]))∨(l≠[]∧H[id]?=some (.var bK [.ptr id 0,.own true 5 none (bytesV l)]))
theorem wn9 {H:z18} {id:Nat} {sl:WV} (hH:H[id]?=some (.var bK [.c .nilp,sl])):Shr Vv 78 [.ptr id 0] H (.tup []) (fun H'=>H'[id]?=some (.var bK [.ptr id 0,sl])∧KpH id H H'):=by
 refine zh9 v41 ?_
 unfold ccA ccB
 repeat' first|apply z01|exact z12|exact z19 rfl|(apply z16;rfl;rfl)|(apply qv4;rfl)|(apply z22;rfl;rfl;(assumption);rfl)|(apply qr8;rfl;assumption;rfl;rfl)|(apply qj0;(iterate 3 rfl);assumption;rfl;intro H1 hH1 kH1)|apply z02|apply z00|apply z03|(apply z13;rfl)|(with_reducible apply zi4;intro hc)
 all_goals first|exact wk9 ⟨hH1,kH1⟩|(exfalso;simp at hc;done)
theorem wr0 {H:z18} {id:Nat} {sl:WV} (hH:H[id]?=some (.var bK [.ptr id 0,sl])):Shr Vv 78 [.ptr id 0] H (.tup []) (fun H'=>H'[id]?=some (.var bK [.ptr id 0,sl])∧KpH id H H'):=by
 refine zh9 v41 ?_
 unfold ccA ccB
 repeat' first|apply z01|exact z12|exact z19 rfl|(apply z16;rfl;rfl)|(apply qv4;rfl)|(apply z86;rfl;rfl;(assumption);rfl)|(apply qr8;rfl;assumption;rfl;rfl)|(apply v06;rfl;rfl)|(apply qj0;(iterate 3 rfl);assumption;rfl;intro H1 hH1 kH1)|apply z02|apply z00|apply z03|apply z08|(apply z35;rfl;(with_reducible rfl))|(apply z13;rfl)|(with_reducible apply zi4;intro hc)
 all_goals first|exact wk9 ⟨hH,fun _ _ _ h=>h⟩|(exfalso;simp at hc;done)
theorem qt2 {H:z18} {id:Nat} {a sl:WV} (ha:a=.c .nilp∨a=.ptr id 0) (hH:H[id]?=some (.var bK [a,sl])):Shr Vv 78 [.ptr id 0] H (.tup []) (fun H'=>H'[id]?=some (.var bK [.ptr id 0,sl])∧KpH id H H'):=by
 rcases ha with rfl | rfl
 · exact wn9 hH
 · exact wr0 hH
theorem jw1 {H:z18} {id:Nat} {l:List UInt8} {c:UInt8} (h:BB id l H) (hl:l.length<2^40):Shr Vv 41 [.ptr id 0,.c (bC c)] H (.c .nili) (fun H'=>BB id (l++[c]) H'∧KpH id H H'):=by
 refine zh9 v86 ?_
 rcases h with ⟨rfl,a,ha,hH⟩ | ⟨hne,hH⟩
 · repeat' first|apply z01|exact z12|exact z19 rfl|exact zd6 rfl rfl|(apply z15;rfl;rfl)|(apply zp5;(iterate 6 rfl))|(apply z24;rfl;rfl)|(apply z16;rfl;rfl)|(apply z29;rfl;rfl)|(apply zz8;rfl;rfl;(omega))|(apply z86;rfl;rfl;(assumption);rfl)|(apply zp4;(iterate 3 rfl);assumption;rfl;intro H1 hH1 kH1)|(apply z27 (hc:=⟨(qt2 ha hH).run⟩);rfl;rfl;(exact rfl);rfl;(exact z19 rfl);rintro H1 ⟨r1,k1⟩)|apply z02|apply z00|apply z03|apply z09
   refine zk4 rfl rfl ⟨.inr ⟨by simp,hH1⟩,fun i o hi ho=>kH1 i o hi (k1 i o hi ho)⟩
 · have hlen:(bytesV l).length<2^40:=by simpa [bytesV] using hl
   repeat' first|apply z01|exact z12|exact z19 rfl|exact zb6 rfl|(apply z15;rfl;rfl)|(apply zp5;(iterate 6 rfl))|(apply z24;rfl;rfl)|(apply z16;rfl;rfl)|(apply z29;rfl;rfl)|(apply z86;rfl;rfl;(assumption);rfl)|(apply j08;rfl;rfl;(simp only [List.length_map,List.length_cons,List.length_nil,List.length_append,List.length_replicate];omega);assumption;rfl;(exact jf3 rfl);intro H1 hH1 kH1)|(apply zp4;(iterate 3 rfl);assumption;rfl;intro H1 hH1 kH1)|(apply z27 (hc:=⟨(qt2 (.inr rfl) hH).run⟩);rfl;rfl;(exact rfl);rfl;(exact z19 rfl);rintro H1 ⟨r1,k1⟩)|apply z02|apply z00|apply z03|apply z09
   rename_i H3 H2 hH2 kH2
   refine zk4 rfl rfl ⟨.inr ⟨by simp,?_⟩,?_⟩
   · rw [zn3];exact hH1
   · exact fun i o hi ho=>kH1 i o hi (kH2 i o hi (k1 i o hi ho))
theorem q31 {H:z18} {id:Nat} {l s:List UInt8} (h:BB id l H) (hl:l.length<2^40) (hs:s.length<2^40):Shr Vv 42 [.ptr id 0,.c (.str s)] H (.tup [.c (.int .i64 s.length),.c .nili]) (fun H'=>BB id (l++s) H'∧KpH id H H'):=by
 refine zh9 vb1 ?_
 have hls:(bytesV s).length<2^40:=by simpa [bytesV] using hs
 rcases h with ⟨rfl,a,ha,hH⟩ | ⟨hne,hH⟩
 · cases s with
   | nil=>
     repeat' first|apply z01|exact z12|exact z19 rfl|(apply z15;rfl;rfl)|(apply z41;rfl)|(apply z24;rfl;rfl)|(apply z16;rfl;rfl)|(apply z29;rfl;rfl)|(apply j88;rfl;rfl)|(apply z86;rfl;rfl;(assumption);rfl)|(apply qq7;(iterate 3 rfl);assumption;rfl;intro H1 hH1 kH1)|(apply z27 (hc:=⟨(qt2 ha hH).run⟩);rfl;rfl;(exact rfl);rfl;(exact z19 rfl);rintro H1 ⟨r1,k1⟩)|apply z02|apply z00|apply z03|apply z09
     exact q76 rfl rfl rfl ⟨.inl ⟨rfl,_,.inr rfl,hH1⟩,fun i o hi ho=>kH1 i o hi (k1 i o hi ho)⟩
   | cons x r=>
     have hr:r.length<2^40:=by simp at hs;omega
     repeat' first|apply z01|exact z12|exact z19 rfl|exact zd6 rfl rfl|(apply z15;rfl;rfl)|(apply z41;rfl)|(apply z24;rfl;rfl)|(apply z16;rfl;rfl)|(apply z29;rfl;rfl)|(apply zz8;rfl;rfl;(simp only [List.length_map,List.length_cons,List.length_nil,List.length_append,List.length_replicate];omega))|(apply z86;rfl;rfl;(assumption);rfl)|(apply zp4;(iterate 3 rfl);assumption;rfl;intro H1 hH1 kH1)|(apply z27 (hc:=⟨(qt2 ha hH).run⟩);rfl;rfl;(exact rfl);rfl;(exact z19 rfl);rintro H1 ⟨r1,k1⟩)|apply z02|apply z00|apply z03|apply z09
     exact q76 rfl rfl rfl ⟨.inr ⟨by simp,hH1⟩,fun i o hi ho=>kH1 i o hi (k1 i o hi ho)⟩
 · have hlen:(bytesV l).length<2^40:=by simpa [bytesV] using hl
   repeat' first|apply z01|exact z12|exact z19 rfl|exact zb6 rfl|(apply z15;rfl;rfl)|(apply z41;rfl)|(apply z24;rfl;rfl)|(apply z16;rfl;rfl)|(apply z29;rfl;rfl)|(apply z86;rfl;rfl;(assumption);rfl)|(apply j08;rfl;rfl;(omega);assumption;rfl;(exact jf3 rfl);intro H1 hH1 kH1)|(apply zp4;(iterate 3 rfl);assumption;rfl;intro H1 hH1 kH1)|(apply z27 (hc:=⟨(qt2 (.inr rfl) hH).run⟩);rfl;rfl;(exact rfl);rfl;(exact z19 rfl);rintro H1 ⟨r1,k1⟩)|apply z02|apply z00|apply z03|apply z09
   rename_i H3 H2 hH2 kH2
   refine q76 rfl rfl rfl ⟨.inr ⟨by simp [hne],?_⟩,fun i o hi ho=>kH1 i o hi (kH2 i o hi (k1 i o hi ho))⟩
   rw [zn3];exact hH1
theorem wi2 {H:z18} {id:Nat} {l:List UInt8} (h:BB id l H):Shr Vv 45 [.ptr id 0] H (.c (.int .i64 l.length)) (fun H'=>BB id l H'∧KpH id H H'):=by
 have hb:=h
 refine zh9 vd5 ?_
 rcases h with ⟨rfl,a,ha,hH⟩ | ⟨hne,hH⟩
 · rcases ha with rfl | rfl
   · repeat' first|apply z01|exact z12|exact z19 rfl|(apply z15;rfl;rfl)|(apply zg2;rfl)|(apply z24;rfl;rfl)|(apply z16;rfl;rfl)|(apply z29;rfl;rfl)|(apply z86;rfl;rfl;(assumption);rfl)|apply z02|apply z00|apply z03|apply z09
     exact zk4 rfl rfl ⟨hb,fun _ _ _ h=>h⟩
   · repeat' first|apply z01|exact z12|exact z19 rfl|(apply z15;rfl;rfl)|(apply zg2;rfl)|(apply z24;rfl;rfl)|(apply z16;rfl;rfl)|(apply z29;rfl;rfl)|(apply z86;rfl;rfl;(assumption);rfl)|apply z02|apply z00|apply z03|apply z09
     exact zk4 rfl rfl ⟨hb,fun _ _ _ h=>h⟩
 · repeat' first|apply z01|exact z12|exact z19 rfl|(apply z15;rfl;rfl)|(apply zd4;rfl)|(apply z24;rfl;rfl)|(apply z16;rfl;rfl)|(apply z29;rfl;rfl)|(apply z86;rfl;rfl;(assumption);rfl)|apply z02|apply z00|apply z03|apply z09
   exact zk4 rfl (by simp [bytesV]) ⟨hb,fun _ _ _ h=>h⟩
theorem wb4:∀ s:List UInt8,zv0 (bytesV s)=true:=by
 intro s
 induction s with
 | nil=>rfl
 | cons x r ih=>
   show (decide (0≤(x.toNat:Int)∧(x.toNat:Int)<256)&&zv0 (bytesV r))=true
   have:=x.toNat_lt
   rw [ih];simp;omega
theorem wb9 {H:z18} {id:Nat} {l:List UInt8} (h:BB id l H):Shr Vv 46 [.ptr id 0] H (.c (.str l)) (fun H'=>True∧True):=by
 refine zh9 vc1 ?_
 unfold stA
 rcases h with ⟨rfl,a,ha,hH⟩ | ⟨hne,hH⟩
 · have hb0:zf4 []=some []:=rfl
   repeat' first|apply z01|exact z12|exact z19 rfl|(apply q13;rfl;assumption)|(apply js1;(iterate 3 rfl))|(apply z16;rfl;rfl)|(apply z86;rfl;rfl;(assumption);rfl)|(apply qr8;rfl;assumption;rfl;rfl)|(apply jz2;rfl)|apply z00|apply z03
   exact zk4 rfl rfl ⟨trivial,trivial⟩
 · have hc:0<(bytesV l).length∧zv0 (bytesV l)=true:=⟨by cases l<;>simp_all [bytesV],wb4 l⟩
   have hb:=qo2 l
   repeat' first|apply z01|exact z12|exact z19 rfl|(apply q13;rfl;assumption)|(apply wt7;(iterate 3 rfl))|(apply z16;rfl;rfl)|(apply z86;rfl;rfl;(assumption);rfl)|(apply qr8;rfl;assumption;rfl;rfl)|(apply wa0;rfl;assumption)|apply z00|apply z03
   exact zk4 rfl rfl ⟨trivial,trivial⟩
end Go.Proofs.TryzL
namespace Go.Proofs.TryzL
open Go.Proofs.Lz
set_option maxHeartbeats 4000000
structure TokOk (t:Tok):Prop where
 text:t.text.length<2^20
 qual:t.qual.length<2^20
 n:-9223372036854775808≤t.n∧t.n≤9223372036854775807
 line:-9223372036854775808≤t.line∧t.line≤9223372036854775807
 col:-9223372036854775808≤t.col∧t.col≤9223372036854775807
def tokT (t:Tok):List UInt8:=textS t.op t.qual t.text t.n
structure RS where
 out:List UInt8
 line:Nat
 col:Nat
 first:Bool
def nlK (t:Tok) (s:RS):Nat:=min 200 (t.line - s.line).toNat
def rnl (t:Tok) (s:RS):RS:=if nlK t s=0 then s else ⟨s.out++List.replicate (nlK t s) 10,s.line+nlK t s,1,true⟩
def rsp (t:Tok) (s:RS):RS:=if (s.col:Int)<t.col∧t.col≤1000 then { s with out:=s.out++Lib.repeatL [32] (t.col - s.col).toNat,col:=t.col.toNat } else if s.first then s else { s with out:=s.out++[32],col:=s.col+1 }
def rtx (t:Tok) (s:RS):RS:=⟨s.out++tokT t,s.line,s.col+(tokT t).length,false⟩
def zi0 (t:Tok) (s:RS):RS:=rtx t (rsp t (rnl t s))
def rend:List Tok→RS→Option (List UInt8)
 | [],s=>some s.out
 | t::ts,s=>if 65536<(zi0 t s).out.length then none else rend ts (zi0 t s)
def rs0:RS:=⟨[],1,1,true⟩
def q01 (l:List Tok):List UInt8×Int:=if l.all zw6=false then ([],1) else if 16384<l.length then ([],3) else match rend l rs0 with
 | none=>([],3)
 | some o=>(o,0)
theorem wd8 {t:Tok} (h:TokOk t):(tokT t).length≤2^23:=by
 have h1:=h.text
 have h2:=h.qual
 unfold tokT textS
 split
 · have:=Lib.itoa_length_le t.n h.n.1 h.n.2
   omega
 · split
   · unfold qcS
     split
     · have:=j35 (UInt8.ofNat t.n.toNat) 39
       simp;omega
     · simp
   · split
     · have:=qo3 t.text 34
       simp;omega
     · split
       · omega
       · simp;omega
theorem wc1 (t:Tok) (h:TokOk t):Rets Vv 40 [.c (tokC t)] (.c (.bool (zw6 t))):=j43 t.op t.qual t.text t.n t.auto t.line t.col (by have:=h.text;omega) (by have:=h.qual;omega)
theorem j54 (t:Tok) (h:TokOk t):Rets Vv 44 [.c (tokC t)] (.c (.str (tokT t))):=v29 t.op t.qual t.text t.n t.auto t.line t.col (by have:=h.text;omega) (by have:=h.qual;omega) h.n
structure RsOk (s:RS):Prop where
 out:s.out.length≤65536
 col:s.col≤1000+s.out.length
 line:s.line≤9223372036854775807
theorem wf1 {t:Tok} {s:RS} (ht:TokOk t) (h:RsOk s):(rnl t s).out.length≤65736∧(rnl t s).col≤1000+(rnl t s).out.length∧(rnl t s).line≤9223372036854775807:=by
 have:=h.out;have:=h.col;have:=h.line;have:=ht.line
 unfold rnl
 split
 · omega
 · simp only [List.length_append,List.length_replicate]
   unfold nlK at *
   omega
theorem ww1 (n:Nat):(Lib.repeatL [32] n).length=n:=by rw [Lib.repeatL_length];simp
theorem v36 {t:Tok} {s:RS} (h1:s.out.length≤65736) (h2:s.col≤1000+s.out.length) (h3:s.line≤9223372036854775807):(rsp t s).out.length≤66736∧(rsp t s).col≤1000+(rsp t s).out.length∧(rsp t s).line≤9223372036854775807:=by
 unfold rsp
 split
 · simp only [List.length_append,ww1]
   omega
 · split
   · omega
   · simp only [List.length_append,List.length_singleton]
     omega
theorem qp5 {t:Tok} {s:RS} (ht:TokOk t) (h:RsOk s) (hl:(zi0 t s).out.length≤65536):RsOk (zi0 t s):=by
 obtain ⟨a1,a2,a3⟩:=wf1 ht h
 obtain ⟨b1,b2,b3⟩:=v36 (t:=t) a1 a2 a3
 refine ⟨hl,?_,b3⟩
 unfold zi0 rtx
 simp only [List.length_append]
 omega
end Go.Proofs.TryzL
