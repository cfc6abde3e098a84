/- Chapter 02: the reference's Render. -/
import Derived.Test.YtencoceemejcnaaGreatDoorLzVc6
set_option linter.unusedSimpArgs false
set_option linter.unusedVariables false
namespace Go.Proofs.TryzL
open Go.Proofs.Lz
def bK:Option Nat:=some 67108866
def BB (id:Nat) (l:List UInt8) (H:z18):Prop:=(l=[]∧∃ a,(a=.c .nilp∨a=.ptr id 0)∧H[id]?=some (.var bK [a,.nils]))∨(l≠[]∧H[id]?=some (.var bK [.ptr id 0,.own true 5 none (bytesV l)]))
theorem wp9 {H:z18} {id:Nat} {sl:WV} (hH:H[id]?=some (.var bK [.c .nilp,sl])):Shr Vv 78 [.ptr id 0] H (.tup []) (fun H'=>H'[id]?=some (.var bK [.ptr id 0,sl])∧KpH id H H'):=by
 refine zh9 wy1 ?_
 unfold ccA ccB
 repeat' first
  | apply z01
  | exact z13
  | exact z19 rfl
  | (apply z14;rfl;rfl)
  | (apply qz8;rfl)
  | (apply z22;rfl;rfl;(assumption);rfl)
  | (apply qr1;rfl;assumption;rfl;rfl)
  | (apply qb1;(iterate 3 rfl);assumption;rfl;intro H1 hH1 kH1)
  | apply z02
  | apply z00
  | apply z03
  | (apply z12;rfl)
  | (with_reducible apply zh6;intro hc)
 all_goals first
  | exact wo9 ⟨hH1,kH1⟩
  | (exfalso;simp at hc;done)
theorem wl2 {H:z18} {id:Nat} {sl:WV} (hH:H[id]?=some (.var bK [.ptr id 0,sl])):Shr Vv 78 [.ptr id 0] H (.tup []) (fun H'=>H'[id]?=some (.var bK [.ptr id 0,sl])∧KpH id H H'):=by
 refine zh9 wy1 ?_
 unfold ccA ccB
 repeat' first
  | apply z01
  | exact z13
  | exact z19 rfl
  | (apply z14;rfl;rfl)
  | (apply qz8;rfl)
  | (apply z82;rfl;rfl;(assumption);rfl)
  | (apply qr1;rfl;assumption;rfl;rfl)
  | (apply ww7;rfl;rfl)
  | (apply qb1;(iterate 3 rfl);assumption;rfl;intro H1 hH1 kH1)
  | apply z02
  | apply z00
  | apply z03
  | apply z07
  | (apply z35;rfl;(with_reducible rfl))
  | (apply z12;rfl)
  | (with_reducible apply zh6;intro hc)
 all_goals first
  | exact wo9 ⟨hH,fun _ _ _ h=>h⟩
  | (exfalso;simp at hc;done)
theorem qw5 {H:z18} {id:Nat} {a sl:WV} (ha:a=.c .nilp∨a=.ptr id 0) (hH:H[id]?=some (.var bK [a,sl])):Shr Vv 78 [.ptr id 0] H (.tup []) (fun H'=>H'[id]?=some (.var bK [.ptr id 0,sl])∧KpH id H H'):=by
 rcases ha with rfl | rfl
 · exact wp9 hH
 · exact wl2 hH
theorem jm3 {H:z18} {id:Nat} {l:List UInt8} {c:UInt8} (h:BB id l H) (hl:l.length<2^40):Shr Vv 41 [.ptr id 0,.c (bC c)] H (.c .nili) (fun H'=>BB id (l++[c]) H'∧KpH id H H'):=by
 refine zh9 v56 ?_
 rcases h with ⟨rfl,a,ha,hH⟩ | ⟨hne,hH⟩
 · repeat' first
    | apply z01
    | exact z13
    | exact z19 rfl
    | exact zd8 rfl rfl
    | (apply z15;rfl;rfl)
    | (apply q04;(iterate 6 rfl))
    | (apply z24;rfl;rfl)
    | (apply z14;rfl;rfl)
    | (apply z29;rfl;rfl)
    | (apply zy0;rfl;rfl;(omega))
    | (apply z82;rfl;rfl;(assumption);rfl)
    | (apply zp1;(iterate 3 rfl);assumption;rfl;intro H1 hH1 kH1)
    | (apply z27 (hc:=⟨(qw5 ha hH).run⟩);rfl;rfl;(exact rfl);rfl;(exact z19 rfl);rintro H1 ⟨r1,k1⟩)
    | apply z02
    | apply z00
    | apply z03
    | apply z09
   refine zk0 rfl rfl ⟨.inr ⟨by simp,hH1⟩,fun i o hi ho=>kH1 i o hi (k1 i o hi ho)⟩
 · have hlen:(bytesV l).length<2^40:=by simpa [bytesV] using hl
   repeat' first
    | apply z01
    | exact z13
    | exact z19 rfl
    | exact zd4 rfl
    | (apply z15;rfl;rfl)
    | (apply q04;(iterate 6 rfl))
    | (apply z24;rfl;rfl)
    | (apply z14;rfl;rfl)
    | (apply z29;rfl;rfl)
    | (apply z82;rfl;rfl;(assumption);rfl)
    | (apply qx3;rfl;rfl;(simp only [List.length_map,List.length_cons,List.length_nil,List.length_append,List.length_replicate];omega);assumption;rfl;(exact jd2 rfl);intro H1 hH1 kH1)
    | (apply zp1;(iterate 3 rfl);assumption;rfl;intro H1 hH1 kH1)
    | (apply z27 (hc:=⟨(qw5 (.inr rfl) hH).run⟩);rfl;rfl;(exact rfl);rfl;(exact z19 rfl);rintro H1 ⟨r1,k1⟩)
    | apply z02
    | apply z00
    | apply z03
    | apply z09
   rename_i H3 H2 hH2 kH2
   refine zk0 rfl rfl ⟨.inr ⟨by simp,?_⟩,?_⟩
   · rw [zn2];exact hH1
   · exact fun i o hi ho=>kH1 i o hi (kH2 i o hi (k1 i o hi ho))
theorem q30 {H:z18} {id:Nat} {l s:List UInt8} (h:BB id l H) (hl:l.length<2^40) (hs:s.length<2^40):Shr Vv 42 [.ptr id 0,.c (.str s)] H (.tup [.c (.int .i64 s.length),.c .nili]) (fun H'=>BB id (l++s) H'∧KpH id H H'):=by
 refine zh9 v79 ?_
 have hls:(bytesV s).length<2^40:=by simpa [bytesV] using hs
 rcases h with ⟨rfl,a,ha,hH⟩ | ⟨hne,hH⟩
 · cases s with
   | nil=>
     repeat' first
      | apply z01
      | exact z13
      | exact z19 rfl
      | (apply z15;rfl;rfl)
      | (apply z44;rfl)
      | (apply z24;rfl;rfl)
      | (apply z14;rfl;rfl)
      | (apply z29;rfl;rfl)
      | (apply j33;rfl;rfl)
      | (apply z82;rfl;rfl;(assumption);rfl)
      | (apply qm8;(iterate 3 rfl);assumption;rfl;intro H1 hH1 kH1)
      | (apply z27 (hc:=⟨(qw5 ha hH).run⟩);rfl;rfl;(exact rfl);rfl;(exact z19 rfl);rintro H1 ⟨r1,k1⟩)
      | apply z02
      | apply z00
      | apply z03
      | apply z09
     exact q73 rfl rfl rfl ⟨.inl ⟨rfl,_,.inr rfl,hH1⟩,fun i o hi ho=>kH1 i o hi (k1 i o hi ho)⟩
   | cons x r=>
     have hr:r.length<2^40:=by simp at hs;omega
     repeat' first
      | apply z01
      | exact z13
      | exact z19 rfl
      | exact zd8 rfl rfl
      | (apply z15;rfl;rfl)
      | (apply z44;rfl)
      | (apply z24;rfl;rfl)
      | (apply z14;rfl;rfl)
      | (apply z29;rfl;rfl)
      | (apply zy0;rfl;rfl;(simp only [List.length_map,List.length_cons,List.length_nil,List.length_append,List.length_replicate];omega))
      | (apply z82;rfl;rfl;(assumption);rfl)
      | (apply zp1;(iterate 3 rfl);assumption;rfl;intro H1 hH1 kH1)
      | (apply z27 (hc:=⟨(qw5 ha hH).run⟩);rfl;rfl;(exact rfl);rfl;(exact z19 rfl);rintro H1 ⟨r1,k1⟩)
      | apply z02
      | apply z00
      | apply z03
      | apply z09
     exact q73 rfl rfl rfl ⟨.inr ⟨by simp,hH1⟩,fun i o hi ho=>kH1 i o hi (k1 i o hi ho)⟩
 · have hlen:(bytesV l).length<2^40:=by simpa [bytesV] using hl
   repeat' first
    | apply z01
    | exact z13
    | exact z19 rfl
    | exact zd4 rfl
    | (apply z15;rfl;rfl)
    | (apply z44;rfl)
    | (apply z24;rfl;rfl)
    | (apply z14;rfl;rfl)
    | (apply z29;rfl;rfl)
    | (apply z82;rfl;rfl;(assumption);rfl)
    | (apply qx3;rfl;rfl;(omega);assumption;rfl;(exact jd2 rfl);intro H1 hH1 kH1)
    | (apply zp1;(iterate 3 rfl);assumption;rfl;intro H1 hH1 kH1)
    | (apply z27 (hc:=⟨(qw5 (.inr rfl) hH).run⟩);rfl;rfl;(exact rfl);rfl;(exact z19 rfl);rintro H1 ⟨r1,k1⟩)
    | apply z02
    | apply z00
    | apply z03
    | apply z09
   rename_i H3 H2 hH2 kH2
   refine q73 rfl rfl rfl ⟨.inr ⟨by simp [hne],?_⟩,fun i o hi ho=>kH1 i o hi (kH2 i o hi (k1 i o hi ho))⟩
   rw [zn2];exact hH1
theorem wj2 {H:z18} {id:Nat} {l:List UInt8} (h:BB id l H):Shr Vv 45 [.ptr id 0] H (.c (.int .i64 l.length)) (fun H'=>BB id l H'∧KpH id H H'):=by
 have hb:=h
 refine zh9 v60 ?_
 rcases h with ⟨rfl,a,ha,hH⟩ | ⟨hne,hH⟩
 · rcases ha with rfl | rfl
   · repeat' first
      | apply z01
      | exact z13
      | exact z19 rfl
      | (apply z15;rfl;rfl)
      | (apply zf6;rfl)
      | (apply z24;rfl;rfl)
      | (apply z14;rfl;rfl)
      | (apply z29;rfl;rfl)
      | (apply z82;rfl;rfl;(assumption);rfl)
      | apply z02
      | apply z00
      | apply z03
      | apply z09
     exact zk0 rfl rfl ⟨hb,fun _ _ _ h=>h⟩
   · repeat' first
      | apply z01
      | exact z13
      | exact z19 rfl
      | (apply z15;rfl;rfl)
      | (apply zf6;rfl)
      | (apply z24;rfl;rfl)
      | (apply z14;rfl;rfl)
      | (apply z29;rfl;rfl)
      | (apply z82;rfl;rfl;(assumption);rfl)
      | apply z02
      | apply z00
      | apply z03
      | apply z09
     exact zk0 rfl rfl ⟨hb,fun _ _ _ h=>h⟩
 · repeat' first
    | apply z01
    | exact z13
    | exact z19 rfl
    | (apply z15;rfl;rfl)
    | (apply zd5;rfl)
    | (apply z24;rfl;rfl)
    | (apply z14;rfl;rfl)
    | (apply z29;rfl;rfl)
    | (apply z82;rfl;rfl;(assumption);rfl)
    | apply z02
    | apply z00
    | apply z03
    | apply z09
   exact zk0 rfl (by simp [bytesV]) ⟨hb,fun _ _ _ h=>h⟩
theorem wc2:∀ s:List UInt8,zx2 (bytesV s)=true:=by
 intro s
 induction s with
 | nil=>rfl
 | cons x r ih=>
   show (decide (0≤(x.toNat:Int)∧(x.toNat:Int)<256)&&zx2 (bytesV r))=true
   have:=x.toNat_lt
   rw [ih];simp;omega
theorem w66 {H:z18} {id:Nat} {l:List UInt8} (h:BB id l H):Shr Vv 46 [.ptr id 0] H (.c (.str l)) (fun H'=>True∧True):=by
 refine zh9 v69 ?_
 unfold stA
 rcases h with ⟨rfl,a,ha,hH⟩ | ⟨hne,hH⟩
 · have hb0:zf4 []=some []:=rfl
   repeat' first
    | apply z01
    | exact z13
    | exact z19 rfl
    | (apply q15;rfl;assumption)
    | (apply w07;(iterate 3 rfl))
    | (apply z14;rfl;rfl)
    | (apply z82;rfl;rfl;(assumption);rfl)
    | (apply qr1;rfl;assumption;rfl;rfl)
    | (apply jq2;rfl)
    | apply z00
    | apply z03
   exact zk0 rfl rfl ⟨trivial,trivial⟩
 · have hc:0<(bytesV l).length∧zx2 (bytesV l)=true:=⟨by cases l<;>simp_all [bytesV],wc2 l⟩
   have hb:=qq4 l
   repeat' first
    | apply z01
    | exact z13
    | exact z19 rfl
    | (apply q15;rfl;assumption)
    | (apply wp4;(iterate 3 rfl))
    | (apply z14;rfl;rfl)
    | (apply z82;rfl;rfl;(assumption);rfl)
    | (apply qr1;rfl;assumption;rfl;rfl)
    | (apply wa9;rfl;assumption)
    | apply z00
    | apply z03
   exact zk0 rfl rfl ⟨trivial,trivial⟩
end Go.Proofs.TryzL
namespace Go.Proofs.TryzL
open Go.Proofs.Lz
set_option maxHeartbeats 4000000
structure TokOk (t:Tok):Prop where
 text:t.text.length<2^20
 qual:t.qual.length<2^20
 n:-9223372036854775808≤t.n∧t.n≤9223372036854775807
 line:-9223372036854775808≤t.line∧t.line≤9223372036854775807
 col:-9223372036854775808≤t.col∧t.col≤9223372036854775807
def tokT (t:Tok):List UInt8:=textS t.op t.qual t.text t.n
structure RS where
 out:List UInt8
 line:Nat
 col:Nat
 first:Bool
def nlK (t:Tok) (s:RS):Nat:=min 200 (t.line - s.line).toNat
def rnl (t:Tok) (s:RS):RS:=if nlK t s=0 then s else ⟨s.out++List.replicate (nlK t s) 10,s.line+nlK t s,1,true⟩
def rsp (t:Tok) (s:RS):RS:=if (s.col:Int)<t.col∧t.col≤1000 then { s with out:=s.out++Lib.repeatL [32] (t.col - s.col).toNat,col:=t.col.toNat } else if s.first then s else { s with out:=s.out++[32],col:=s.col+1 }
def rtx (t:Tok) (s:RS):RS:=⟨s.out++tokT t,s.line,s.col+(tokT t).length,false⟩
def zj0 (t:Tok) (s:RS):RS:=rtx t (rsp t (rnl t s))
def rend:List Tok→RS→Option (List UInt8)
 | [],s=>some s.out
 | t::ts,s=>if 65536<(zj0 t s).out.length then none else rend ts (zj0 t s)
def rs0:RS:=⟨[],1,1,true⟩
def zu3 (l:List Tok):List UInt8×Int:=if l.all qy2=false then ([],1) else if 16384<l.length then ([],3) else match rend l rs0 with
 | none=>([],3)
 | some o=>(o,0)
theorem w98 {t:Tok} (h:TokOk t):(tokT t).length≤2^23:=by
 have h1:=h.text
 have h2:=h.qual
 unfold tokT textS
 split
 · have:=Lib.itoa_length_le t.n h.n.1 h.n.2
   omega
 · split
   · unfold qcS
     split
     · have:=j31 (UInt8.ofNat t.n.toNat) 39
       simp;omega
     · simp
   · split
     · have:=qo1 t.text 34
       simp;omega
     · split
       · omega
       · simp;omega
theorem w92 (t:Tok) (h:TokOk t):Rets Vv 40 [.c (tokC t)] (.c (.bool (qy2 t))):=j77 t.op t.qual t.text t.n t.auto t.line t.col (by have:=h.text;omega) (by have:=h.qual;omega)
theorem j54 (t:Tok) (h:TokOk t):Rets Vv 44 [.c (tokC t)] (.c (.str (tokT t))):=wy5 t.op t.qual t.text t.n t.auto t.line t.col (by have:=h.text;omega) (by have:=h.qual;omega) h.n
structure RsOk (s:RS):Prop where
 out:s.out.length≤65536
 col:s.col≤1000+s.out.length
 line:s.line≤9223372036854775807
theorem wc8 {t:Tok} {s:RS} (ht:TokOk t) (h:RsOk s):(rnl t s).out.length≤65736∧(rnl t s).col≤1000+(rnl t s).out.length∧(rnl t s).line≤9223372036854775807:=by
 have:=h.out;have:=h.col;have:=h.line;have:=ht.line
 unfold rnl
 split
 · omega
 · simp only [List.length_append,List.length_replicate]
   unfold nlK at *
   omega
theorem wt1 (n:Nat):(Lib.repeatL [32] n).length=n:=by rw [Lib.repeatL_length];simp
theorem ww8 {t:Tok} {s:RS} (h1:s.out.length≤65736) (h2:s.col≤1000+s.out.length) (h3:s.line≤9223372036854775807):(rsp t s).out.length≤66736∧(rsp t s).col≤1000+(rsp t s).out.length∧(rsp t s).line≤9223372036854775807:=by
 unfold rsp
 split
 · simp only [List.length_append,wt1]
   omega
 · split
   · omega
   · simp only [List.length_append,List.length_singleton]
     omega
theorem qs1 {t:Tok} {s:RS} (ht:TokOk t) (h:RsOk s) (hl:(zj0 t s).out.length≤65536):RsOk (zj0 t s):=by
 obtain ⟨a1,a2,a3⟩:=wc8 ht h
 obtain ⟨b1,b2,b3⟩:=ww8 (t:=t) a1 a2 a3
 refine ⟨hl,?_,b3⟩
 unfold zj0 rtx
 simp only [List.length_append]
 omega
end Go.Proofs.TryzL
namespace Go.Proofs.TryzL
open Go.Proofs.Lz
set_option maxHeartbeats 4000000
theorem rep1 (n:Nat) (hn:n≤2^40):Rets Vv 43 [.c (.str [32]),.c (.int .i64 n)] (.c (.str (Lib.repeatL [32] n))):=by
 have h:=zn3 (V:=Vv) (f:=43) (xs:=[.str [32],.int .i64 n]) (u:=.str (Lib.repeatL [32] (n:Int).toNat)) (g:=repG) rfl rfl (by
  simp only [repG]
  rw [if_pos ⟨by omega,by omega,by simp;omega⟩])
 simpa using h
theorem v32 {n:Int} (h0:0≤n) (hn:n≤2^40):Rets Vv 43 [.c (.str [32]),.c (.int .i64 n)] (.c (.str (Lib.repeatL [32] n.toNat))):=by
 have:=rep1 n.toNat (by omega)
 rwa [Int.toNat_of_nonneg h0] at this
def tks (l:List Tok):CV:=.frz (some 7) (l.map tokC)
def rcv (r:List UInt8×Int):WV:=.tup [.c (.str r.1),.c (.int .i64 r.2)]
theorem KpH.trans {id:Nat} {H H1 H2:z18} (h:KpH id H H1) (k:KpH id H1 H2):KpH id H H2:=fun i o hi ho=>k i o hi (h i o hi ho)
theorem jp0 {l:List Tok} {s:RS} {i:Nat} (h:i<l.length) (ho:65536<(zj0 l[i] s).out.length):rend (l.drop i) s=none:=by
 rw [List.drop_eq_getElem_cons h,rend,if_pos ho]
theorem jt7 {l:List Tok} {s:RS} {i:Nat} (h:i<l.length) (ho:¬ 65536<(zj0 l[i] s).out.length):rend (l.drop i) s=rend (l.drop (i+1)) (zj0 l[i] s):=by
 rw [List.drop_eq_getElem_cons h,rend,if_neg ho]
def nlS (s:RS) (n:Nat):RS:=if n=0 then s else ⟨s.out++List.replicate n 10,s.line+n,1,true⟩
theorem wj4 (t:Tok) (s:RS):nlS s (nlK t s)=rnl t s:=by unfold nlS rnl;rfl
theorem j12 (s:RS) (n:Nat):(nlS s n).out=s.out++List.replicate n 10:=by
 unfold nlS;split
 · rename_i h;subst h;simp
 · rfl
theorem j98 (s:RS) (n:Nat):(nlS s n).line=s.line+n:=by
 unfold nlS;split
 · rename_i h;subst h;rfl
 · rfl
theorem wb4 (s:RS) (n:Nat):nlS s (n+1)=⟨(nlS s n).out++[10],(nlS s n).line+1,1,true⟩:=by
 rw [j12,j98]
 unfold nlS
 rw [if_neg (by omega),List.replicate_succ',List.append_assoc]
 simp;omega
theorem wy0 {t:Tok} {s:RS} {n:Nat} (h:n<nlK t s):n<200∧((s.line+n:Nat):Int)<t.line:=by unfold nlK at h;omega
theorem wy9 {t:Tok} {s:RS} {n:Nat} (h:n=nlK t s):¬ ((n:Int)<200)∨¬ ((s.line+n:Nat):Int)<t.line:=by unfold nlK at h;omega
def kIn (l:List Tok) (t:Tok) (i:Nat) (x:RS) (n:Nat):List (Nat×WV):=[(6,.ptr 0 0),(7,.c (.int .i64 x.line)),(8,.c (.int .i64 x.col)),(9,.c (.bool x.first)),(11,.lbox (some 7) (.c (tokC t))),(12,.c (.int .i64 n)),(27,.c (.frz (some 7) (l.map tokC))),(28,.c (.int .i64 l.length)),(29,.c (.int .i64 i))]
theorem wg6 {l:List Tok} {t:Tok} {i:Nat} {s:RS} {H:z18} {N:Post} {B:Hs} {R:RP} {fr:WFr} (ht:TokOk t) (hs:RsOk s) (hB:BB 0 s.out H) (h0:KpL [6,7,8,9,11,12,27,28,29] fr [6,7,8,9,11,12,27,28,29] (kIn l t i s 0))
 (h:∀ H',BB 0 (rnl t s).out H'→N (FL [(6,.ptr 0 0),(7,.c (.int .i64 (rnl t s).line)),(8,.c (.int .i64 (rnl t s).col)),(9,.c (.bool (rnl t s).first)),(11,.lbox (some 7) (.c (tokC t))),(27,.c (.frz (some 7) (l.map tokC))),(28,.c (.int .i64 l.length)),(29,.c (.int .i64 i))] []) H') :
 WP Vv (.loop [6,7,8,9,11,12,27,28,29] wc7) fr H N ((4,N)::B) R:=by
 refine zk7 (fun n:Nat=>kIn l t i (nlS s n) n) (fun n H'=>n≤nlK t s∧BB 0 (nlS s n).out H') (fun n=>nlK t s - n) 0 h0 ⟨Nat.zero_le _,by rw [j12];simpa using hB⟩ ?_
 rintro n H1 ⟨hn,hB1⟩
 have e1:=j98 s n
 have e2:=wb4 s n
 have e3:(nlS s n).out.length≤65536+200:=by have:=hs.out;rw [j12];simp;unfold nlK at hn;omega
 have e4:=ht.line
 have e5:=hs.line
 by_cases hnk:n<nlK t s
 · obtain ⟨c1,c2⟩:=wy0 hnk
   generalize nlS s n=x at *
   unfold kIn
   repeat' first
    | apply z01
    | exact z13
    | exact z19 rfl
    | exact zd4 rfl
    | (apply z15;rfl;rfl)
    | (apply z45;(iterate 3 rfl))
    | (apply z99;rfl;rfl;omega)
    | (apply z30;(iterate 3 rfl))
    | (apply z17;rfl;(with_reducible rfl);rfl)
    | (apply z16;rfl;(with_reducible rfl);rfl)
    | (apply z49;rfl;exact zd0 rfl)
    | (apply z27 (hc:=⟨(jm3 hB1 (c:=10) (by omega)).run⟩);rfl;rfl;(exact rfl);rfl;(exact z13);rintro H1 ⟨r1,k1⟩)
    | (apply z04;focus (repeat (first | exact z23 | (apply kq_c;rfl) | (apply z50;rfl) | (apply z38;rfl))))
    | apply z02
    | apply z00
    | apply z03
    | apply z05
    | apply z07
    | apply z56
    | (apply zb6;rfl)
    | (apply z32;rfl;(with_reducible rfl))
    | (apply z12;rfl)
    | (apply z47;rfl;(with_reducible rfl))
    | (apply z43;rfl;(with_reducible rfl))
    | (apply z39;rfl)
    | (with_reducible apply z69;intro hc)
    | (with_reducible apply z52;intro hc)
   any_goals (exfalso;omega)
   refine ⟨n+1,?_,⟨by omega,by rw [e2];exact r1⟩,by omega⟩
   rw [e2]
   repeat' first
    | exact z23
    | refine z64 rfl ?_
 · have hn':n=nlK t s:=by omega
   have hg:=wy9 hn'
   rw [← wj4,← hn'] at h
   generalize nlS s n=x at *
   unfold kIn
   repeat' first
    | apply z01
    | exact z13
    | exact z19 rfl
    | exact zd4 rfl
    | (apply z15;rfl;rfl)
    | (apply z45;(iterate 3 rfl))
    | (apply z30;(iterate 3 rfl))
    | (apply z17;rfl;(with_reducible rfl);rfl)
    | (apply z16;rfl;(with_reducible rfl);rfl)
    | (apply z49;rfl;exact zd0 rfl)
    | (apply z04;focus (repeat (first | exact z23 | (apply kq_c;rfl) | (apply z50;rfl) | (apply z38;rfl))))
    | apply z02
    | apply z00
    | apply z03
    | apply z05
    | apply z07
    | apply z56
    | (apply zb6;rfl)
    | (apply z32;rfl;(with_reducible rfl))
    | (apply z12;rfl)
    | (apply z47;rfl;(with_reducible rfl))
    | (apply z43;rfl;(with_reducible rfl))
    | (apply z39;rfl)
    | (with_reducible apply z69;intro hc)
    | (with_reducible apply z52;intro hc)
   any_goals (exfalso;omega)
   all_goals exact h _ hB1
theorem wb8 (l:List Tok) (hl:l.length<2^40) (hk:∀ t∈l,TokOk t):Rets Vv 15 [.c (tks l)] (rcv (zu3 l)):=by
 refine z67 v35 ?_
 unfold tks
 repeat' first
  | apply z01
  | exact z13
  | (apply z15;rfl;rfl)
  | (apply zb8;rfl)
  | apply z02
  | apply z00
  | apply z03
  | apply z05
 refine zd2 (fun n:Nat=>[(0,.c (.frz (some 7) (l.map tokC))),(14,.c (.frz (some 7) (l.map tokC))),(15,.c (.int .i64 l.length)),(16,.c (.int .i64 n))]) (fun n=>n≤l.length∧(l.take n).all qy2=true) (fun n=>l.length - n) 0 ?_ ⟨Nat.zero_le _,tk0⟩ ?_
 · repeat' first
    | exact z23
    | refine z64 rfl ?_
 rintro n ⟨hn,hall⟩
 by_cases hnl:n<l.length
 · have ht:=hk l[n] (List.getElem_mem _)
   repeat' first
    | apply z01
    | exact z13
    | exact z19 rfl
    | (apply z15;rfl;rfl)
    | (apply zl1;rfl;rfl)
    | (apply z45;(iterate 3 rfl))
    | (apply z99;rfl;rfl;omega)
    | (apply z30;(iterate 3 rfl))
    | (apply zb8;rfl)
    | (apply z84;rfl;rfl)
    | (apply zh8;(iterate 3 rfl);exact List.getElem?_eq_getElem (by omega))
    | (apply z88;rfl;rfl;first | exact z65 (by first | exact rfl | assumption | exact z06 (by assumption)) | exact z73 (by first | exact rfl | assumption | exact z06 (by assumption)))
    | (apply z28;(iterate 4 rfl);exact z34 (by first | exact rfl | assumption | exact z06 (by assumption)))
    | (apply qq6;(iterate 4 rfl))
    | (apply z08 (hc:=w92 l[n] ht);rfl;rfl;rfl)
    | (apply z04;focus (repeat (first | exact z23 | (apply kq_c;rfl))))
    | apply z02
    | apply z00
    | apply z03
    | apply z05
    | apply z07
    | apply z09
    | apply z56
    | (apply z12;rfl)
    | with_reducible apply z57
    | with_reducible apply z58
    | (with_reducible apply z69;intro hc)
    | (with_reducible apply z52;intro hc)
    | (with_reducible apply zh6;intro hc)
    | (apply qi8;(exact ShI.c rfl);(exact ShI.c rfl);(exact by decide))
   any_goals (exfalso;omega)
   · unfold zu3
     rw [if_pos (tkF hnl (by simpa using hc))]
     rfl
   · refine ⟨n+1,?_,rfl,⟨by omega,tkS hnl hall hc⟩,by omega⟩
     repeat' first
      | exact z23
      | refine z64 rfl ?_
 · have hall:=tkE (by omega) hall
   repeat' first
    | apply z01
    | exact z13
    | exact z19 rfl
    | (apply z15;rfl;rfl)
    | (apply zl1;rfl;rfl)
    | (apply z45;(iterate 3 rfl))
    | (apply z30;(iterate 3 rfl))
    | (apply zb8;rfl)
    | (apply zh8;(iterate 3 rfl);exact List.getElem?_eq_getElem (by omega))
    | (apply z88;rfl;rfl;first | exact z65 (by first | exact rfl | assumption | exact z06 (by assumption)) | exact z73 (by first | exact rfl | assumption | exact z06 (by assumption)))
    | (apply z28;(iterate 4 rfl);exact z34 (by first | exact rfl | assumption | exact z06 (by assumption)))
    | (apply qq6;(iterate 4 rfl))
    | (apply z04;focus (repeat (first | exact z23 | (apply kq_c;rfl))))
    | apply z02
    | apply z00
    | apply z03
    | apply z05
    | apply z07
    | apply z09
    | apply z56
    | (apply z12;rfl)
    | (with_reducible apply z69;intro hc)
    | (with_reducible apply z52;intro hc)
    | (apply qi8;(exact ShI.c rfl);(exact ShI.c rfl);(exact by decide))
   any_goals (exfalso;omega)
   · unfold zu3
     rw [if_neg (by rw [hall];simp),if_pos (by omega)]
     rfl
   · have hR0:zu3 l=match rend l rs0 with
      | none=>([],3)
      | some o=>(o,0):=by
      unfold zu3
      rw [if_neg (by rw [hall];simp),if_neg (by omega)]
      try rfl
     refine zk7 (fun p:Nat×RS=>[(6,.ptr 0 0),(7,.c (.int .i64 p.2.line)),(8,.c (.int .i64 p.2.col)),(9,.c (.bool p.2.first)),(27,.c (.frz (some 7) (l.map tokC))),(28,.c (.int .i64 l.length)),(29,.c (.int .i64 p.1))])
      (fun p H'=>p.1≤l.length∧BB 0 p.2.out H'∧RsOk p.2∧rend (l.drop p.1) p.2=rend l rs0) (fun p=>l.length - p.1) (0,rs0) ?_ ⟨Nat.zero_le _,.inl ⟨rfl,_,.inl rfl,rfl⟩,⟨by decide,by decide,by decide⟩,by simp⟩ ?_
     · repeat' first
        | exact z23
        | refine z64 rfl ?_
     rintro ⟨i,s⟩ H1 ⟨hi,hB,hs,hR⟩
     dsimp only at hi hB hs hR
     dsimp only
     by_cases hil:i<l.length
     · have ht:=hk l[i] (List.getElem_mem _)
       generalize htt:l[i]=t at ht
       have htl:=w98 ht
       have htc:=ht.col
       obtain ⟨a1,a2,a3⟩:=wc8 ht hs
       have hov:65536<(zj0 t s).out.length→rcv (zu3 l)=.tup [.c (.str []),.c (.int .i64 3)]:=fun h=>by
        rw [hR0,← hR,jp0 hil (by rw [htt];exact h)]
        rfl
       have hnx:¬ 65536<(zj0 t s).out.length→rend (l.drop (i+1)) (zj0 t s)=rend l rs0:=fun h=>by
        rw [← hR,jt7 hil (by rw [htt];exact h),htt]
       repeat' first
        | apply z01
        | exact z13
        | (apply z15;rfl;rfl)
        | (apply zl1;rfl;rfl)
        | (apply z30;(iterate 3 rfl))
        | (apply zh8;(iterate 3 rfl);exact List.getElem?_eq_getElem (by omega))
        | (apply z88;rfl;rfl;first | exact z65 (by first | exact rfl | assumption | exact z06 (by assumption)) | exact z73 (by first | exact rfl | assumption | exact z06 (by assumption)))
        | (apply z28;(iterate 4 rfl);exact z34 (by first | exact rfl | assumption | exact z06 (by assumption)))
        | (apply z04;focus (repeat (first | exact z23 | (apply kq_c;rfl) | (apply z50;rfl))))
        | apply z02
        | apply z00
        | apply z03
        | apply z05
        | apply z07
        | apply z56
        | (apply z12;rfl)
        | (with_reducible apply z69;intro hc)
        | (with_reducible apply z52;intro hc)
       any_goals (exfalso;omega)
       refine wg6 (l:=l) (t:=t) (i:=i) (s:=s) ht hs hB ?_ ?_
       · subst htt
         unfold kIn
         repeat' first
          | exact z23
          | refine z64 rfl ?_
       · intro H2 hB2
         have es:zj0 t s=rtx t (rsp t (rnl t s)):=rfl
         generalize rnl t s=y at *
         by_cases hA:(y.col:Int)<t.col∧t.col≤1000
         · have ez:rsp t y={ y with out:=y.out++Lib.repeatL [32] (t.col - y.col).toNat,col:=t.col.toNat }:=by unfold rsp;rw [if_pos hA]
           rw [ez] at es
           have hr:=wt1 (t.col - y.col).toNat
           have hz1:(y.out++Lib.repeatL [32] (t.col - y.col).toNat).length<2^40:=by simp only [List.length_append];omega
           repeat' first
            | apply z01
            | exact z13
            | exact zd4 rfl
            | (apply z15;rfl;rfl)
            | (apply z45;(iterate 3 rfl))
            | (apply z99;rfl;rfl;omega)
            | (apply zp2;rfl;rfl;omega)
            | (apply z30;(iterate 3 rfl))
            | (apply z44;rfl)
            | (apply z84;rfl;rfl)
            | (apply z17;rfl;(with_reducible rfl);rfl)
            | (apply z16;rfl;(with_reducible rfl);rfl)
            | (apply z49;rfl;exact zd0 rfl)
            | (apply z08 (hc:=v32 (n:=t.col - y.col) (by omega) (by omega));rfl;rfl;rfl)
            | (apply z08 (hc:=j54 t ht);rfl;rfl;rfl)
            | (apply z27 (hc:=⟨(q30 (s:=Lib.repeatL [32] (t.col - y.col).toNat) hB2 (by omega) (by omega)).run⟩);rfl;rfl;(exact rfl);rfl;(exact zd4 rfl);rintro H1 ⟨r1,k1⟩)
            | (apply z27 (hc:=⟨(q30 (s:=tokT t) r1 hz1 (by omega)).run⟩);rfl;rfl;(exact rfl);rfl;(exact z19 rfl);rintro H1 ⟨r1,k1⟩)
            | (apply z27 (hc:=⟨(wj2 r1).run⟩);rfl;rfl;(exact rfl);rfl;(exact z13);rintro H1 ⟨r1,k1⟩)
            | (apply z04;focus (repeat (first | exact z23 | (apply kq_c;rfl) | (apply z50;rfl) | (apply z38;rfl))))
            | apply z02
            | apply z00
            | apply z03
            | apply z07
            | apply z09
            | (apply z32;rfl;(with_reducible rfl))
            | (apply z12;rfl)
            | (apply z47;rfl;(with_reducible rfl))
            | (apply z43;rfl;(with_reducible rfl))
            | (apply z39;rfl)
            | with_reducible apply z57
            | with_reducible apply z58
            | (with_reducible apply z69;intro hc)
            | (with_reducible apply z52;intro hc)
            | (with_reducible apply zh6;intro hc)
            | (apply qi8;(exact ShI.c rfl);(exact ShI.c rfl);(exact by decide))
           any_goals (exfalso;omega)
           all_goals (have eo:(zj0 t s).out=y.out++Lib.repeatL [32] (t.col - y.col).toNat++tokT t:=by rw [es];rfl)
           any_goals exact hov (by rw [eo];omega)
           all_goals (have ec:(((zj0 t s).col:Nat):Int)=t.col+(tokT t).length:=by rw [es];simp only [rtx];omega
                      have el:(zj0 t s).line=y.line:=by rw [es];rfl
                      have ef:(zj0 t s).first=false:=by rw [es];rfl
                      refine ⟨(i+1,zj0 t s),?_,⟨by dsimp only;omega,by dsimp only;rw [eo];exact r1,qs1 ht hs (by rw [eo];omega),hnx (by rw [eo];omega)⟩,by dsimp only;omega⟩
                      dsimp only
                      rw [ec,el,ef])
           repeat' first
            | exact z23
            | refine z64 rfl ?_
         · have hr1:=y.first
           cases hf:y.first
           rotate_left
           ·
            have ez:rsp t y=y:=by unfold rsp;rw [if_neg hA,if_pos hf]
            rw [ez] at es
            repeat' first
             | apply z01
             | exact z13
             | exact zd4 rfl
             | (apply z15;rfl;rfl)
             | (apply z45;(iterate 3 rfl))
             | (apply z99;rfl;rfl;omega)
             | (apply zp2;rfl;rfl;omega)
             | (apply z30;(iterate 3 rfl))
             | (apply z44;rfl)
             | (apply z84;rfl;rfl)
             | (apply z17;rfl;(with_reducible rfl);rfl)
             | (apply z16;rfl;(with_reducible rfl);rfl)
             | (apply z49;rfl;exact zd0 rfl)
             | (apply z08 (hc:=j54 t ht);rfl;rfl;rfl)
             | (apply z27 (hc:=⟨(q30 (s:=tokT t) hB2 (by omega) (by omega)).run⟩);rfl;rfl;(exact rfl);rfl;(exact z19 rfl);rintro H1 ⟨r1,k1⟩)
             | (apply z27 (hc:=⟨(wj2 r1).run⟩);rfl;rfl;(exact rfl);rfl;(exact z13);rintro H1 ⟨r1,k1⟩)
             | (apply z04;focus (repeat (first | exact z23 | (apply kq_c;rfl) | (apply z50;rfl) | (apply z38;rfl))))
             | apply z02
             | apply z00
             | apply z03
             | apply z07
             | apply z09
             | (apply z32;rfl;(with_reducible rfl))
             | (apply z12;rfl)
             | (apply z47;rfl;(with_reducible rfl))
             | (apply z43;rfl;(with_reducible rfl))
             | (apply z39;rfl)
             | with_reducible exact zb5
             | with_reducible apply zb4
             | with_reducible apply z57
             | with_reducible apply z58
             | (with_reducible apply z69;intro hc)
             | (with_reducible apply z52;intro hc)
             | (apply qi8;(exact ShI.c rfl);(exact ShI.c rfl);(exact by decide))
            any_goals (exfalso;omega)
            all_goals (have eo:(zj0 t s).out=y.out++tokT t:=by rw [es];rfl)
            any_goals exact hov (by rw [eo];omega)
            all_goals (have ec:(((zj0 t s).col:Nat):Int)=y.col+(tokT t).length:=by rw [es];simp only [rtx];omega
                       have el:(zj0 t s).line=y.line:=by rw [es];rfl
                       have ef:(zj0 t s).first=false:=by rw [es];rfl
                       refine ⟨(i+1,zj0 t s),?_,⟨by dsimp only;omega,by dsimp only;rw [eo];exact r1,qs1 ht hs (by rw [eo];omega),hnx (by rw [eo];omega)⟩,by dsimp only;omega⟩
                       dsimp only
                       rw [ec,el,ef])
            repeat' first
             | exact z23
             | refine z64 rfl ?_
           ·
            have ez:rsp t y={ y with out:=y.out++[32],col:=y.col+1 }:=by unfold rsp;rw [if_neg hA,if_neg (by rw [hf];simp)]
            rw [ez] at es
            have hz1:(y.out++[32]).length<2^40:=by simp only [List.length_append,List.length_singleton];omega
            repeat' first
             | apply z01
             | exact z13
             | exact zd4 rfl
             | (apply z15;rfl;rfl)
             | (apply z45;(iterate 3 rfl))
             | (apply z99;rfl;rfl;omega)
             | (apply zp2;rfl;rfl;omega)
             | (apply z30;(iterate 3 rfl))
             | (apply z44;rfl)
             | (apply z84;rfl;rfl)
             | (apply z17;rfl;(with_reducible rfl);rfl)
             | (apply z16;rfl;(with_reducible rfl);rfl)
             | (apply z49;rfl;exact zd0 rfl)
             | (apply z08 (hc:=j54 t ht);rfl;rfl;rfl)
             | (apply z27 (hc:=⟨(jm3 (c:=32) hB2 (by omega)).run⟩);rfl;rfl;(exact rfl);rfl;(exact z13);rintro H1 ⟨r1,k1⟩)
             | (apply z27 (hc:=⟨(q30 (s:=tokT t) r1 hz1 (by omega)).run⟩);rfl;rfl;(exact rfl);rfl;(exact z19 rfl);rintro H1 ⟨r1,k1⟩)
             | (apply z27 (hc:=⟨(wj2 r1).run⟩);rfl;rfl;(exact rfl);rfl;(exact z13);rintro H1 ⟨r1,k1⟩)
             | (apply z04;focus (repeat (first | exact z23 | (apply kq_c;rfl) | (apply z50;rfl) | (apply z38;rfl))))
             | apply z02
             | apply z00
             | apply z03
             | apply z07
             | apply z09
             | (apply z32;rfl;(with_reducible rfl))
             | (apply z12;rfl)
             | (apply z47;rfl;(with_reducible rfl))
             | (apply z43;rfl;(with_reducible rfl))
             | (apply z39;rfl)
             | with_reducible exact ze7
             | with_reducible apply ze2
             | with_reducible apply z57
             | with_reducible apply z58
             | (with_reducible apply z69;intro hc)
             | (with_reducible apply z52;intro hc)
             | (apply qi8;(exact ShI.c rfl);(exact ShI.c rfl);(exact by decide))
            any_goals (exfalso;omega)
            all_goals (have eo:(zj0 t s).out=y.out++[32]++tokT t:=by rw [es];rfl)
            any_goals exact hov (by rw [eo];omega)
            all_goals (have ec:(((zj0 t s).col:Nat):Int)=(y.col+1)+(tokT t).length:=by rw [es];simp only [rtx];omega
                       have el:(zj0 t s).line=y.line:=by rw [es];rfl
                       have ef:(zj0 t s).first=false:=by rw [es];rfl
                       refine ⟨(i+1,zj0 t s),?_,⟨by dsimp only;omega,by dsimp only;rw [eo];exact r1,qs1 ht hs (by rw [eo];omega),hnx (by rw [eo];omega)⟩,by dsimp only;omega⟩
                       dsimp only
                       rw [ec,el,ef])
            repeat' first
             | exact z23
             | refine z64 rfl ?_
     · have hie:i=l.length:=by omega
       subst hie
       rw [List.drop_length,rend] at hR
       repeat' first
        | apply z01
        | exact z13
        | (apply z15;rfl;rfl)
        | (apply zl1;rfl;rfl)
        | (apply z30;(iterate 3 rfl))
        | (apply zh8;(iterate 3 rfl);exact List.getElem?_eq_getElem (by omega))
        | (apply z88;rfl;rfl;first | exact z65 (by first | exact rfl | assumption | exact z06 (by assumption)) | exact z73 (by first | exact rfl | assumption | exact z06 (by assumption)))
        | (apply z28;(iterate 4 rfl);exact z34 (by first | exact rfl | assumption | exact z06 (by assumption)))
        | (apply z27 (hc:=⟨(w66 hB).run⟩);rfl;rfl;(exact rfl);rfl;(exact z13);rintro H1 ⟨r1,k1⟩)
        | (apply z04;focus (repeat (first | exact z23 | (apply kq_c;rfl) | (apply z50;rfl))))
        | apply z02
        | apply z00
        | apply z03
        | apply z05
        | apply z07
        | apply z09
        | apply z56
        | (apply z12;rfl)
        | (with_reducible apply z69;intro hc)
        | (with_reducible apply z52;intro hc)
        | (apply qi8;(exact ShI.c rfl);(exact ShI.c rfl);(exact by decide))
       any_goals (exfalso;omega)
       rw [hR0,← hR]
       rfl
end Go.Proofs.TryzL
namespace Go.Proofs.TryzL
open Go.Proofs.Lz
set_option maxHeartbeats 4000000
end Go.Proofs.TryzL
namespace Go.Proofs.TryzL
open Go.Proofs.Lz
set_option maxHeartbeats 4000000
end Go.Proofs.TryzL
