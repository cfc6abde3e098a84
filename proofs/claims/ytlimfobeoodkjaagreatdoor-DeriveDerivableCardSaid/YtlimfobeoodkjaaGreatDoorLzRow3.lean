/- A law's row, where the law is told how its arguments lie; and a slice's length. -/
import Derived.Test.YtlimfobeoodkjaaGreatDoorLzExt2
import Derived.ProofKit
set_option linter.unusedVariables false
set_option linter.unusedSimpArgs false
set_option linter.unusedSectionVars false
namespace Go.Proofs.Lz
variable [GlobTab]
def S4 (ok:TypeId->Bool) (P:Program):Nat->List Field->Option Nat
 | off,[]=>some off
 | off,f::r=>if f.offset=off/\ok f.type=true then S4 ok P (off+P.cellsOf f.type) r else none
def zI (P:Program) (ok:TypeId->Bool) (t:TypeId):Bool:=match P.underlying t with
 | some .bool | some (.int _) | some .string=>P.cellsOf t==1
 | some (.slice e)=>P.cellsOf t==1&&ok e&&(x5 P e).isSome&&decide (0<P.cellsOf e)
 | some (.struct fs)=>S4 ok P 0 fs.toList==some (P.cellsOf t)
 | _=>false
def qM (P:Program) (S:List TypeId):Bool:=S.all (zI P S.contains)
def uK (r:TypeId->List CV->Prop):List Field->List CV->Prop
 | [],xs=>xs=[]
 | f::fs,xs=>∃ a b,xs=a++b/\r f.type a/\uK r fs b
def T0 (P:Program):Nat->TypeId->List CV->Prop
 | 0,_,_=>False
 | n+1,t,xs=>match P.underlying t with
   | some .bool=>∃ b,xs=[.bool b]
   | some (.int k)=>∃ m,xs=[.int k m]/\(Lit.int k m).wf=true
   | some .string=>∃ s,xs=[.str s]/\s.length<=maxLen
   | some (.slice e)=>∃ ek ys,xs=[.frz ek ys]/\ys.length<=maxLen/\x5 P e=some ek/\∀ y∈ys,∃ zs,T0 P n e zs/\zs.length=j0 ek/\A2 ek zs=some y
   | some (.struct fs)=>uK (T0 P n) fs.toList xs
   | _=>False
theorem aM {P:Program} {t:TypeId} {ek:Option Nat} (h:x5 P t=some ek):j0 ek=P.cellsOf t:=by
 unfold x5 at h;unfold Program.cellsOf;split at h
 . rename_i fs i h1 h2;split at h
   . injection h with h;subst h;simp [h2,j0]
   . cases h
 . rename_i k e i h1 h2;split at h
   . injection h with h;subst h;simp [h2,j0]
   . cases h
 . rename_i d i h0 h1 h2 h3;split at h
   . rename_i hs;injection h with h;subst h;simp [h3,j0,hs]
   . cases h
 . cases h
theorem mM {α β:Type} {f:α->Option β}:∀ {l:List α} {r:List β},l.mapM f=some r->r.length=l.length/\∀ (i:Nat) (x:α),l[i]?=some x->∃ y,r[i]?=some y/\f x=some y:=by
 intro l;induction l with
 | nil=>intro r h;simp at h;subst h;exact ⟨rfl,fun i x h=>by simp at h⟩
 | cons a l ih=>
   intro r h;rw [List.mapM_cons] at h;cases h1:f a with
   | none=>rw [h1] at h;cases h
   | some b=>
     rw [h1] at h;cases h2:l.mapM f with
     | none=>rw [h2] at h;cases h
     | some bs=>
       rw [h2] at h;have h:some (b::bs)=some r:=h;injection h with h;subst h;obtain ⟨k1,k2⟩:=ih h2;refine ⟨by simp [k1],fun i x hx=>?_⟩;cases i with
       | zero=>simp at hx;subst hx;exact ⟨b,by simp,h1⟩
       | succ i=>simp only [List.getElem?_cons_succ] at hx ⊢;exact k2 i x hx
section
variable {H:Type} {enc:TypeId×Value->H} {P:Program} {W:World}
theorem sC {base:Nat} {a:Addr} {n:Nat} {cs:List Value} (h:W.cells? base a n=some cs) (hn:0<n):cs.length=n/\a.spot=none/\a.block<W.heap.size/\W.rangeAt a.block a.off cs:=by
 unfold World.cells? at h;split at h
 . obtain ⟨h1,h2⟩:=mM h;have hl:cs.length=n:=by simpa using h1
   have hc:∀ j,j<n->∃ y,cs[j]?=some y/\W.cell? (a.add j)=some y:=fun j hj=>h2 j j (by simp [hj]);have hsp:a.spot=none:=by
    obtain ⟨y,_,hy⟩:=hc 0 hn;cases hs:a.spot with
    | none=>rfl
    | some sp=>
      exfalso;unfold World.cell? at hy;have:(a.add 0).spot.isSome=true:=by
       unfold Addr.add;split<;>simp_all
      rw [this] at hy;split at hy<;>simp at hy
   have ea:a=⟨a.block,a.off,none⟩:=by cases a;simp at hsp;subst hsp;rfl
   refine ⟨hl,hsp,?_,?_⟩
   . obtain ⟨y,_,hy⟩:=hc 0 hn;rw [ea,Addr.add_mid] at hy;unfold World.cell? at hy;cases hb:W.heap[a.block]? with
     | none=>rw [hb] at hy;cases hy
     | some o=>exact (Array.getElem?_eq_some_iff.1 hb).1
   . intro j v hv;have hj:j<n:=by have:=(gEs hv).1;omega
     obtain ⟨y,hy1,hy2⟩:=hc j hj;rw [hv] at hy1;injection hy1 with hy1;subst hy1;rw [ea,Addr.add_mid] at hy2;exact hy2
 . cases h
def V9 (P:Program) (W:World) (n:Nat) (t:TypeId) (cs:List Value):Prop:=
 ∃ xs,T0 P n t xs/\RCs W (fun b=>b<W.heap.size) xs cs/\cs.length=P.cellsOf t/\xs.length=cs.length/\∀ v∈cs,v.oneCell'=true
theorem eZ {r:TypeId->List Value->Option (DataW H×List MemPlace)} {ok:TypeId->Bool} {n:Nat} (hr:∀ t cs x,ok t=true->r t cs=some x->V9 P W n t cs) :
 ∀ (fs:List Field) (off stop:Nat) (cs:List Value) (xs:List (DataW H×List MemPlace)),S4 ok P off fs=some stop->cs.length=stop->off<=stop ->
  (fs.mapM fun f=>r f.type ((cs.drop f.offset).take (P.cellsOf f.type)))=some xs ->
  ∃ ys,uK (T0 P n) fs ys/\RCs W (fun b=>b<W.heap.size) ys (cs.drop off)/\ys.length=(cs.drop off).length/\∀ v∈cs.drop off,v.oneCell'=true:=by
 intro fs;induction fs with
 | nil=>
   intro off stop cs xs hs hl ho h;simp only [S4,Option.some.injEq] at hs;subst hs;have:cs.drop off=[]:=List.drop_eq_nil_of_le (by omega);rw [this];exact ⟨[],rfl,rcs_nil.2 rfl,rfl,by simp⟩
 | cons f fs ih=>
   intro off stop cs xs hs hl ho h;unfold S4 at hs;split at hs
   . rename_i hf;obtain ⟨hf1,hf2⟩:=hf;rw [List.mapM_cons] at h;cases h1:r f.type ((cs.drop f.offset).take (P.cellsOf f.type)) with
     | none=>rw [h1] at h;cases h
     | some x=>
       rw [h1] at h;cases h2:(fs.mapM fun f=>r f.type ((cs.drop f.offset).take (P.cellsOf f.type))) with
       | none=>rw [h2] at h;cases h
       | some xs'=>
         obtain ⟨zs,g1,g2,g3,g4,g5⟩:=hr _ _ _ hf2 h1;have hle:off+P.cellsOf f.type<=stop:=by
          have:∀ (fs:List Field) (a b:Nat),S4 ok P a fs=some b->a<=b:=by
           intro fs;induction fs with
           | nil=>intro a b h;simp [S4] at h;omega
           | cons f fs ih=>
             intro a b h;unfold S4 at h;split at h
             . have:=ih _ _ h;omega
             . cases h
          exact this _ _ _ hs
         obtain ⟨ys,k1,k2,k3,k4⟩:=ih _ _ cs xs' hs hl hle h2;have hcut:cs.drop off=(cs.drop off).take (P.cellsOf f.type)++cs.drop (off+P.cellsOf f.type):=by
          rw [<-List.drop_drop,List.take_append_drop]
         rw [hf1] at g2 g3 g4 g5;refine ⟨zs++ys,⟨zs,ys,rfl,g1,k1⟩,?_,?_,?_⟩
         . rw [hcut];exact pX g2 k2
         . rw [hcut,List.length_append,List.length_append,g4,k3]
         . intro v hv;rw [hcut] at hv;rcases List.mem_append.1 hv with hv | hv
           . exact g5 v hv
           . exact k4 v hv
   . cases hs
theorem tC {w:World} {F:Nat->Prop} {ek:Option Nat} {zs:List CV} {cs:List Value} (h:RCs w F zs cs) (hl:cs.length=j0 ek) (h1:∀ v∈cs,v.oneCell'=true) :
 ∃ y u,A2 ek zs=some y/\u.cells.toList=cs/\Shape ek u/\RC w F y u:=by
 cases ek with
 | none=>
   simp only [j0] at hl;match cs,hl,h,h1 with
   | [v],_,h,h1=>
     cases zs with
     | nil=>rw [rcs_nil] at h;cases h
     | cons z zs=>
       rw [rcs_cons] at h;obtain ⟨v',us,e,k1,k2⟩:=h;injection e with e1 e2;subst e1;subst e2;have ho:=h1 v (by simp);refine ⟨z,v,rfl,?_,ho,k1⟩;cases v<;>first | rfl | (simp [Value.oneCell'] at ho)
 | some n=>
   exact ⟨.agg zs,.agg cs.toArray,rfl,by simp [Value.cells],⟨cs,rfl,hl,h1⟩,by unfold RC;exact ⟨cs,rfl,h,h1⟩⟩
theorem oD {n:Nat} {e:TypeId} {ek:Option Nat} {b:Nat} (hb:b<W.heap.size):∀ (l:List (List Value)) (off:Nat),(∀ cs∈l,V9 P W n e cs)->P.cellsOf e=j0 ek ->
 ∃ ys,ys.length=l.length/\RRow W (fun b=>b<W.heap.size) ek ys l.flatten/\∀ y∈ys,∃ zs,T0 P n e zs/\zs.length=j0 ek/\A2 ek zs=some y:=by
 intro l;induction l with
 | nil=>intro off _ _;exact ⟨[],rfl,by unfold RRow;rfl,by simp⟩
 | cons cs l ih=>
   intro off hg he;obtain ⟨zs,g1,g2,g3,g4,g5⟩:=hg cs (by simp);obtain ⟨ys,k1,k2,k3⟩:=ih (off+cs.length) (fun cs' h=>hg cs' (by simp [h])) he;obtain ⟨y,u,m1,m2,m3,m4⟩:=tC g2 (by rw [g3,he]) g5;refine ⟨y::ys,by simp [k1],?_,?_⟩
   . unfold RRow;exact ⟨u,l.flatten,by rw [m2];rfl,m3,m4,k2⟩
   . intro y' hy;rcases List.mem_cons.1 hy with rfl | hy
     . exact ⟨zs,g1,by rw [g4,g3,he],m1⟩
     . exact k3 y' hy
theorem zc6 {b:Nat}:∀ (l:List (List Value)) (k off:Nat),(∀ cs∈l,cs.length=k)->(∀ (i:Nat) cs,l[i]?=some cs->W.rangeAt b (off+i * k) cs)->W.rangeAt b off l.flatten:=by
 intro l;induction l with
 | nil=>intro k off _ _ j v h;simp at h
 | cons c l ih=>
   intro k off hl hr j v hv;have hc:c.length=k:=hl c (by simp);by_cases hj:j<k
   . have h0:=hr 0 c (by simp);have:c[j]?=some v:=by
      rw [List.flatten_cons,List.getElem?_append_left (by omega)] at hv;exact hv
     have:=h0 j v this;simpa using this
   . rw [List.flatten_cons,List.getElem?_append_right (by omega),hc] at hv;have:=ih k (off+k) (fun cs h=>hl cs (by simp [h])) (fun i cs h=>by
      have:=hr (i+1) cs (by simpa using h);rw [Nat.succ_mul] at this;have e:off+(i * k+k)=off+k+i * k:=by omega
      rw [e] at this;exact this) (j - k) v hv
     have e:off+k+(j - k)=off+j:=by omega
     rw [e] at this;exact this
theorem trod_good {spare:Nat->Bool} {S:List TypeId} (hS:qM P S=true):∀ (fuel:Nat) (t:TypeId) (cs:List Value) (x:DataW H×List MemPlace),S.contains t=true->DataW.trod enc P W 0 spare true fuel t cs=some x->V9 P W fuel t cs:=by
 intro fuel;induction fuel with
 | zero=>intro t cs x _ h;cases h
 | succ fuel ih0=>
    intro t cs x ht h;have hs:zI P S.contains t=true:=List.all_eq_true.1 hS t (by simpa using ht);have ih:∀ (t:TypeId) (cs:List Value) (x:DataW H×List MemPlace),S.contains t=true->DataW.trod enc P W 0 spare true fuel t cs=some x->V9 P W fuel t cs:=ih0;unfold zI at hs;unfold DataW.trod at h;unfold V9 T0;cases hu:P.underlying t with
    | none=>rw [hu] at hs;cases hs
    | some td=>
      rw [hu] at hs h;cases td with
      | bool=>
        dsimp only at hs h ⊢;have hs:P.cellsOf t=1:=by simpa using hs
        split at h<;>rename_i heq<;>(try cases heq)
        . rename_i b;exact ⟨[.bool b],⟨b,rfl⟩,rcs_cons.2 ⟨_,[],rfl,rc_bool.2 rfl,rcs_nil.2 rfl⟩,by simp [hs],rfl,by simp [Value.oneCell']⟩
        . cases h
      | int k=>
        dsimp only at hs h ⊢;have hs:P.cellsOf t=1:=by simpa using hs
        split at h<;>rename_i heq<;>(try cases heq)
        . rename_i k' m;split at h
          . rename_i hw;obtain ⟨rfl,hw⟩:=hw;exact ⟨[.int k' m],⟨m,rfl,hw⟩,rcs_cons.2 ⟨_,[],rfl,by unfold RC;rfl,rcs_nil.2 rfl⟩,by simp [hs],rfl,by simp [Value.oneCell']⟩
          . cases h
        . cases h
      | string=>
        dsimp only at hs h ⊢;have hs:P.cellsOf t=1:=by simpa using hs
        split at h<;>rename_i heq<;>(try cases heq)
        . rename_i sx;split at h
          . rename_i hw;exact ⟨[.str sx.data.toList],⟨sx.data.toList,rfl,by simpa using hw⟩,rcs_cons.2 ⟨_,[],rfl,by unfold RC;simp,rcs_nil.2 rfl⟩,by simp [hs],rfl,by simp [Value.oneCell']⟩
          . cases h
        . cases h
      | slice e=>
        dsimp only at hs h ⊢;simp only [Bool.and_eq_true,beq_iff_eq,decide_eq_true_eq] at hs;obtain ⟨⟨⟨hs1,hs2⟩,hs3⟩,hs4⟩:=hs;obtain ⟨ek,hek⟩:=Option.isSome_iff_exists.1 hs3;have hsz:=aM hek;split at h<;>rename_i heq<;>(try cases heq)
        . exact ⟨[.frz ek []],⟨ek,[],rfl,Nat.zero_le _,hek,by simp⟩,rcs_cons.2 ⟨_,[],rfl,by unfold RC;exact ⟨none,0,rfl,Nat.le_refl _,fun hh=>absurd rfl hh⟩,rcs_nil.2 rfl⟩,by simp [hs1],rfl,by simp [Value.oneCell']⟩
        . rename_i ad len cap;split at h
          . rename_i hc;obtain ⟨_,hlc,hcap⟩:=hc;cases hm:(List.range len).mapM (fun i=>(W.cells? 0 (ad.add (i * P.cellsOf e)) (P.cellsOf e)).bind (DataW.trod enc P W 0 spare true fuel e)) with
            | none=>rw [hm] at h;cases h
            | some elems=>
              obtain ⟨m1,m2⟩:=mM hm;by_cases hlen:len=0
              . subst hlen;exact ⟨[.frz ek []],⟨ek,[],rfl,Nat.zero_le _,hek,by simp⟩,rcs_cons.2 ⟨_,[],rfl,by unfold RC;exact ⟨some ad,cap,rfl,Nat.zero_le _,fun hh=>absurd rfl hh⟩,rcs_nil.2 rfl⟩,by simp [hs1],rfl,by simp [Value.oneCell']⟩
              . have hget:∀ i,i<len->∃ cs,W.cells? 0 (ad.add (i * P.cellsOf e)) (P.cellsOf e)=some cs/\V9 P W fuel e cs:=by
                 intro i hi;obtain ⟨y,_,hy⟩:=m2 i i (by simp [hi]);cases hcs:W.cells? 0 (ad.add (i * P.cellsOf e)) (P.cellsOf e) with
                 | none=>rw [hcs] at hy;cases hy
                 | some cs=>rw [hcs] at hy;exact ⟨cs,rfl,ih e cs y hs2 hy⟩
                have hspot:ad.spot=none/\ad.block<W.heap.size:=by
                 obtain ⟨cs,hcs,_⟩:=hget 0 (by omega);obtain ⟨_,g2,g3,_⟩:=sC hcs hs4;have e1:ad.add (0 * P.cellsOf e)=ad:=by
                  rw [Nat.zero_mul];unfold Addr.add;split<;>simp_all
                 rw [e1] at g2 g3;exact ⟨g2,g3⟩
                have hea:ad=⟨ad.block,ad.off,none⟩:=by cases ad;simp at hspot;obtain ⟨rfl,_⟩:=hspot;rfl
                have hget2:∀ i,i<len->∃ cs,cs.length=P.cellsOf e/\W.rangeAt ad.block (ad.off+i * P.cellsOf e) cs/\V9 P W fuel e cs:=by
                 intro i hi;obtain ⟨cs,hcs,hg⟩:=hget i hi;obtain ⟨g1,_,_,g4⟩:=sC hcs hs4;rw [hea,Addr.add_mid] at g4;exact ⟨cs,g1,g4,hg⟩
                let row:Nat->List Value:=fun i=>if hi:i<len then Classical.choose (hget2 i hi) else []
                have hrow:∀ i,i<len->(row i).length=P.cellsOf e/\W.rangeAt ad.block (ad.off+i * P.cellsOf e) (row i)/\V9 P W fuel e (row i):=by
                 intro i hi;simp only [row,dif_pos hi];exact Classical.choose_spec (hget2 i hi)
                obtain ⟨ys,k1,k2,k3⟩:=oD (ek:=ek) hspot.2 ((List.range len).map row) ad.off (by
                 intro cs hcs;obtain ⟨i,hi,rfl⟩:=List.mem_map.1 hcs;exact (hrow i (by simpa using hi)).2.2) hsz.symm
                have hylen:ys.length=len:=by simpa using k1
                refine ⟨[.frz ek ys],⟨ek,ys,rfl,by omega,hek,k3⟩,rcs_cons.2 ⟨_,[],rfl,?_,rcs_nil.2 rfl⟩,by simp [hs1],rfl,by simp [Value.oneCell']⟩;unfold RC;refine ⟨some ad,cap,by rw [hylen],by omega,fun _=>⟨ad.block,ad.off,((List.range len).map row).flatten,by rw [<-hea],hspot.2,?_,k2⟩⟩;refine zc6 _ (P.cellsOf e) ad.off ?_ ?_
                . intro cs hcs;obtain ⟨i,hi,rfl⟩:=List.mem_map.1 hcs;exact (hrow i (by simpa using hi)).1
                . intro i cs hcs;simp only [List.getElem?_map,Option.map_eq_some_iff] at hcs;obtain ⟨j,hj,rfl⟩:=hcs;have hil:i<len:=by
                   have:=(gEs hj).1;simpa using this
                  rw [List.getElem?_range hil] at hj;injection hj with hj;subst hj;exact (hrow i hil).2.1
          . cases h
        . cases h
      | struct fs=>
        dsimp only at hs h ⊢;have hs:S4 S.contains P 0 fs.toList=some (P.cellsOf t):=by simpa using hs
        split at h
        . rename_i hl;cases hm:(fs.toList.mapM fun f=>DataW.trod enc P W 0 spare true fuel f.type ((cs.drop f.offset).take (P.cellsOf f.type))) with
          | none=>rw [hm] at h;cases h
          | some xs=>
            obtain ⟨ys,k1,k2,k3,k4⟩:=eZ (r:=DataW.trod enc P W 0 spare true fuel) (ok:=S.contains) (n:=fuel) (fun t cs x hok hx=>ih t cs x hok hx) fs.toList 0 (P.cellsOf t) cs xs hs hl (Nat.zero_le _) hm;simp only [List.drop_zero] at k2 k3 k4;exact ⟨ys,k1,k2,hl,k3,k4⟩
        . cases h
      | _=>cases hs
end
end Go.Proofs.Lz
namespace Go.Proofs.Lz
variable [GlobTab]
open Go.ChangeShapes Go.WideShapes Go.RowKit
def kV (P:Program) (t:TypeId) (x:CV):Prop:=∃ n zs ek,x5 P t=some ek/\T0 P n t zs/\zs.length=j0 ek/\A2 ek zs=some x
def zG (P:Program):List TypeId->List CV->Prop
 | [],[]=>True
 | t::ts,x::xs=>kV P t x/\zG P ts xs
 | _,_=>False
section
variable {H:Type} {enc:TypeId×Value->H} {P:Program} {W:World}
theorem zw0 {spare:Nat->Bool} {S:List TypeId} (hS:qM P S=true) {base:Nat} {t:TypeId} {v:Value} {d:DataW H} {ps:List MemPlace} (ht:S.contains t=true) (he:(x5 P t).isSome=true) (hok:Value.okWide P W .any base t v)
 (h:DataW.Trod enc P W 0 spare true t v d ps):∃ x,kV P t x/\RC W (fun b=>b<W.heap.size) x v:=by
 obtain ⟨fuel,h⟩:=h;have hs:zI P S.contains t=true:=List.all_eq_true.1 hS t (by simpa using ht);obtain ⟨zs,g1,g2,g3,g4,g5⟩:=trod_good hS fuel t _ _ ht h;obtain ⟨ek,hek⟩:=Option.isSome_iff_exists.1 he;have hsz:=aM hek;obtain ⟨y,u,m1,m2,m3,m4⟩:=tC (ek:=ek) g2 (by rw [g3,hsz]) g5;refine ⟨y,⟨fuel,zs,ek,hek,g1,by rw [g4,g3,hsz],m1⟩,?_⟩;have huv:u=v:=by
  cases ek with
  | some k=>
    obtain ⟨cs,rfl,_,_⟩:=m3;have hst:∃ fs,P.underlying t=some (.struct fs):=by
     unfold x5 at hek;split at hek
     . rename_i fs _ hu _;exact ⟨fs,hu⟩
     . rename_i k' e' _ hu _;exfalso;unfold zI at hs;rw [hu] at hs;cases hs
     . split at hek<;>cases hek
     . cases hek
    obtain ⟨fs,hst⟩:=hst;unfold Value.okWide at hok;rw [hst] at hok;obtain ⟨cs',rfl,_,_⟩:=hok;simp only [Value.cells] at m2;congr 1;exact Array.ext' m2
  | none=>
    have hone:v.oneCell'=true:=by
     unfold zI at hs;unfold x5 at hek;unfold Value.okWide at hok;cases hu:P.underlying t with
     | none=>rw [hu] at hs;cases hs
     | some td=>
       rw [hu] at hs hok hek;cases td<;>first | (cases hs;done) | (cases v<;>first | rfl | (simp [Cell.okWide,Cell.ok,hu] at hok;done) | skip)
       all_goals (first | rfl | (exfalso;cases hi:P.info? t<;>rw [hi] at hek<;>simp at hek))
    have h1:u.cells.toList=[u]:=by
     have:u.oneCell'=true:=m3;cases u<;>first | rfl | (simp [Value.oneCell'] at this)
    have h2:v.cells.toList=[v]:=by cases v<;>first | rfl | (simp [Value.oneCell'] at hone)
    rw [h1,h2] at m2;injection m2
 rw [<-huv];exact m4
theorem rG {spare:Nat->Bool} {S:List TypeId} (hS:qM P S=true) {base:Nat}:∀ {ts:List TypeId} {vs:List Value} {ds:List (DataW H)} {ps:List MemPlace},DataW.TrodAll enc P W 0 spare true ts vs ds ps ->
 (∀ t∈ts,S.contains t=true/\(x5 P t).isSome=true)->(∀ (j:Nat) t v,ts[j]?=some t->vs[j]?=some v->Value.okWide P W .any base t v) ->
 ∃ xs,zG P ts xs/\RCs W (fun b=>b<W.heap.size) xs vs/\ds.length=ts.length
 | [],_,_,_,h,_,_=>by
   obtain ⟨rfl,rfl,rfl⟩:=trodAll_nil h;exact ⟨[],trivial,rcs_nil.2 rfl,rfl⟩
 | t::ts,_,_,_,h,hs,hok=>by
   obtain ⟨v,vs1,d,ds1,a,b,rfl,rfl,rfl,h1,h2⟩:=trodAll_cons h;obtain ⟨x,k1,k2⟩:=zw0 hS (hs t (by simp)).1 (hs t (by simp)).2 (hok 0 t v rfl rfl) h1;obtain ⟨xs,k3,k4,k5⟩:=rG hS h2 (fun t' ht=>hs t' (by simp [ht])) (fun j t' v' ht hv=>hok (j+1) t' v' (by simpa using ht) (by simpa using hv));exact ⟨x::xs,⟨k1,k3⟩,rcs_cons.2 ⟨v,vs1,rfl,k2,k4⟩,by simp [k5]⟩
theorem lB (hl:laidOutB P=true) {W':World} (hb:Below W.heap.size W W'):∀ {ts:List TypeId} {vs:List Value} {ds:List (DataW H)} {ps:List MemPlace},DataW.TrodAll enc P W 0 (fun _=>true) true ts vs ds ps ->
 (∀ t∈ts,P.readableRec t=true/\t<P.types.size)->(∀ x∈ps,x.block<W.heap.size)->DataW.TrodAll enc P W' 0 (fun b=>decide (b<W.heap.size)) true ts vs ds ps
 | [],_,_,_,h,_,_=>by
   obtain ⟨rfl,rfl,rfl⟩:=trodAll_nil h;exact rfl
 | t::ts,_,_,_,h,hs,hlt=>by
   obtain ⟨v,vs1,d,ds1,a,b,rfl,rfl,rfl,h1,h2⟩:=trodAll_cons h;exact ⟨a,b,Below.trod hl (hs t (by simp)).1 (hs t (by simp)).2 h1 hb (fun x hx=>hlt x (by simp [hx])),lB hl hb h2 (fun t' ht=>hs t' (by simp [ht])) (fun x hx=>hlt x (by simp [hx])),rfl⟩
theorem ze2 {F F':Nat->Prop} {H':q7} {m m':j7} {W':World} (st:Stp W.heap.size F F' [] H' m m' W W'):Below W.heap.size W W':=
 ⟨st.os,st.tape,st.output,st.size,fun b hb=>(st.far b hb (fun id h=>by simp at h)).1⟩
theorem zx3 (hl:laidOutB P=true) {fn:Func} {s:ChangeSpec} {fresh handsOn:Bool} {W':World} {args:Array Value} {ds gs:List (DataW H)} {before:List MemPlace} {tb:TypeId}
 (hps:∀ t∈fn.params.toList,P.readableRec t=true/\t<P.types.size) (hres:fn.resultTypes=#[tb]) (htb:P.underlying tb=some .bool) (hv:s.vars=[])
 (hsp:∀ (ds:List (DataW H)),ds.length=fn.params.toList.length->s.fn H ds={ results:=[.lit (.bool true)],args:=ds }) (hlen:ds.length=fn.params.toList.length)
 (hW:DataW.Whole enc P fn.params.toList s.vars false W args.toList ds gs before) (hb:Below W.heap.size W W'):s.post enc P fn false fresh handsOn false W args (.bool true) W':=by
 have hW':=hW;obtain ⟨p,q,hA,hV,rfl,hz,_⟩:=hW;rw [hv] at hV;obtain ⟨rfl,rfl⟩:=trodVars_none hV;have hlt:∀ x∈p,x.block<W.heap.size:=fun x hx=>hW'.lt x (by simp [hx]);have e:s.fn H (ds++[])={ results:=[.lit (.bool true)],args:=ds }:=by rw [List.append_nil];exact hsp ds hlen
 refine ⟨ds,[],p++[],[],p,[],hW',?_,?_,?_,hb.frame _,fun h=>by cases h⟩
 . rw [e,hres];exact trodAll_mk1 (shut_bool htb true)
 . rw [e];exact lB hl hb hA hps hlt
 . rw [e,hv];exact (rfl:([]:List MemPlace)=[])
end
end Go.Proofs.Lz
namespace Go.Proofs.Lz
variable [GlobTab]
open Go.ChangeShapes Go.WideShapes Go.RowKit
section
variable {H:Type} {enc:TypeId×Value->H} {P:Program} {W:World}
theorem q21 {E:Env} (hE:EnvOk P E) {S:List TypeId} (hS:qM P S=true) (hl:laidOutB P=true) {f:FuncId} {fn:Func} {s:ChangeSpec} {fresh handsOn:Bool} {args:Array Value} {ds gs:List (DataW H)} {before:List MemPlace} {tb:TypeId} {base:Nat}
 (hps:∀ t∈fn.params.toList,S.contains t=true/\(x5 P t).isSome=true/\P.readableRec t=true/\t<P.types.size) (hres:fn.resultTypes=#[tb]) (htb:P.underlying tb=some .bool) (hv:s.vars=[])
 (hsp:∀ (ds:List (DataW H)),ds.length=fn.params.toList.length->s.fn H ds={ results:=[.lit (.bool true)],args:=ds })
 (law:∀ xs,zG P fn.params.toList xs->RCs W (fun b=>b<W.heap.size) xs args.toList->∃ H',ev E f (xs.map .c) []=some (.c (.bool true),H'))
 (hval:∀ (j:Nat) t v,fn.params[j]?=some t->args[j]?=some v->Value.okWide P W .any base t v) (hG:Glob W (fun b=>b<W.heap.size))
 (hW:DataW.Whole enc P fn.params.toList s.vars false W args.toList ds gs before) :
 Calls P f args W fun e W'=>∃ v,e=.returned v/\s.post enc P fn false fresh handsOn false W args v W':=by
 have hW':=hW;obtain ⟨p,q,hA,_⟩:=hW;obtain ⟨xs,k1,k2,k3⟩:=rG hS hA (fun t ht=>⟨(hps t ht).1,(hps t ht).2.1⟩) (fun j t v ht hv=>hval j t v (by simpa using ht) (by simpa using hv));obtain ⟨H',he⟩:=law xs k1 k2;obtain ⟨m,hm⟩:=z86 he;have hrh:RHs W (fun b=>b<W.heap.size) [] (fun _=>⟨0,0⟩) (xs.map .c) args.toList:=by
  have:∀ {xs:List CV} {vs:List Value},RCs W (fun b=>b<W.heap.size) xs vs->RHs W (fun b=>b<W.heap.size) [] (fun _=>⟨0,0⟩) (xs.map .c) vs:=by
   intro xs;induction xs with
   | nil=>intro vs h;rw [rcs_nil] at h;subst h;exact rhs_nil.2 rfl
   | cons x xs ih=>
     intro vs h;rw [rcs_cons] at h;obtain ⟨v,us,rfl,h1,h2⟩:=h;exact rhs_cons.2 ⟨v,us,rfl,rh_c.2 h1,ih h2⟩
  exact this k2
 have hg:=bF hE m f _ [] _ H' hm W (fun b=>b<W.heap.size) (fun _=>⟨0,0⟩) args.toList (xT _ (fun b hb=>hb) hG) hrh;obtain ⟨_,hc⟩:=hg;have ea:args.toList.toArray=args:=by simp
 rw [ea] at hc;refine hc.mono fun e W' ⟨v,F',m',he,st,_,hr,_⟩=>⟨v,he,?_⟩;rw [rh_c,rc_bool] at hr;subst hr;exact zx3 hl (fun t ht=>(hps t ht).2.2) hres htb hv hsp k3 hW' (ze2 st)
end
end Go.Proofs.Lz
