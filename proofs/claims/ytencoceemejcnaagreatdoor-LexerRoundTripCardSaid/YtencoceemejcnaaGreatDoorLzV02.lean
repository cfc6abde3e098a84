/- Chapter 02: the environment: compiled functions, strings.Builder by hand, library functions told. -/
import Derived.Test.YtencoceemejcnaaGreatDoorLzExt
import Derived.Shelf.Strconv.AtoiAll
import Derived.Shelf.Strconv.Itoa3
import Derived.Shelf.Strings.Shaped
import Derived.Test.YtencoceemejcnaaGreatDoorLzSimp
import Derived.Shelf.Strings.Builder1
import Derived.Test.YtencoceemejcnaaGreatDoorLzCode02
import Derived.Test.YtencoceemejcnaaGreatDoorLzLays02
import Derived.Test.YtencoceemejcnaaGreatDoorLzWCode
set_option linter.unusedVariables false
set_option linter.unusedSimpArgs false
set_option linter.unusedSectionVars false
namespace Go.Proofs.Lz
open Go.Shelf Go.Sort
variable [GlobTab]
section
variable {P:Program} {ρ:Ren} {f:Nat} {w:World} {F:Nat→Prop}
theorem rcs1 {a:CV} {vs:List Value} (h:RCs w F [a] vs):∃ u,vs=[u]∧RC w F a u:=by
 rw [rcs_cons] at h
 obtain ⟨u,us,rfl,h1,h⟩:=h
 rw [rcs_nil] at h
 subst h
 exact ⟨u,rfl,h1⟩
theorem jl1 (w:World) (k:Nat) (os:Array Obj):RowKit.Below w.heap.size w (grow (w.drewN k) os):=
 ⟨rfl,rfl,rfl,by simp [grow,World.drewN],fun j hj=>by
  simp only [grow,World.drewN]
  rw [Array.getElem?_append_left hj]⟩
theorem j68 (w:World) (k:Nat):RowKit.Below w.heap.size w (w.drewN k):=⟨rfl,rfl,rfl,Nat.le_refl _,fun _ _=>rfl⟩
theorem wa8 {us:List CV} {vs:List Value} (hen:∀ args w,(callFunc f args).run P w=.ok (.enter f args) w)
 (hF:∀ b,F b→b<w.heap.size)
 (hc:Calls P f vs.toArray w fun e w'=>∃ rs:List Value,e=.returned (oneV rs)∧RowKit.Below w.heap.size w w'∧RCs w' F us rs) :
 (callFunc f vs.toArray).run P w=.ok (.enter f vs.toArray) w∧Calls P f vs.toArray w (fun e w'=>∃ rs:List Value,e=.returned (oneV rs)∧RowKit.Below w.heap.size w w'∧∃ F':Nat→Prop,(∀ b,F' b→F b∨(w.heap.size≤b∧b<w'.heap.size))∧RCs w' F' us rs):=
 ⟨hen _ _,hc.mono fun e w' ⟨rs,h1,h2,h3⟩=>⟨rs,h1,h2,F,fun b hb=>.inl hb,h3⟩⟩
def jx4:List CV→Option (List CV)
 | [.int .i64 n]=>if -9223372036854775808≤n∧n≤9223372036854775807 then some [.str (Lib.itoa n)] else none
 | _=>none
theorem wf9 (L:LaysM.n171 P ρ) (hf:ρ.f 171=f) (hen:∀ args w,(callFunc f args).run P w=.ok (.enter f args) w)
 (hT:∀ (w:World) (F:Nat→Prop),Glob w F→Lib.TabIs P w "internal/strconv.uint64pow10" .u64 Lib.pow10Tab):qh1 P f jx4:=by
 subst hf
 intro xs us h w F vs hF hG hr
 unfold jx4 at h
 split at h
 · rename_i n
   split at h
   · rename_i hn
     injection h with h;subst h
     obtain ⟨u,rfl,h1⟩:=rcs1 hr
     rw [zc7] at h1
     subst h1
     refine told (us:=[]) (v:=.string ⟨(Lib.itoa n).toArray⟩) (fun w'=>by rw [ze5]) hF hen ?_
     refine (Any.strconv_Itoa L n hn.1 hn.2 w (hT w F hG)).mono ?_
     rintro e w' ⟨rfl,k,os,rfl⟩
     exact ⟨rfl,jl1 w k os⟩
   · cases h
 · cases h
def qs0:List CV→Option (List CV)
 | [.str s]=>if s.length≤281474976710656 then match Lib.atoiAll s with
    | .ok v=>some [.int .i64 v,.nili]
    | .range=>some [.int .i64 (Lib.atoiSat s),.opq]
    | _=>some [.int .i64 0,.opq]
   else none
 | _=>none
theorem wg9 (L:LaysC.n172 P ρ) (hf:ρ.f 172=f) (hen:∀ args w,(callFunc f args).run P w=.ok (.enter f args) w)
 (h15:∀ (w:World) (F:Nat→Prop),Glob w F→∃ ev,w.cell? ⟨(ρ.g 15),0,none⟩=some ev∧(ev=.nilIface∨∃ te pe,ev=.iface te pe))
 (h16:∀ (w:World) (F:Nat→Prop),Glob w F→∃ ev,w.cell? ⟨(ρ.g 16),0,none⟩=some ev∧(ev=.nilIface∨∃ te pe,ev=.iface te pe)):qh1 P f qs0:=by
 subst hf
 intro xs us h w F vs hF hG hr
 unfold qs0 at h
 split at h
 · rename_i s
   split at h
   · rename_i hn
     obtain ⟨u,rfl,h1⟩:=rcs1 hr
     rw [ze5] at h1
     subst h1
     have hsz:(⟨s.toArray⟩:ByteArray).size=s.length:=by simp [ByteArray.size]
     cases ha:Lib.atoiAll s with
     | ok v=>
       rw [ha] at h
       injection h with h;subst h
       refine wa8 hen hF ?_
       refine (Any.strconv_Atoi_ok L ⟨s.toArray⟩ (by rw [hsz];omega) v (by rw [zt6];exact ha) w).mono ?_
       rintro e w' ⟨rfl,hw⟩
       refine ⟨[.int .i64 v,.nilIface],rfl,?_,?_⟩
       · rcases hw with rfl | ⟨t,rfl⟩
         · exact RowKit.Below.refl _ _
         · exact Lib.bytesWorld_below _ _ _
       · rw [rcs_cons]
         refine ⟨_,_,rfl,by rw [zc7],?_⟩
         rw [rcs_cons]
         exact ⟨_,_,rfl,by unfold RC;rfl,rcs_nil.2 rfl⟩
     | range=>
       rw [ha] at h
       injection h with h;subst h
       refine wa8 hen hF ?_
       obtain ⟨ev,c1,c2⟩:=h16 w F hG
       refine (Any.strconv_Atoi_range L ⟨s.toArray⟩ (by rw [hsz];omega) (by rw [zt6];exact ha) ev w c1 c2).mono ?_
       rw [zt6]
       rintro e w' ⟨N,rfl,_,_,hw⟩
       refine ⟨[.int .i64 (Lib.atoiSat s),.iface (ρ.t 168) (.pointer (some ⟨N,0,none⟩))],rfl,hw,?_⟩
       rw [rcs_cons]
       refine ⟨_,_,rfl,by rw [zc7],?_⟩
       rw [rcs_cons]
       exact ⟨_,_,rfl,by unfold RC;exact ⟨_,_,rfl⟩,rcs_nil.2 rfl⟩
     | _=>
       rw [ha] at h
       injection h with h;subst h
       refine wa8 hen hF ?_
       obtain ⟨ev,c1,c2⟩:=h15 w F hG
       refine (Any.strconv_Atoi_syntax L ⟨s.toArray⟩ (by rw [hsz];omega) (by rw [zt6];exact ha) ev w c1 c2).mono ?_
       rintro e w' ⟨N,rfl,_,_,hw⟩
       refine ⟨[.int .i64 0,.iface (ρ.t 168) (.pointer (some ⟨N,0,none⟩))],rfl,hw,?_⟩
       rw [rcs_cons]
       refine ⟨_,_,rfl,by rw [zc7],?_⟩
       rw [rcs_cons]
       exact ⟨_,_,rfl,by unfold RC;exact ⟨_,_,rfl⟩,rcs_nil.2 rfl⟩
   · cases h
 · cases h
def cutG:List CV→Option (List CV)
 | [.str s,.str p]=>if s.length<4294967281 then some [.str (Lib.cut s p).1,.str (Lib.cut s p).2.1,.bool (Lib.cut s p).2.2] else none
 | _=>none
theorem wv7 (L:Lays.n145 P ρ) (hf:ρ.f 145=f) (hen:∀ args w,(callFunc f args).run P w=.ok (.enter f args) w)
 (h1g:∀ (w:World) (F:Nat→Prop),Glob w F→∃ m:Int,w.cell? ⟨(ρ.g 1),0,none⟩=some (.int .i64 m)):qh1 P f cutG:=by
 subst hf
 intro xs us h w F vs hF hG hr
 unfold cutG at h
 split at h
 · rename_i s p
   split at h
   · rename_i hn
     injection h with h;subst h
     obtain ⟨u,v,rfl,h1,h2⟩:=rcs2 hr
     rw [ze5] at h1 h2
     subst h1;subst h2
     obtain ⟨m,hm⟩:=h1g w F hG
     refine wa8 hen hF ?_
     refine (Any.strings_Cut L ⟨s.toArray⟩ ⟨p.toArray⟩ m w (by simpa [ByteArray.size] using hn) hm).mono ?_
     rw [zt6,zt6]
     rintro e w' ⟨rfl,n,rfl⟩
     refine ⟨[.string ⟨(Lib.cut s p).1.toArray⟩,.string ⟨(Lib.cut s p).2.1.toArray⟩,.bool (Lib.cut s p).2.2],rfl,j68 w n,?_⟩
     rw [rcs_cons]
     refine ⟨_,_,rfl,by rw [ze5],?_⟩
     rw [rcs_cons]
     refine ⟨_,_,rfl,by rw [ze5],?_⟩
     rw [rcs_cons]
     exact ⟨_,_,rfl,by rw [rc_bool],rcs_nil.2 rfl⟩
   · cases h
 · cases h
theorem j66 {g:Nat} {p:List Value→Prop} (h:(g,p)∈GlobTab.tab) (hG:Glob w F):∃ vs,vs≠[]∧(∀ off,w.cell? ⟨g,off,none⟩=vs[off]?)∧p vs:=(hG _ h).2
theorem w33 {g:Nat} {p:List Value→Prop} {name:String} (h:(g,p)∈GlobTab.tab) (hn:P.globalNamed name=some g) (hG:Glob w F):∃ vs,p vs∧w.var? P name=some vs.toArray:=by
 obtain ⟨vs,h1,h2,h3⟩:=j66 h hG
 obtain ⟨t,q,hb⟩:=j86 h1 h2
 exact ⟨vs,h3,by simp [World.var?,hn,hb]⟩
end
end Go.Proofs.Lz
namespace Go.Proofs.Lz
variable [GlobTab]
open Go.Shelf
theorem je3 {a:Option Nat} {n k:Nat} {o:Option IFn} (h:(arFn a n o).isSome=true) (ha:a=some k):n=k:=by
 cases hf:arFn a n o with
 | none=>rw [hf] at h;cases h
 | some g=>exact (qy7 hf).2 k ha
def ccA (T:Nat):List IOper:=[⟨some 1,none,.tyck T 2 (.t 0)⟩,⟨some 2,none,.faddr 0 (.t 1)⟩,⟨some 3,none,.load none (.t 2)⟩,⟨some 4,none,.isn false 0 (.t 3)⟩]
def ccB:ICode:=.cond (.t 4) (.region [⟨none,none,.store none (.t 2) (.t 1)⟩]) (.seq (.region [⟨some 5,none,.peq (.t 3) (.t 1)⟩]) (.cond (.t 5) .skip (.exit 0)))
def ccI (T:Nat):IFn:={ body:=.seq (.region (ccA T)) ccB,res:=[] }
theorem wq2 {E:Env} {call:za0} {it:Run→Run} {f T:Nat} {v:HV} {H:Heap} {r:HV} {H':Heap} (hf:E.fnA f 1=some (ccI T)) (h:q44 E call it f [v] H=some (r,H')) :
 ∃ id ek a cs,v=.ptr id 0∧H[id]?=some (.var ek (a::cs))∧cs.length=1∧tyOf ek=some T∧r=.tup []∧((a=.c .nilp∧H'=H.set id (.var ek (.ptr id 0::cs)))∨(a=.ptr id 0∧H'=H)):=by
 unfold q44 at h
 simp only [List.length_cons,List.length_nil,Nat.zero_add,hf,ccI,ccA,ccB] at h
 cases v with
 | ptr id off=>
   cases off with
   | zero=>
     cases hH:H[id]? with
     | none=>simp [evC,zd9,stp,doOp,z40,Fr.opd,binds,za7,zc9,hH] at h
     | some ho=>
       cases ho with
       | row=>simp [evC,zd9,stp,doOp,z40,Fr.opd,binds,za7,zc9,hH] at h
       | var ek cs=>
         by_cases hT:tyOf ek=some T∧cs.length=2
         · obtain ⟨hT,hln⟩:=hT
           cases cs with
           | nil=>cases hln
           | cons a cs=>
             have hl1:cs.length=1:=by simpa using hln
             have hT2:tyOf ek=some T∧(a::cs).length=2:=⟨hT,hln⟩
             cases a with
             | c cv=>
               cases cv with
               | nilp=>
                 have hid:=(List.getElem?_eq_some_iff.1 hH).1
                 simp [evC,zd9,stp,doOp,z40,Fr.opd,binds,za7,zc9,hH,hT,hl1,Fr.put,upd,Fr.place,noAl,zc8,zj7,nilH,nilC,zo3,zk1,HV.flat,zb0,zn6,oneOf] at h
                 obtain ⟨rfl,rfl⟩:=h
                 exact ⟨id,ek,_,cs,rfl,hH,hl1,hT,rfl,.inl ⟨rfl,rfl⟩⟩
               | frz k xs=>cases xs<;>simp [evC,zd9,stp,doOp,z40,Fr.opd,binds,za7,zc9,hH,hT,hl1,Fr.put,upd,Fr.place,noAl,zc8,zj7,nilH,nilC] at h
               | _=>simp [evC,zd9,stp,doOp,z40,Fr.opd,binds,za7,zc9,hH,hT,hl1,Fr.put,upd,Fr.place,noAl,zc8,zj7,nilH,nilC] at h
             | ptr id' off'=>
               by_cases he:id'=id∧off'=0
               · obtain ⟨rfl,rfl⟩:=he
                 simp [evC,zd9,stp,doOp,z40,Fr.opd,binds,za7,zc9,hH,hT,hl1,Fr.put,upd,Fr.place,noAl,zc8,zj7,nilH,nilC,zn6,oneOf] at h
                 obtain ⟨rfl,rfl⟩:=h
                 exact ⟨_,ek,_,cs,rfl,hH,hl1,hT,rfl,.inr ⟨rfl,rfl⟩⟩
               · simp [evC,zd9,stp,doOp,z40,Fr.opd,binds,za7,zc9,hH,hT,hl1,Fr.put,upd,Fr.place,noAl,zc8,zj7,nilH,nilC,he] at h
             | lbox k x=>simp [evC,zd9,stp,doOp,z40,Fr.opd,binds,za7,zc9,hH,hT,hl1,Fr.put,upd,Fr.place,noAl,zc8,zj7,nilH,nilC] at h
             | _=>simp [evC,zd9,stp,doOp,z40,Fr.opd,binds,za7,zc9,hH,hT,hl1,Fr.put,upd,Fr.place,noAl,zc8,zj7,nilH,nilC] at h
         · simp only [evC,zd9,stp,doOp,z40,Fr.opd,binds,za7,zc9,hH,if_neg hT,if_true] at h
           cases h
   | succ off=>simp [evC,zd9,stp,doOp,z40,Fr.opd,binds,za7,zc9] at h
 | _=>simp [evC,zd9,stp,doOp,z40,Fr.opd,binds,za7,zc9] at h
section
variable {P:Program} {w:World} {F:Nat→Prop} {H:Heap} {m:LMap}
theorem wh5 {E:Env} {f T:Nat} {ρ:Ren} (hf:E.fn f=some (ccI T)) (ha:E.ar f=some 1) (L:Lays.n240 P ρ) (X:Builder.X72 P ρ) (hff:ρ.f 240=f) (hT:ρ.t 72=T)
 (hen:∀ args w,(callFunc f args).run P w=.ok (.enter f args) w):jq0 P E f:=by
 subst hff;subst hT
 intro call it args H r H' hA h w F m vs hh hargs
 have hlen:=je3 hA ha
 obtain ⟨v,rfl⟩:∃ v,args=[v]:=by
  cases args with
  | nil=>simp at hlen
  | cons v l=>cases l with
    | nil=>exact ⟨v,rfl⟩
    | cons _ _=>simp at hlen
 rw [rhs_cons] at hargs
 obtain ⟨u,us,rfl,h1,h2⟩:=hargs
 rw [rhs_nil] at h2
 subst h2
 obtain ⟨id,ek,a,cs,rfl,hH,hl1,hty,rfl,hr⟩:=wq2 (T:=ρ.t 72) (by simp only [Env.fnA,hf,ha,arFn,if_true]) h
 unfold RH at h1
 obtain ⟨rfl,_⟩:=h1
 refine ⟨hen _ _,?_⟩
 obtain ⟨k1,xs,e,k2,k3,k4⟩:=hh.var id ek _ hH
 obtain ⟨xs',k5⟩:=hh.ty id ek _ _ hH hty
 rw [k2] at k5
 injection k5 with k5
 injection k5 with k5 k6 _
 subst k6
 rw [rhs_cons] at k3
 obtain ⟨x,xr,rfl,k7,k8⟩:=k3
 have hc0:w.cell? ⟨(m id).blk,0,none⟩=some x:=z90 (rest:=[]) (by simpa using k2) 0 x rfl
 rcases hr with ⟨rfl,rfl⟩ | ⟨rfl,rfl⟩
 · rw [rh_c] at k7
   unfold RC at k7
   subst k7
   have hptr:RH w F H m (.ptr id 0) (.pointer (some ⟨(m id).blk,0,none⟩)):=by unfold RH;exact ⟨rfl,ek,_,hH⟩
   have hset:w.setCell ⟨(m id).blk,0,none⟩ (.pointer (some ⟨(m id).blk,0,none⟩))=w.setRow (m id).blk (Value.pointer (some ⟨(m id).blk,0,none⟩)::xr).toArray:=by
    rw [setCell_eq_setRow w _ 0 _ _ _ _ k2]
    congr 1
   have hsh:w.shape? (m id).blk=some (ρ.t 72,2):=by
    have hx:=ze9 k8
    rw [hl1] at hx
    simp only [World.shape?,k2,List.size_toArray,List.length_cons,hx]
   obtain ⟨r1,r2⟩:=jx7 hh hH k2 (cs':=.ptr id 0::cs) (vs':=Value.pointer (some ⟨(m id).blk,0,none⟩)::xr) (by simp) (rhs_cons.2 ⟨_,_,rfl,hptr,k8⟩) (fun u hu=>by
    rcases List.mem_cons.1 hu with rfl | hu
    · rfl
    · exact k4 u (List.mem_cons_of_mem _ hu))
   refine (Any.Builder_copyCheck_fresh L X (m id).blk w hc0 hsh (Lib.frozen_of_heap k2 0)).mono ?_
   rintro e w' ⟨rfl,rfl⟩
   rw [hset]
   exact ⟨_,F,m,rfl,r2,r1,by unfold RH;exact ⟨[],rfl,rhs_nil.2 rfl⟩,by simp⟩
 · unfold RH at k7
   obtain ⟨rfl,_⟩:=k7
   refine (Any.Builder_copyCheck_used L X (m id).blk w hc0).mono ?_
   rintro e w' ⟨rfl,rfl⟩
   exact ⟨_,F,m,rfl,Stp.refl _ F _ m _,hh,by unfold RH;exact ⟨[],rfl,rhs_nil.2 rfl⟩,by simp⟩
end
section
open Go.RowKit
variable {P:Program} {ρ:Ren}
set_option maxHeartbeats 1000000 in
set_option maxRecDepth 100000 in
theorem j57 (L:Lays.n169 P ρ) (X:Builder.Extra P ρ) (b g cap:Nat) (p:Value) (cur:Array Value) (fz:Nat×Nat) (l:List UInt8) (w:World) (h0:l≠[]) (hcap:l.length≤cap) (hmax:cap≤maxLen)
 (hb:w.heap[b]?=some (.cells #[p,.slice (some ⟨g,0,none⟩) l.length cap] (ρ.t 72) (0,0))) (hg:w.heap[g]?=some (.cells cur (ρ.t 5) fz)) (hcs:l.length≤cur.size) (hcell:∀ j x,l[j]?=some x→w.cell? ⟨g,j,none⟩=some (.int .u8 x.toNat)) :
 Calls P (ρ.f 169) #[.pointer (some ⟨b,0,none⟩)] w fun e w'=>e=.returned (.string ⟨l.toArray⟩)∧w'=w.drew.freeze ⟨g,0,none⟩ l.length:=by
 have hl0:l.length≠0:=by simpa using h0
 have hb':w.drew.heap[b]?=some (.cells #[p,.slice (some ⟨g,0,none⟩) l.length cap] (ρ.t 72) (0,0)):=hb
 have c1:w.drew.cell? ⟨b,1,none⟩=some (.slice (some ⟨g,0,none⟩) l.length cap):=by rw [Lib.cell_of_heap hb'];rfl
 have hSD:=Lib.run_unsafeSliceData_row (P:=P) (w:=w.drew) #[(ρ.t 37)] (ρ.t 127) ⟨g,0,none⟩ l.length cap (by omega)
 have hsh:w.drew.shape? g=some (ρ.t 5,cur.size):=by
  have:w.drew.heap[g]?=some (.cells cur (ρ.t 5) fz):=hg
  simp [World.shape?,this]
 have hUS:=Lib.run_unsafeString_row (P:=P) w.drew (ρ.t 127) (ρ.t 3) (ρ.t 9) (ρ.t 5) L.t127 X.cellsByte g cur.size hsh l h0 hcs (by unfold maxLen at hmax;omega) (fun j x hx=>by
  have:=hcell j x hx
  rw [Addr.add_mid,Nat.zero_add]
  exact this)
 have mixed:=L.mixed
 have t72:=L.t72;have a72:=L.a72;have z72:=L.z72;have v72:=L.v72;have u72:=run_underlying L.t72
 have t70:=L.t70;have a70:=L.a70;have z70:=L.z70;have v70:=L.v70;have u70:=run_underlying L.t70
 have t37:=L.t37;have a37:=L.a37;have z37:=L.z37;have v37:=L.v37;have u37:=run_underlying L.t37
 have t127:=L.t127;have a127:=L.a127;have z127:=L.z127;have v127:=L.v127;have u127:=run_underlying L.t127
 have t3:=L.t3;have a3:=L.a3;have z3:=L.z3;have v3:=L.v3;have u3:=run_underlying L.t3
 have t9:=L.t9;have a9:=L.a9;have z9:=L.z9;have v9:=L.v9;have u9:=run_underlying L.t9
 go_enter L.f169,Body.n169_ntmps ρ
 go_wp2
 go_region_o
 all_goals (go_wp2;go_ret;exact ⟨rfl,rfl⟩)
set_option maxHeartbeats 1000000 in
set_option maxRecDepth 100000 in
theorem qz5 (L:Lays.n169 P ρ) (X:Builder.Extra P ρ) (b:Nat) (p:Value) (w:World)
 (hb:w.heap[b]?=some (.cells #[p,.slice none 0 0] (ρ.t 72) (0,0))) :
 Calls P (ρ.f 169) #[.pointer (some ⟨b,0,none⟩)] w fun e w'=>e=.returned (.string ⟨#[]⟩)∧w'=w.drew:=by
 have hb':w.drew.heap[b]?=some (.cells #[p,.slice none 0 0] (ρ.t 72) (0,0)):=hb
 have c1:w.drew.cell? ⟨b,1,none⟩=some (.slice none 0 0):=by rw [Lib.cell_of_heap hb'];rfl
 have hSD:=Lib.run_unsafeSliceData_nil (P:=P) (w:=w.drew) #[(ρ.t 37)] (ρ.t 127) 0 0
 have hUS:=Any.unsafeString_none L X
 have mixed:=L.mixed
 have t72:=L.t72;have a72:=L.a72;have z72:=L.z72;have v72:=L.v72;have u72:=run_underlying L.t72
 have t70:=L.t70;have a70:=L.a70;have z70:=L.z70;have v70:=L.v70;have u70:=run_underlying L.t70
 have t37:=L.t37;have a37:=L.a37;have z37:=L.z37;have v37:=L.v37;have u37:=run_underlying L.t37
 have t127:=L.t127;have a127:=L.a127;have z127:=L.z127;have v127:=L.v127;have u127:=run_underlying L.t127
 have t3:=L.t3;have a3:=L.a3;have z3:=L.z3;have v3:=L.v3;have u3:=run_underlying L.t3
 have t9:=L.t9;have a9:=L.a9;have z9:=L.z9;have v9:=L.v9;have u9:=run_underlying L.t9
 go_enter L.f169,Body.n169_ntmps ρ
 go_wp2
 go_region_o
 all_goals (go_wp2;go_ret;exact ⟨rfl,rfl⟩)
end
def stA (T e:Nat):List IOper:=[⟨some 1,none,.tyck T 2 (.t 0)⟩,⟨some 2,none,.faddr 1 (.t 1)⟩,⟨some 3,none,.load none (.t 2)⟩,⟨some 6,none,.rowck e (.t 3)⟩,⟨some 4,none,.b2s (.t 3)⟩,⟨some 5,none,.bsl true 0 none [.nilp] 1 [(0,.t 3)]⟩]
def stI (T e:Nat):IFn:={ body:=.region (stA T e),res:=[.tmp 4] }
theorem wr2 {E:Env} {call:za0} {it:Run→Run} {f T e:Nat} {v:HV} {H:Heap} {r:HV} {H':Heap} (hf:E.fnA f 1=some (stI T e)) (h:q44 E call it f [v] H=some (r,H')) :
 ∃ id ek a s,v=.ptr id 0∧H[id]?=some (.var ek [a,s])∧tyOf ek=some T∧((s=.nils∧r=.c (.str [])∧H'=H) ∨
  ∃ rid ver len fz xs l,s=.sl rid ver 0 len∧H[rid]?=some (.row fz e none ver xs)∧0<len∧len≤xs.length∧zx2 (xs.take len)=true∧zf4 (xs.take len)=some l∧r=.c (.str l)∧H'=q97 rid H):=by
 unfold q44 at h
 simp only [List.length_cons,List.length_nil,Nat.zero_add,hf,stI,stA] at h
 cases v with
 | ptr id off=>
   cases off with
   | zero=>
     cases hH:H[id]? with
     | none=>simp [evC,zd9,stp,doOp,z40,Fr.opd,binds,za7,zc9,hH] at h
     | some ho=>
       cases ho with
       | row=>simp [evC,zd9,stp,doOp,z40,Fr.opd,binds,za7,zc9,hH] at h
       | var ek cs=>
         by_cases hT:tyOf ek=some T∧cs.length=2
         · obtain ⟨hT,hln⟩:=hT
           match cs,hln with
           | [a,s],_=>
             have hT2:tyOf ek=some T∧[a,s].length=2:=⟨hT,rfl⟩
             refine ⟨id,ek,a,s,rfl,hH,hT,?_⟩
             cases s with
             | nils=>
               simp [evC,zd9,stp,doOp,z40,Fr.opd,binds,za7,zc9,hH,hT,Fr.put,upd,Fr.place,noAl,zc8,zj7,zm9,zf4,zd6,zl7,zg2,zi8,thaw,frzV,zj9,fits,zn6,oneOf] at h
               obtain ⟨rfl,rfl⟩:=h
               exact .inl ⟨rfl,rfl,rfl⟩
             | sl rid ver off len=>
               cases off with
               | succ off=>simp [evC,zd9,stp,doOp,z40,Fr.opd,binds,za7,zc9,hH,hT,Fr.put,upd,Fr.place,noAl,zc8,zj7] at h
               | zero=>
                 cases hR:H[rid]? with
                 | none=>simp [evC,zd9,stp,doOp,z40,Fr.opd,binds,za7,zc9,hH,hT,Fr.put,upd,Fr.place,noAl,zc8,zj7,hR] at h
                 | some ro=>
                   cases ro with
                   | var=>simp [evC,zd9,stp,doOp,z40,Fr.opd,binds,za7,zc9,hH,hT,Fr.put,upd,Fr.place,noAl,zc8,zj7,hR] at h
                   | row fz e' ek' ver' xs=>
                     cases ek' with
                     | some n=>simp [evC,zd9,stp,doOp,z40,Fr.opd,binds,za7,zc9,hH,hT,Fr.put,upd,Fr.place,noAl,zc8,zj7,hR] at h
                     | none=>
                       by_cases hc:e'=e∧ver'=ver∧0<len∧len≤xs.length∧zx2 (xs.take len)=true
                       · obtain ⟨rfl,rfl,c1,c2,c3⟩:=hc
                         have hx:xs≠[]:=by rintro rfl;simp at c2;omega
                         cases hb:zf4 (xs.take len) with
                         | none=>simp [evC,zd9,stp,doOp,z40,Fr.opd,binds,za7,zc9,hH,hT,Fr.put,upd,Fr.place,noAl,zc8,zj7,hR,c1,c2,c3,zm9,hb] at h
                         | some l=>
                           simp [evC,zd9,stp,doOp,z40,Fr.opd,binds,za7,zc9,hH,hT,Fr.put,upd,Fr.place,noAl,zc8,zj7,hR,c1,c2,c3,zm9,hb,zd6,zl7,zg2,zi8,thaw,frzV,zj9,fits,zn6,oneOf] at h
                           obtain ⟨rfl,rfl⟩:=h
                           exact .inr ⟨rid,_,len,fz,xs,l,rfl,hR,c1,c2,c3,hb,rfl,by simp only [q97,hR]⟩
                       · simp only [evC,zd9,stp,doOp,z40,Fr.opd,binds,za7,zc9,hH,if_pos hT2,Fr.put,upd,Fr.place,noAl,zc8,zj7,hR,if_neg hc,if_true,Nat.reduceAdd,List.getElem?_cons_succ,List.getElem?_cons_zero,if_false] at h
                         cases h
             | _=>simp [evC,zd9,stp,doOp,z40,Fr.opd,binds,za7,zc9,hH,hT,Fr.put,upd,Fr.place,noAl,zc8,zj7] at h
         · simp only [evC,zd9,stp,doOp,z40,Fr.opd,binds,za7,zc9,hH,if_neg hT,if_true] at h
           cases h
   | succ off=>simp [evC,zd9,stp,doOp,z40,Fr.opd,binds,za7,zc9] at h
 | _=>simp [evC,zd9,stp,doOp,z40,Fr.opd,binds,za7,zc9] at h
theorem q10 (w:World) (a:Addr) (n:Nat):(w.freeze a n).heap.size=w.heap.size:=by
 unfold World.freeze
 split<;>simp
theorem qu1 (w:World) (a:Addr) (n b:Nat) (h:b≠a.block):(w.freeze a n).heap[b]?=w.heap[b]?:=by
 unfold World.freeze
 split
 · rfl
 · simp only [Array.getElem?_modify]
   rw [if_neg (fun e=>h e.symm)]
theorem qc5 (w:World) (a:Addr) (n:Nat) {cs:Array Value} {e:TypeId} {q:Nat×Nat} (h:w.heap[a.block]?=some (.cells cs e q)):∃ q',(w.freeze a n).heap[a.block]?=some (.cells cs e q'):=by
 unfold World.freeze
 split
 · exact ⟨q,h⟩
 · simp only [Array.getElem?_modify,if_true,h]
   obtain ⟨lo,hi⟩:=q
   exact ⟨_,rfl⟩
theorem j56 {w:World} {F:Nat→Prop} {H:Heap} {m:LMap} (hh:RHeap w F H m) {id e ver:Nat} {ek:Option Nat} {xs:List CV} (hH:H[id]?=some (.row true e ek ver xs)) (n:Nat) :
 RHeap (w.freeze ⟨(m id).blk,0,none⟩ n) F H m∧Stp w.heap.size F F H H m m w (w.freeze ⟨(m id).blk,0,none⟩ n):=by
 have hid:=(List.getElem?_eq_some_iff.1 hH).1
 obtain ⟨us0,rest0,⟨q0,c0,_⟩,_,_,_,_,hF0,_⟩:=hh.row id true e ek ver xs hH
 have hFb:=hF0 rfl
 have hoth:∀ b,b≠(m id).blk→(w.freeze ⟨(m id).blk,0,none⟩ n).heap[b]?=w.heap[b]?:=fun b hb=>qu1 w _ n b hb
 obtain ⟨q1,hself⟩:=qc5 w ⟨(m id).blk,0,none⟩ n c0
 have hk:Keeps F F w (w.freeze ⟨(m id).blk,0,none⟩ n):=by
  refine ⟨fun _ h=>h,fun b hb off=>?_⟩
  by_cases e1:b=(m id).blk
  · subst e1
    have h1:(w.freeze ⟨(m id).blk,0,none⟩ n).heap[(m id).blk]?=_:=hself
    simp only [World.cell?,h1,c0]
  · exact World.cell?_of_block (a:=⟨b,off,none⟩) (hoth b e1)
 have hg:Grows F F H H m m w (w.freeze ⟨(m id).blk,0,none⟩ n):=⟨hk,fun _ _ cs h=>⟨rfl,cs,h,rfl⟩,fun _ fz e ek ver xs h=>⟨fz,ver,xs,h,Nat.le_refl _,fun _=>⟨rfl,rfl⟩⟩⟩
 have hne:∀ j,j<H.length→j≠id→(m j).blk≠(m id).blk:=fun j hj hji he=>hji (hh.inj j id hj hid he)
 refine ⟨⟨?_,?_,?_,?_,?_,hh.glob.keep hk,hh.inj⟩,hg,by rw [q10];exact Nat.le_refl _,?_,?_,?_,?_⟩
 · intro j o ho;rw [q10];exact hh.there j o ho
 · intro b hb;rw [q10];exact hh.fthere b hb
 · intro j ek2 cs2 hj
   have hl:=(List.getElem?_eq_some_iff.1 hj).1
   have e1:j≠id:=by rintro rfl;rw [hH] at hj;cases hj
   obtain ⟨k1,vs,e2,k2,k3,k4⟩:=hh.var j ek2 cs2 hj
   exact ⟨k1,vs,e2,(hoth _ (hne j hl e1)).trans k2,RHs.grow hg _ _ k3,k4⟩
 · intro j ek2 cs2 T hj hT
   have hl:=(List.getElem?_eq_some_iff.1 hj).1
   have e1:j≠id:=by rintro rfl;rw [hH] at hj;cases hj
   exact (hh.ty j ek2 cs2 T hj hT).imp fun vs k=>(hoth _ (hne j hl e1)).trans k
 · intro j fz e2 ek2 ver2 xs2 hj
   have hl:=(List.getElem?_eq_some_iff.1 hj).1
   by_cases e1:j=id
   · subst e1
     rw [hH] at hj
     injection hj with hj
     injection hj with z1 z2 z3 z4 z5
     subst z1;subst z2;subst z3;subst z4;subst z5
     obtain ⟨us,rest,⟨q,k1,kq⟩,k2,k3,k4,k5,k6,k7⟩:=hh.row j _ _ _ _ _ hH
     obtain ⟨q',h1⟩:=qc5 w ⟨(m j).blk,0,none⟩ n k1
     exact ⟨us,rest,⟨q',h1,fun hf=>by cases hf⟩,RRow.keep hk _ _ _ k2,k3,k4,k5,k6,k7⟩
   · obtain ⟨us,rest,k1,k2,k3,k4,k5,k6,k7⟩:=hh.row j fz e2 ek2 ver2 xs2 hj
     exact ⟨us,rest,k1.imp fun q k=>⟨(hoth _ (hne j hl e1)).trans k.1,k.2⟩,RRow.keep hk _ _ _ k2,k3,k4,k5,k6,k7⟩
 · unfold World.freeze;split<;>rfl
 · unfold World.freeze;split<;>rfl
 · unfold World.freeze;split<;>rfl
 · intro b hb hn
   exact ⟨hoth b (fun e1=>hn id hid e1.symm),hn,fun h=>h⟩
theorem qf0 {w:World} {F:Nat→Prop}:∀ {xs:List CV} {us:List Value} {l:List UInt8},RRow w F none xs us→zx2 xs=true→zf4 xs=some l→us=l.map fun x=>Value.int .u8 x.toNat
 | [],us,l,h,_,hb=>by
   simp only [zf4,Option.some.injEq] at hb
   subst hb
   unfold RRow at h
   subst h
   rfl
 | c::xs,us,l,h,hc,hb=>by
   unfold zf4 at hb
   split at hb
   · rename_i e;cases e
   · rename_i n r e
     injection e with e1 e2
     subst e1;subst e2
     simp only [zx2,Bool.and_eq_true,decide_eq_true_eq] at hc
     split at hb
     · rename_i l' hl
       injection hb with hb
       subst hb
       unfold RRow at h
       obtain ⟨v,us',rfl,hs,hr,hrow⟩:=h
       rw [zc7] at hr
       subst hr
       rw [qf0 hrow hc.2 hl]
       have:((UInt8.ofNat n.toNat).toNat:Int)=n:=by
        rw [UInt8.toNat_ofNat']
        omega
       simp only [List.map_cons,this]
       rfl
     · cases hb
   · cases hb
section
variable {P:Program}
theorem wj5 {E:Env} {f T e:Nat} {ρ:Ren} (hf:E.fn f=some (stI T e)) (ha:E.ar f=some 1) (L:Lays.n169 P ρ) (X:Builder.Extra P ρ) (hff:ρ.f 169=f) (hT:ρ.t 72=T) (he:ρ.t 5=e)
 (hen:∀ args w,(callFunc f args).run P w=.ok (.enter f args) w):jq0 P E f:=by
 subst hff;subst hT;subst he
 intro call it args H r H' hA h w F m vs hh hargs
 have hlen:=je3 hA ha
 obtain ⟨v,rfl⟩:∃ v,args=[v]:=by
  cases args with
  | nil=>simp at hlen
  | cons v l=>cases l with
    | nil=>exact ⟨v,rfl⟩
    | cons _ _=>simp at hlen
 rw [rhs_cons] at hargs
 obtain ⟨u,us,rfl,h1,h2⟩:=hargs
 rw [rhs_nil] at h2
 subst h2
 obtain ⟨id,ek,a,s,rfl,hH,hty,hr⟩:=wr2 (T:=ρ.t 72) (e:=ρ.t 5) (by simp only [Env.fnA,hf,ha,arFn,if_true]) h
 unfold RH at h1
 obtain ⟨rfl,_⟩:=h1
 refine ⟨hen _ _,?_⟩
 obtain ⟨k1,xs,e,k2,k3,k4⟩:=hh.var id ek _ hH
 obtain ⟨xs',k5⟩:=hh.ty id ek _ _ hH hty
 rw [k2] at k5
 injection k5 with k5
 injection k5 with k5 k6 _
 subst k6
 rw [rhs_cons] at k3
 obtain ⟨x,xr,rfl,k7,k8⟩:=k3
 rw [rhs_cons] at k8
 obtain ⟨y,yr,rfl,k9,k10⟩:=k8
 rw [rhs_nil] at k10
 subst k10
 have hd:=zy7 hh
 have sd:=qo9 (F:=F) (H:=H) (m:=m) (w:=w) w.heap.size
 rcases hr with ⟨rfl,rfl,rfl⟩ | ⟨rid,ver,len,fz,zs,l,rfl,hR,c1,c2,c3,hb,rfl,rfl⟩
 · unfold RH at k9
   subst k9
   refine (qz5 L X (m id).blk x w k2).mono ?_
   rintro e w' ⟨rfl,rfl⟩
   exact ⟨_,F,m,rfl,sd,hd,by rw [rh_c];unfold RC;rfl,by simp⟩
 · unfold RH at k9
   obtain ⟨ad,cap,rfl,_,hall⟩:=k9
   obtain ⟨p1,p2,p3,p4⟩:=hall _ _ _ _ hR
   have had:=p4 (.inr rfl)
   simp only [Nat.zero_mul,Nat.zero_add] at had p1 p2
   subst had
   obtain ⟨cs,rest,⟨q0,r1,_⟩,r2,r3,r4,r5,r6,r7⟩:=hh.row rid fz _ none ver zs hR
   have hcl:=zg1 r2
   have hrow:=qg2 len r2
   simp only [z42,Nat.mul_one] at hcl hrow r3
   have hcs:=qf0 hrow c3 hb
   have hll:l.length=len:=by
    have:=congrArg List.length hcs
    rw [List.length_take,List.length_map] at this
    omega
   have hne:l≠[]:=by rintro rfl;simp at hll;omega
   subst hll
   refine (j57 L X (m id).blk (m rid).blk cap x _ q0 l w hne p3 (by omega) k2 r1 (by simp;omega) (fun j z hz=>?_)).mono ?_
   · have hr:=z90 r1
     have hj:=(List.getElem?_eq_some_iff.1 hz).1
     have hcj:cs[j]?=some (.int .u8 z.toNat):=by
      have:=congrArg (fun t=>t[j]?) hcs
      simp only [List.getElem?_take,if_pos hj,List.getElem?_map,hz,Option.map_some] at this
      exact this
     have:=hr j _ hcj
     rwa [Nat.zero_add] at this
   · rintro e w' ⟨rfl,rfl⟩
     obtain ⟨f1,f2⟩:=qb0 hd (q64 rid H)
     obtain ⟨g1,g2⟩:=j56 f1 (j88 rid H hR) l.length
     exact ⟨_,_,m,rfl,(sd.trans f2).trans g2,g1,by rw [rh_c];unfold RC;rfl,by simp⟩
end
end Go.Proofs.Lz
namespace Go.Proofs.TryzL
open Go.Proofs.Lz Go.Shelf
def errP (vs:List Value):Prop:=∃ ev,vs=[ev]∧(ev=.nilIface∨∃ t p,ev=.iface t p)
instance:GlobTab:=⟨[(0,fun vs=>∃ m:Int,vs=[.int .i64 m]),(1,fun vs=>vs=Lib.pow10Tab.map fun z=>Value.int .u64 z),(4,errP),(5,errP)]⟩
def extT:Nat→Option (List CV→Option (List CV))
 | 35=>some idxG
 | 43=>some repG
 | 54=>some hpfG
 | 77=>some hasG
 | 84=>some jz4
 | 81=>some jx4
 | 117=>some jr3
 | 118=>some qs0
 | 173=>some cutG
 | _=>none
def arT:Nat→Option Nat
 | 46=>some 1
 | 78=>some 1
 | _=>none
def fnH (n:Nat):Option IFn:=qp1 ((46,stI 63 5)::(78,ccI 63)::fnL) n
def Ev:Env:={ fn:=fnH,md:=mds,ext:=extT,ar:=arT }
theorem x240:Builder.X72 Tryz.prog Tryz.rLays_n240 where
 sizeBuilder:=by kernel_rfl
 liesBuilder:=by kernel_rfl
theorem x169:Builder.Extra Tryz.prog Tryz.rLays_n169 where
 sizeBuilder:=by kernel_rfl
 liesBuilder:=by kernel_rfl
 t5:=Tryz.underlying5
 a5:=Tryz.isAgg5
 z5:=Tryz.sizeOf5
 v5:=Tryz.zeroValue5
 infoByte:=by kernel_rfl
 cellsByte:=by kernel_rfl
 sizeByte:=by kernel_rfl
 neB5:=by decide
theorem x105:Builder.Extra Tryz.prog Tryz.rLays_n105 where
 sizeBuilder:=by kernel_rfl
 liesBuilder:=by kernel_rfl
 t5:=Tryz.underlying5
 a5:=Tryz.isAgg5
 z5:=Tryz.sizeOf5
 v5:=Tryz.zeroValue5
 infoByte:=by kernel_rfl
 cellsByte:=by kernel_rfl
 sizeByte:=by kernel_rfl
 neB5:=by decide
theorem l144:Lays.n144 Tryz.prog Tryz.rLaysM_n144:={ Tryz.lLaysM_n144 with }
theorem en35:∀ args w,(callFunc 35 args).run Tryz.prog w=.ok (.enter 35 args) w:=enters_of Tryz.func35 (by kernel_rfl) rfl
theorem en43:∀ args w,(callFunc 43 args).run Tryz.prog w=.ok (.enter 43 args) w:=enters_of Tryz.func43 (by kernel_rfl) rfl
theorem en54:∀ args w,(callFunc 54 args).run Tryz.prog w=.ok (.enter 54 args) w:=enters_of Tryz.func54 (by kernel_rfl) rfl
theorem en77:∀ args w,(callFunc 77 args).run Tryz.prog w=.ok (.enter 77 args) w:=enters_of Tryz.func77 (by kernel_rfl) rfl
theorem en84:∀ args w,(callFunc 84 args).run Tryz.prog w=.ok (.enter 84 args) w:=enters_of Tryz.func84 (by kernel_rfl) rfl
theorem v73:∀ args w,(callFunc 117 args).run Tryz.prog w=.ok (.enter 117 args) w:=enters_of Tryz.func117 (by kernel_rfl) rfl
theorem en46:∀ args w,(callFunc 46 args).run Tryz.prog w=.ok (.enter 46 args) w:=enters_of Tryz.func46 (by kernel_rfl) rfl
theorem en78:∀ args w,(callFunc 78 args).run Tryz.prog w=.ok (.enter 78 args) w:=enters_of Tryz.func78 (by kernel_rfl) rfl
theorem en81:∀ args w,(callFunc 81 args).run Tryz.prog w=.ok (.enter 81 args) w:=enters_of Tryz.func81 (by kernel_rfl) rfl
theorem vb5:∀ args w,(callFunc 118 args).run Tryz.prog w=.ok (.enter 118 args) w:=enters_of Tryz.func118 (by kernel_rfl) rfl
theorem v92:∀ args w,(callFunc 173 args).run Tryz.prog w=.ok (.enter 173 args) w:=enters_of Tryz.func173 (by kernel_rfl) rfl
theorem gl0 (w:World) (F:Nat→Prop) (h:Glob w F):∃ m:Int,w.cell? ⟨0,0,none⟩=some (.int .i64 m):=by
 obtain ⟨vs,_,h2,m,rfl⟩:=j66 (g:=0) (p:=fun vs=>∃ m:Int,vs=[.int .i64 m]) (by simp [GlobTab.tab]) h
 exact ⟨m,h2 0⟩
theorem glE {g:Nat} (hg:(g,errP)∈GlobTab.tab) (w:World) (F:Nat→Prop) (h:Glob w F):∃ ev,w.cell? ⟨g,0,none⟩=some ev∧(ev=.nilIface∨∃ te pe,ev=.iface te pe):=by
 obtain ⟨vs,_,h2,ev,rfl,h3⟩:=j66 hg h
 exact ⟨ev,h2 0,h3⟩
theorem glP (w:World) (F:Nat→Prop) (h:Glob w F):Lib.TabIs Tryz.prog w "internal/strconv.uint64pow10" .u64 Lib.pow10Tab:=by
 obtain ⟨vs,rfl,h2⟩:=w33 (P:=Tryz.prog) (g:=1) (p:=fun vs=>vs=Lib.pow10Tab.map fun z=>Value.int .u64 z) (name:= "internal/strconv.uint64pow10") (by simp [GlobTab.tab]) (by kernel_rfl) h
 exact h2
theorem l145:Lays.n145 Tryz.prog Tryz.rLaysM_n145:={ Tryz.lLaysM_n145 with }
theorem evOk:EnvOk Tryz.prog Ev where
 fn:=by
  intro f g h
  have h:qp1 ((46,stI 63 5)::(78,ccI 63)::fnL) f=some g:=h
  unfold qp1 at h
  cases hb:Nat.beq 46 f with
  | true=>
    have:=Nat.eq_of_beq_eq_true hb
    subst this
    exact .inr (wj5 (T:=63) (e:=5) (ρ:=Tryz.rLays_n169) rfl rfl Tryz.lLays_n169 x169 rfl rfl rfl en46)
  | false=>
    rw [hb] at h
    have h:qp1 ((78,ccI 63)::fnL) f=some g:=h
    unfold qp1 at h
    cases hb2:Nat.beq 78 f with
    | true=>
      have:=Nat.eq_of_beq_eq_true hb2
      subst this
      exact .inr (wh5 (T:=63) (ρ:=Tryz.rLays_n240) rfl rfl Tryz.lLays_n240 x240 rfl rfl en78)
    | false=>
      rw [hb2] at h
      have h:fnT f=some g:=h
      exact .inl (Option.bind_eq_some_iff.1 (wv9 f g h))
 ext:=by
  intro f g h
  simp only [Ev,extT] at h
  split at h<;>first
   | (cases h;done)
   | (injection h with h;subst h;first
       | exact wu9 Tryz.lLays_n137 rfl en35
       | exact v14 Tryz.lLays_n105 x105 rfl en43
       | exact wt3 Tryz.lLays_n99 rfl en54
       | exact v12 l144 rfl en77
       | exact wm3 Tryz.lLays_n160 rfl en84
       | exact wj6 Tryz.lLays_n149 rfl v73
       | exact wf9 Tryz.lLaysM_n171 rfl en81 glP
       | exact wg9 Tryz.lLaysC_n172 rfl vb5 (glE (g:=4) (by simp [GlobTab.tab])) (glE (g:=5) (by simp [GlobTab.tab]))
       | exact wv7 l145 rfl v92 gl0)
def tkT:Nat→List Nat
 | 50=>[0]
 | _=>[]
def Vv:WEnv:={ fn:=fnH,md:=mds,tk:=tkT,ext:=extT,ar:=arT }
theorem envR:EnvR Vv Ev:=⟨rfl,rfl,rfl,rfl⟩
theorem vfn6:Vv.fn 6=some ic6:=rfl
theorem v54:Vv.fn 14=some ic14:=rfl
theorem v35:Vv.fn 15=some ic15:=rfl
theorem wz8:Vv.fn 17=some ic17:=rfl
theorem v48:Vv.fn 19=some ic19:=rfl
theorem wx8:Vv.fn 20=some ic20:=rfl
theorem vb2:Vv.fn 23=some ic23:=rfl
theorem vb9:Vv.fn 24=some ic24:=rfl
theorem v33:Vv.fn 25=some ic25:=rfl
theorem v86:Vv.fn 26=some ic26:=rfl
theorem v82:Vv.fn 27=some ic27:=rfl
theorem v77:Vv.fn 28=some ic28:=rfl
theorem v65:Vv.fn 29=some ic29:=rfl
theorem v43:Vv.fn 30=some ic30:=rfl
theorem wo1:Vv.fn 31=some ic31:=rfl
theorem v78:Vv.fn 32=some ic32:=rfl
theorem v83:Vv.fn 33=some ic33:=rfl
theorem v81:Vv.fn 34=some ic34:=rfl
theorem v90:Vv.fn 36=some ic36:=rfl
theorem qh3:Vv.fn 40=some ic40:=rfl
theorem v56:Vv.fn 41=some ic41:=rfl
theorem v79:Vv.fn 42=some ic42:=rfl
theorem v31:Vv.fn 44=some ic44:=rfl
theorem v60:Vv.fn 45=some ic45:=rfl
theorem v28:Vv.fn 50=some ic50:=rfl
theorem v91:Vv.fn 52=some ic52:=rfl
theorem v44:Vv.fn 53=some ic53:=rfl
theorem v95:Vv.fn 55=some ic55:=rfl
theorem v36:Vv.fn 56=some ic56:=rfl
theorem v55:Vv.fn 57=some ic57:=rfl
theorem va0:Vv.fn 58=some ic58:=rfl
theorem va7:Vv.fn 59=some ic59:=rfl
theorem v67:Vv.fn 60=some ic60:=rfl
theorem v93:Vv.fn 86=some ic86:=rfl
theorem v87:Vv.fn 87=some ic87:=rfl
theorem v58:Vv.fn 88=some ic88:=rfl
theorem v99:Vv.fn 89=some ic89:=rfl
theorem vb1:Vv.fn 90=some ic90:=rfl
theorem v30:Vv.fn 91=some ic91:=rfl
theorem v88:Vv.fn 92=some ic92:=rfl
theorem v07:Vv.fn 114=some wo6:=rfl
theorem v22:Vv.fn 115=some wm1:=rfl
theorem wv5:Vv.fn 116=some wl5:=rfl
theorem v04:Vv.fn 119=some wr1:=rfl
theorem wz4:Vv.fn 139=some wp0:=rfl
theorem v09:Vv.fn 160=some ws3:=rfl
theorem v16:Vv.fn 161=some wn7:=rfl
theorem wx0:Vv.fn 174=some wi7:=rfl
theorem v69:Vv.fn 46=some (stI 63 5):=rfl
theorem wy1:Vv.fn 78=some (ccI 63):=rfl
end Go.Proofs.TryzL
