/- What simp is told of the evaluator with slices as values. -/
import Derived.Test.YtmjofajbfondhaaLzWOm
import Derived.Test.YtmjofajbfondhaaLzSimp
import Derived.Test.YtmjofajbfondhaaLzCode03
namespace Go.Proofs.Lz

@[simp] theorem w_region (E : WEnv) (c : WCallF) (it : WRun → WRun) (ops : List IOper) (fr : WFr) (H : WHeap) :
    wC E c it (.region ops) fr H = match wOps E c ops { fr with al := noAl } H with
      | some (fr', H') => some (.nrm, fr', H')
      | none => none := rfl
@[simp] theorem w_regionD (E : WEnv) (c : WCallF) (it : WRun → WRun) (ops : List (Cls × IOper)) (fr : WFr) (H : WHeap) :
    wC E c it (.regionD ops) fr H = match wOpsD E c ops { fr with al := noAl } H with
      | some (fr', H') => some (.nrm, fr', H')
      | none => none := rfl
@[simp] theorem w_seq (E : WEnv) (c : WCallF) (it : WRun → WRun) (a b : ICode) (fr : WFr) (H : WHeap) :
    wC E c it (.seq a b) fr H = match wC E c it a fr H with
      | some (.nrm, fr', H') => wC E c it b fr' H'
      | r => r := rfl
@[simp] theorem w_skip (E : WEnv) (c : WCallF) (it : WRun → WRun) (fr : WFr) (H : WHeap) : wC E c it .skip fr H = some (.nrm, fr, H) := rfl
@[simp] theorem w_exit (E : WEnv) (c : WCallF) (it : WRun → WRun) (i : Nat) (fr : WFr) (H : WHeap) : wC E c it (.exit i) fr H = some (.exit i, fr, H) := rfl
@[simp] theorem w_goto (E : WEnv) (c : WCallF) (it : WRun → WRun) (i : Nat) (fr : WFr) (H : WHeap) : wC E c it (.goto i) fr H = some (.goto i, fr, H) := rfl
@[simp] theorem w_ret (E : WEnv) (c : WCallF) (it : WRun → WRun) (fr : WFr) (H : WHeap) : wC E c it .ret fr H = some (.ret, fr, H) := rfl
@[simp] theorem w_label (E : WEnv) (c : WCallF) (it : WRun → WRun) (i : Nat) (fr : WFr) (H : WHeap) : wC E c it (.label i) fr H = some (.nrm, fr, H) := rfl
@[simp] theorem w_cond (E : WEnv) (c : WCallF) (it : WRun → WRun) (x : Opd) (a b : ICode) (fr : WFr) (H : WHeap) :
    wC E c it (.cond x a b) fr H = match fr.rd x with
      | .c (.bool t) => if t = true then wC E c it a fr H else wC E c it b fr H
      | _ => none := rfl
@[simp] theorem w_block (E : WEnv) (c : WCallF) (it : WRun → WRun) (i : Nat) (a : ICode) (fr : WFr) (H : WHeap) :
    wC E c it (.block i a) fr H = match wC E c it a fr H with
      | some (.exit j, fr', H') => if j = i then some (.nrm, fr', H') else some (.exit j, fr', H')
      | r => r := rfl
theorem w_loop (E : WEnv) (c : WCallF) (it : WRun → WRun) (l : List Nat) (a : ICode) (fr : WFr) (H : WHeap) :
    wC E c it (.loop l a) fr H = it (fun fr H => wC E c it a (wkeep l fr) H) fr H := rfl
attribute [simp] wassoc wlinkTo wunbox wOps wStp wOp wOp0 wOpsD wStpD wStpG wD wdstOk WFr.place WFr.put WFr.putD WFr.put1 WFr.link WFr.rd wbinds WV.flat aggW partW loadW storeW
attribute [simp] peek peekC peekL peekT ofHV ofHV1 okW okA hit hitC hit1 hitL hitT inK hitH hitAll srcs srcC src1 srcL srcT ownIt ownItC ownIt1 hasOwn hasOwnC hasOwn1 isSlot isHp Lz.take wint closeAllW mkAggW cellW cellB fitsW setPartW setPartC unflatW elemsW lenW ixW slcW close1 closeL closeW setEl1 setElL setElC setElS setElP putEl blind1 blindC blind appW fitsB fitsWN fillW fillRowW woptI plainW mineP moveW wput noView1 noViewC noView inSl inHp
attribute [simp] thawW0L thawW1 thawWP thawWPL thawW thawWs shut1 shutL shutC shutT shut isCW noRefW noRefW.noRefWL noFnW lent1 lentC lend1 lendC give1 giveC srcAll takenS usesP1 usesPC lentS passW wcallTo wtarget deadP wkeep wresOf woneOf leaveP okRes1 okRes leave1 leaveC wfinish
@[simp] theorem hitF_env (K : Pl → Bool) (fz : Bool) (w : WFr) (s : Nat) : (hitF K fz w).env s = hit K fz (Pl.sl s) (w.env s) := rfl
@[simp] theorem hitF_al (K : Pl → Bool) (fz : Bool) (w : WFr) : (hitF K fz w).al = w.al := rfl
@[simp] theorem blindF_env (p : Pl) (w : WFr) (s : Nat) : (blindF p w).env s = blind p (w.env s) := rfl
@[simp] theorem blindF_al (p : Pl) (w : WFr) : (blindF p w).al = w.al := rfl
@[simp] theorem peek1_c (q : Pl) (v : CV) : peek1 q (.c v) = (.c v) := rfl
@[simp] theorem thawW0_c (v : CV) : thawW0 (.c v) = some v := rfl
@[simp] theorem peek1_agg (q : Pl) (cs : List WV) : peek1 q (.agg cs) = (.agg cs) := rfl
@[simp] theorem thawW0_agg (cs : List WV) : thawW0 (.agg cs) = none := rfl
@[simp] theorem peek1_tup (q : Pl) (vs : List WV) : peek1 q (.tup vs) = (.tup vs) := rfl
@[simp] theorem thawW0_tup (vs : List WV) : thawW0 (.tup vs) = none := rfl
@[simp] theorem peek1_nils (q : Pl)  : peek1 q .nils = .nils := rfl
@[simp] theorem thawW0_nils  : thawW0 .nils = some (.frz none []) := rfl
@[simp] theorem peek1_own (q : Pl) (b : Bool) (e : Nat) (ek : Option Nat) (xs : List CV) : peek1 q (.own b e ek xs) = .view q b 0 e ek xs := rfl
@[simp] theorem thawW0_own (b : Bool) (e : Nat) (ek : Option Nat) (xs : List CV) : thawW0 (.own b e ek xs) = none := rfl
@[simp] theorem peek1_view (q : Pl) (pl : Pl) (b : Bool) (off e : Nat) (ek : Option Nat) (xs : List CV) : peek1 q (.view pl b off e ek xs) = (.view pl b off e ek xs) := rfl
@[simp] theorem thawW0_view (pl : Pl) (b : Bool) (off e : Nat) (ek : Option Nat) (xs : List CV) : thawW0 (.view pl b off e ek xs) = some (.frz ek xs) := rfl
@[simp] theorem peek1_imm (q : Pl) (fz : Bool) (ek : Option Nat) (xs : List CV) : peek1 q (.imm fz ek xs) = (.imm fz ek xs) := rfl
@[simp] theorem thawW0_imm (fz : Bool) (ek : Option Nat) (xs : List CV) : thawW0 (.imm fz ek xs) = some (.frz ek xs) := rfl
@[simp] theorem peek1_ptr (q : Pl) (id off : Nat) : peek1 q (.ptr id off) = (.ptr id off) := rfl
@[simp] theorem thawW0_ptr (id off : Nat) : thawW0 (.ptr id off) = none := rfl
@[simp] theorem peek1_eptr (q : Pl) (pl : Pl) (i off : Nat) (ek : Option Nat) (x : CV) : peek1 q (.eptr pl i off ek x) = (.eptr pl i off ek x) := rfl
@[simp] theorem thawW0_eptr (pl : Pl) (i off : Nat) (ek : Option Nat) (x : CV) : thawW0 (.eptr pl i off ek x) = none := rfl
@[simp] theorem peek1_iptr (q : Pl) (fz : Bool) (ek : Option Nat) (x : CV) (off : Nat) : peek1 q (.iptr fz ek x off) = (.iptr fz ek x off) := rfl
@[simp] theorem thawW0_iptr (fz : Bool) (ek : Option Nat) (x : CV) (off : Nat) : thawW0 (.iptr fz ek x off) = none := rfl
@[simp] theorem peek1_lbox (q : Pl) (ek : Option Nat) (v : WV) : peek1 q (.lbox ek v) = (.lbox ek v) := rfl
@[simp] theorem thawW0_lbox (ek : Option Nat) (v : WV) : thawW0 (.lbox ek v) = none := rfl
@[simp] theorem peek1_fn (q : Pl) (f : Nat) (first cap : List WV) : peek1 q (.fn f first cap) = (.fn f first cap) := rfl
@[simp] theorem thawW0_fn (f : Nat) (first cap : List WV) : thawW0 (.fn f first cap) = none := rfl
@[simp] theorem peek1_skipv (q : Pl)  : peek1 q .skipv = .skipv := rfl
@[simp] theorem thawW0_skipv  : thawW0 .skipv = none := rfl
@[simp] theorem peek1_undef (q : Pl)  : peek1 q .undef = .undef := rfl
@[simp] theorem thawW0_undef  : thawW0 .undef = none := rfl
@[simp] theorem peek1_gone (q : Pl)  : peek1 q .gone = .gone := rfl
@[simp] theorem thawW0_gone  : thawW0 .gone = none := rfl
theorem set_get {α : Type} {H : List α} {p : Nat} {x : α} (h : H[p]? = some x) (a : α) : (H.set p a)[p]? = some a := List.getElem?_set_self (List.getElem?_eq_some_iff.1 h).1
end Go.Proofs.Lz
/- The environment of seat 1 for the evaluator with slices as values. -/
namespace Go.Proofs.TryL
open Go.Proofs.Lz
def Vv : WEnv := { fn := fnT, md := mds, tk := fun _ => [] }
@[simp] theorem vfn3 : Vv.fn 3 = some ic3 := rfl
@[simp] theorem vmd3 : Vv.md 3 = .P := rfl
@[simp] theorem vfn4 : Vv.fn 4 = some ic4 := rfl
@[simp] theorem vmd4 : Vv.md 4 = .P := rfl
@[simp] theorem vfn5 : Vv.fn 5 = some ic5 := rfl
@[simp] theorem vmd5 : Vv.md 5 = .P := rfl
@[simp] theorem vfn6 : Vv.fn 6 = some ic6 := rfl
@[simp] theorem vmd6 : Vv.md 6 = .P := rfl
@[simp] theorem vfn7 : Vv.fn 7 = some ic7 := rfl
@[simp] theorem vmd7 : Vv.md 7 = .P := rfl
@[simp] theorem vfn8 : Vv.fn 8 = some ic8 := rfl
@[simp] theorem vmd8 : Vv.md 8 = .P := rfl
@[simp] theorem vfn9 : Vv.fn 9 = some ic9 := rfl
@[simp] theorem vmd9 : Vv.md 9 = .P := rfl
@[simp] theorem vfn10 : Vv.fn 10 = some ic10 := rfl
@[simp] theorem vmd10 : Vv.md 10 = .P := rfl
@[simp] theorem vfn11 : Vv.fn 11 = some ic11 := rfl
@[simp] theorem vmd11 : Vv.md 11 = .P := rfl
@[simp] theorem vfn12 : Vv.fn 12 = some ic12 := rfl
@[simp] theorem vmd12 : Vv.md 12 = .P := rfl
@[simp] theorem vfn13 : Vv.fn 13 = some ic13 := rfl
@[simp] theorem vmd13 : Vv.md 13 = .P := rfl
@[simp] theorem vfn14 : Vv.fn 14 = some ic14 := rfl
@[simp] theorem vmd14 : Vv.md 14 = .P := rfl
@[simp] theorem vfn15 : Vv.fn 15 = some ic15 := rfl
@[simp] theorem vmd15 : Vv.md 15 = .P := rfl
@[simp] theorem vfn16 : Vv.fn 16 = some ic16 := rfl
@[simp] theorem vmd16 : Vv.md 16 = .P := rfl
@[simp] theorem vfn17 : Vv.fn 17 = some ic17 := rfl
@[simp] theorem vmd17 : Vv.md 17 = .P := rfl
@[simp] theorem vfn18 : Vv.fn 18 = some ic18 := rfl
@[simp] theorem vmd18 : Vv.md 18 = .P := rfl
@[simp] theorem vfn19 : Vv.fn 19 = some ic19 := rfl
@[simp] theorem vmd19 : Vv.md 19 = .S := rfl
@[simp] theorem vfn20 : Vv.fn 20 = some ic20 := rfl
@[simp] theorem vmd20 : Vv.md 20 = .S := rfl
@[simp] theorem vfn21 : Vv.fn 21 = some ic21 := rfl
@[simp] theorem vmd21 : Vv.md 21 = .S := rfl
@[simp] theorem vfn22 : Vv.fn 22 = some ic22 := rfl
@[simp] theorem vmd22 : Vv.md 22 = .S := rfl
@[simp] theorem vfn23 : Vv.fn 23 = some ic23 := rfl
@[simp] theorem vmd23 : Vv.md 23 = .S := rfl
@[simp] theorem vfn24 : Vv.fn 24 = some ic24 := rfl
@[simp] theorem vmd24 : Vv.md 24 = .P := rfl
@[simp] theorem vfn25 : Vv.fn 25 = some ic25 := rfl
@[simp] theorem vmd25 : Vv.md 25 = .P := rfl
@[simp] theorem vfn26 : Vv.fn 26 = some ic26 := rfl
@[simp] theorem vmd26 : Vv.md 26 = .P := rfl
@[simp] theorem vfn27 : Vv.fn 27 = some ic27 := rfl
@[simp] theorem vmd27 : Vv.md 27 = .P := rfl
@[simp] theorem vfn28 : Vv.fn 28 = some ic28 := rfl
@[simp] theorem vmd28 : Vv.md 28 = .S := rfl
@[simp] theorem vfn29 : Vv.fn 29 = some ic29 := rfl
@[simp] theorem vmd29 : Vv.md 29 = .S := rfl
@[simp] theorem vfn30 : Vv.fn 30 = some ic30 := rfl
@[simp] theorem vmd30 : Vv.md 30 = .S := rfl
@[simp] theorem vfn31 : Vv.fn 31 = some ic31 := rfl
@[simp] theorem vmd31 : Vv.md 31 = .S := rfl
@[simp] theorem vfn32 : Vv.fn 32 = some ic32 := rfl
@[simp] theorem vmd32 : Vv.md 32 = .S := rfl
@[simp] theorem vfn33 : Vv.fn 33 = some ic33 := rfl
@[simp] theorem vmd33 : Vv.md 33 = .S := rfl
@[simp] theorem vfn34 : Vv.fn 34 = some ic34 := rfl
@[simp] theorem vmd34 : Vv.md 34 = .P := rfl
@[simp] theorem vfn35 : Vv.fn 35 = some ic35 := rfl
@[simp] theorem vmd35 : Vv.md 35 = .P := rfl
@[simp] theorem vfn36 : Vv.fn 36 = some ic36 := rfl
@[simp] theorem vmd36 : Vv.md 36 = .P := rfl
@[simp] theorem vfn37 : Vv.fn 37 = some ic37 := rfl
@[simp] theorem vmd37 : Vv.md 37 = .P := rfl
@[simp] theorem vfn38 : Vv.fn 38 = some ic38 := rfl
@[simp] theorem vmd38 : Vv.md 38 = .P := rfl
@[simp] theorem vfn39 : Vv.fn 39 = some ic39 := rfl
@[simp] theorem vmd39 : Vv.md 39 = .S := rfl
@[simp] theorem vfn40 : Vv.fn 40 = some ic40 := rfl
@[simp] theorem vmd40 : Vv.md 40 = .S := rfl
@[simp] theorem vfn41 : Vv.fn 41 = some ic41 := rfl
@[simp] theorem vmd41 : Vv.md 41 = .P := rfl
@[simp] theorem vfn42 : Vv.fn 42 = some ic42 := rfl
@[simp] theorem vmd42 : Vv.md 42 = .P := rfl
@[simp] theorem vfn43 : Vv.fn 43 = some ic43 := rfl
@[simp] theorem vmd43 : Vv.md 43 = .S := rfl
@[simp] theorem vfn44 : Vv.fn 44 = some ic44 := rfl
@[simp] theorem vmd44 : Vv.md 44 = .S := rfl
@[simp] theorem vfn45 : Vv.fn 45 = some ic45 := rfl
@[simp] theorem vmd45 : Vv.md 45 = .S := rfl
@[simp] theorem vfn46 : Vv.fn 46 = some ic46 := rfl
@[simp] theorem vmd46 : Vv.md 46 = .S := rfl
@[simp] theorem vfn47 : Vv.fn 47 = some ic47 := rfl
@[simp] theorem vmd47 : Vv.md 47 = .S := rfl
@[simp] theorem vfn48 : Vv.fn 48 = some ic48 := rfl
@[simp] theorem vmd48 : Vv.md 48 = .S := rfl
@[simp] theorem vfn49 : Vv.fn 49 = some ic49 := rfl
@[simp] theorem vmd49 : Vv.md 49 = .S := rfl
@[simp] theorem vfn50 : Vv.fn 50 = some ic50 := rfl
@[simp] theorem vmd50 : Vv.md 50 = .S := rfl
@[simp] theorem vfn51 : Vv.fn 51 = some ic51 := rfl
@[simp] theorem vmd51 : Vv.md 51 = .S := rfl
@[simp] theorem vfn52 : Vv.fn 52 = some ic52 := rfl
@[simp] theorem vmd52 : Vv.md 52 = .S := rfl
@[simp] theorem vfn53 : Vv.fn 53 = some ic53 := rfl
@[simp] theorem vmd53 : Vv.md 53 = .P := rfl
@[simp] theorem vfn54 : Vv.fn 54 = some ic54 := rfl
@[simp] theorem vmd54 : Vv.md 54 = .P := rfl
@[simp] theorem vfn55 : Vv.fn 55 = some ic55 := rfl
@[simp] theorem vmd55 : Vv.md 55 = .P := rfl
@[simp] theorem vfn56 : Vv.fn 56 = some ic56 := rfl
@[simp] theorem vmd56 : Vv.md 56 = .P := rfl
@[simp] theorem vfn57 : Vv.fn 57 = some ic57 := rfl
@[simp] theorem vmd57 : Vv.md 57 = .S := rfl
@[simp] theorem vfn58 : Vv.fn 58 = some ic58 := rfl
@[simp] theorem vmd58 : Vv.md 58 = .S := rfl
@[simp] theorem vfn59 : Vv.fn 59 = some ic59 := rfl
@[simp] theorem vmd59 : Vv.md 59 = .P := rfl
@[simp] theorem vfn60 : Vv.fn 60 = some ic60 := rfl
@[simp] theorem vmd60 : Vv.md 60 = .P := rfl
@[simp] theorem vfn61 : Vv.fn 61 = some ic61 := rfl
@[simp] theorem vmd61 : Vv.md 61 = .S := rfl
@[simp] theorem vfn62 : Vv.fn 62 = some ic62 := rfl
@[simp] theorem vmd62 : Vv.md 62 = .S := rfl
@[simp] theorem vfn63 : Vv.fn 63 = some ic63 := rfl
@[simp] theorem vmd63 : Vv.md 63 = .S := rfl
@[simp] theorem vtk (n : Nat) : Vv.tk n = [] := rfl
end Go.Proofs.TryL
