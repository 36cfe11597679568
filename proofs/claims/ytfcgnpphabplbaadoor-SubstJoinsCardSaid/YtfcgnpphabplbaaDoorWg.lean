/- What a builder's copyCheck and String do, and Index: functions told by functions of their own. -/
import Derived.Lib.Builder
import Derived.WalkKit
import Derived.Laws.Externs
import Derived.ProofKit
import Derived.Test.YtfcgnpphabplbaaDoorProg
import Derived.Lib.UnsafeStr
import Derived.Shelf.RegionOpenPlain
import Derived.Test.YtfcgnpphabplbaaDoorWc
import Derived.Test.YtfcgnpphabplbaaDoorWf
import Derived.Shelf.Strings.Search2
import Derived.Shelf.Strings.Split
import Derived.Shelf.Strings.OnBuilder
import Derived.Lib.Walk
import Derived.Lib.Strings
import Derived.Lib.Bytealg
import Derived.BigCall
import Derived.BigGuard
import Derived.Laws.Strings3
set_option linter.unusedVariables false
set_option linter.unusedSimpArgs false

namespace Go.Proofs.YtfcgnpphabplbaaDoor
open Go.RowKit

set_option maxHeartbeats 1000000 in
set_option maxRecDepth 100000 in
theorem copyCheck_used (b off:Nat) (w:World) (h0:w.cell? ⟨b,off,none⟩=some (.pointer (some ⟨b,off,none⟩))) :
  Calls Tryd.prog 39 #[.pointer (some ⟨b,off,none⟩)] w fun e w'=>e= .returned (.tuple #[])∧w'=w:=by
 have u91:Tryd.prog.underlying 60=some (.pointer 62):=by kernel_rfl
 obtain ⟨j,hj⟩:=Option.isSome_iff_exists.1 (by kernel_rfl:(Tryd.prog.info? 62).isSome=true)
 go_enter Tryd.func39,Tryd.ntmps39
 go_wp2
 rw [Lib.run_neq_ptr_same w _ u91 hj]
 go_wp2
 go_end0
 exact ⟨rfl,rfl⟩

set_option maxHeartbeats 1000000 in
set_option maxRecDepth 100000 in
theorem copyCheck_fresh (b off e cells:Nat) (w:World) (h0:w.cell? ⟨b,off,none⟩=some (.pointer none)) (hsh:w.shape? b=some (e,cells)) (hoff:off<cells) (hfz:w.frozen? ⟨b,off,none⟩=false)
  (hl:liesAt Tryd.prog Tryd.prog.depth e (cells/Tryd.prog.cellsOf e) off 62 1=true) :
  Calls Tryd.prog 39 #[.pointer (some ⟨b,off,none⟩)] w fun e w'=>e= .returned (.tuple #[])∧w'=w.setCell ⟨b,off,none⟩ (.pointer (some ⟨b,off,none⟩)):=by
 have u91:Tryd.prog.underlying 60=some (.pointer 62):=by kernel_rfl
 have u152:Tryd.prog.underlying 105=some .unsafePointer:=by kernel_rfl
 obtain ⟨j,hj⟩:=Option.isSome_iff_exists.1 (by kernel_rfl:(Tryd.prog.info? 62).isSome=true)
 have hjs:j.size≠0:=by
  have:(Tryd.prog.info? 62).map (·.size)=some 2:=by kernel_rfl
  rw [hj] at this
  simp at this
  omega
 go_enter Tryd.func39,Tryd.ntmps39
 go_wp2
 rw [Lib.run_to_unsafe w ⟨b,off,none⟩ u91 u152 hj hjs hsh hoff]
 simp only [Result.andThen]
 rw [Oper.upon_value]
 go_wp2
 rw [run_callFunc_extern Tryd.func57 (by kernel_rfl) (by kernel_rfl) (by kernel_rfl) (e:=Extern.AbiNoEscape.same) (by kernel_rfl)]
 rw [Lib.run_noEscape]
 simp only [Result.andThen]
 rw [Oper.upon_value]
 go_wp2
 rw [Lib.run_from_unsafe w ⟨b,off,none⟩ u152 u91 hj hsh hl]
 simp only [Result.andThen]
 rw [Oper.upon_value]
 go_wp2
 go_end0
 exact ⟨rfl,rfl⟩

end Go.Proofs.YtfcgnpphabplbaaDoor

namespace Go.Proofs.YtfcgnpphabplbaaDoor
open Go.RowKit

/-- What a call leaves: cells frozen, all else as it was. -/
def FrozeOnly (w w':World):Prop:=w'.heap=w.heap∧w'.os=w.os∧(w'.output,w'.tape)=(w.output,w.tape)

set_option maxHeartbeats 2000000 in
set_option maxRecDepth 100000 in
theorem string_some (b off g cap cells:Nat) (l:List UInt8) (w:World) (h0:w.cell? ⟨b,off+1,none⟩=some (.slice (some ⟨g,0,none⟩) l.length cap)) (hcap:cap≠0) (hsh:w.shape? g=some (5,cells)) (hl:l ≠ []) (hlen:l.length≤cells) (h63:l.length≤9223372036854775807)
  (hc: ∀ (j:Nat) (x:UInt8),l[j]? = some x→w.cell? ⟨g,j,none⟩=some (.int .u8 x.toNat)) :
  Calls Tryd.prog 25 #[.pointer (some ⟨b,off,none⟩)] w fun e w'=>e= .returned (.string ⟨l.toArray⟩)∧FrozeOnly (w.freeze ⟨g,0,none⟩ l.length) w':=by
 have mixed:Tryd.prog.follows .mixedOrders=true:=by kernel_rfl
 have u91:Tryd.prog.underlying 60=some (.pointer 62):=by kernel_rfl
 have u92:Tryd.prog.underlying 23=some (.slice 5):=by kernel_rfl
 have u146:Tryd.prog.underlying 93=some (.pointer 5):=by kernel_rfl
 have hcb:Tryd.prog.cellsOf 5=1:=by kernel_rfl
 have c1:w.drew.cell? ⟨b,off+1,none⟩=some (.slice (some ⟨g,0,none⟩) l.length cap):=h0
 have hSD:(Builtin.unsafeSliceData_ #[23] 93 #[.slice (some ⟨g,0,none⟩) l.length cap]).run Tryd.prog w.drew= .ok (.pointer (some ⟨g,0,none⟩)) w.drew :=
  Lib.run_unsafeSliceData_row _ _ _ _ _ _ hcap
 have hUS:(Builtin.unsafeString_ #[93,3] 9 #[.pointer (some ⟨g,0,none⟩), .int .i64 l.length]).run Tryd.prog w.drew= .ok (.string ⟨l.toArray⟩) (w.drew.freeze ⟨g,0,none⟩ l.length):=by
  refine Lib.run_unsafeString_row w.drew 93 3 9 5 u146 hcb g cells hsh l hl hlen h63 ?_
  intro j x hx
  have:=hc j x hx
  rw [Addr.add_lit,Nat.zero_add];exact this
 go_enter Tryd.func25,Tryd.ntmps25
 go_wp2
 go_region_o
 all_goals (go_wp2;go_ret;exact ⟨rfl,by unfold FrozeOnly World.freeze;split<;>exact ⟨rfl,rfl,rfl⟩⟩)

set_option maxHeartbeats 2000000 in
set_option maxRecDepth 100000 in
theorem string_none (b off:Nat) (w:World) (h0:w.cell? ⟨b,off+1,none⟩=some (.slice none 0 0)) :
  Calls Tryd.prog 25 #[.pointer (some ⟨b,off,none⟩)] w fun e w'=>e= .returned (.string ⟨#[]⟩)∧FrozeOnly w w':=by
 have mixed:Tryd.prog.follows .mixedOrders=true:=by kernel_rfl
 have u91:Tryd.prog.underlying 60=some (.pointer 62):=by kernel_rfl
 have hUS: ∀ (W:World) (q:Option Addr),(Builtin.unsafeString_ #[93,3] 9 #[.pointer q, .int .i64 0]).run Tryd.prog W= .ok (.string .empty) W:=fun W q=>Lib.run_unsafeString_none W _ _ _ q
 have c1:w.drew.cell? ⟨b,off+1,none⟩=some (.slice none 0 0):=h0
 have hSD:(Builtin.unsafeSliceData_ #[23] 93 #[.slice none 0 0]).run Tryd.prog w.drew= .ok (.pointer none) w.drew:=rfl
 go_enter Tryd.func25,Tryd.ntmps25
 go_wp2
 go_region_o
 all_goals (go_wp2;go_ret;exact ⟨rfl,rfl,rfl,rfl⟩)
end Go.Proofs.YtfcgnpphabplbaaDoor

namespace Go.Ak

/-- Where builders lie: themselves. -/
def okB (ty k off:Nat):Bool:=Nat.beq ty 4&&Nat.beq k 2&&Nat.beq off 0

def spCheck (bar:Nat) (xs:List AV) (H:Heap):Option (Out×Heap) :=
 match xs with
 | [.tptr ty k id off]=>bif okB ty k off then
   match H[id]? with
   | some (some cs)=>match cs[off]? with
    | some .nilp=>bif Nat.ble bar id then some (.ret (.tup []),H.set id (some (cs.set off (.tptr ty k id off)))) else none
    | some (.tptr _ _ id' off')=>bif Nat.beq id' id&&Nat.beq off' off then some (.ret (.tup []),H) else none
    | _=>none
   | _=>none
  else none
 | _=>none

def spString (bar:Nat) (xs:List AV) (H:Heap):Option (Out×Heap) :=
 match xs with
 | [.tptr _ _ id off]=>match H[id]? with
  | some (some cs)=>match cs[off+1]? with
   | some .nils=>some (.ret (.str []),H)
   | some (.bsl q n)=>bif Nat.ble bar q&&Nat.ble 1 n&&Nat.ble n lim then
     match H[q]? with
     | some (some bs)=>match sub bs 0 n with
      | some l=>match strOf l with
       | some s=>bif beqL l (bytesOf s) then some (.ret (.str s),H.set q none) else none
       | none=>none
      | none=>none
     | _=>none
    else none
   | _=>none
  | _=>none
 | _=>none

end Go.Ak

namespace Go.Proofs.YtfcgnpphabplbaaDoor
open Go.Ak

section
variable {G:Nat→Option Obj} {bar:Nat} {xs:List AV} {H H':Heap} {out:Out}

theorem okB_lies {ty k off:Nat} (h:okB ty k off=true):off<k∧liesAt Tryd.prog Tryd.prog.depth (tmTryd ty) (k/Tryd.prog.cellsOf (tmTryd ty)) off 62 1=true:=by
 simp only [okB,Bool.and_eq_true] at h
 obtain ⟨⟨h1,h2⟩,h3⟩:=h
 have h1:=zab h1;have h2:=zab h2;have h3:=zab h3;subst h1;subst h2;subst h3
 exact ⟨by omega,by kernel_rfl⟩

theorem one_arg {T:Tr} {g:Gh} {w:World} {a:AV} {us:List Value} (h:ArgsV T g w 0 [a] us): ∃ u,us= [u]∧SV T g w (.arg 0) a u:=by
 cases h with
 | cons _ _ v _ vs h1 h2=>cases h2;exact ⟨v,rfl,h1⟩

theorem spCheck_ok (he:spCheck bar xs H=some (out,H')) {g:Gh} {w:World} {us:List Value} (hh:HeapR (zaa G) g w H) (ha:ArgsV (zaa G) g w 0 xs us) :
  Calls Tryd.prog 39 us.toArray w (zaI (zaa G) bar g w out H'):=by
 unfold spCheck at he
 split at he
 ·rename_i ty k id off
  obtain ⟨u,rfl,hu⟩:=one_arg ha
  obtain ⟨b,hb,hsh,rfl⟩:=V.tptr_inv (show V (zaa G) g w (.tptr ty k id off) u from hu)
  cases hok:okB ty k off with
  | false=>simp [hok] at he
  | true =>
   obtain ⟨hoff,hlies⟩:=okB_lies hok
   simp only [hok,cond_true] at he
   split at he
   ·rename_i cs hid
    split at he
    ·rename_i hc
     obtain ⟨v,c1,c2,c3⟩:=hh.cell hb hid hc
     have:=V.nilp_inv c2
     subst this
     cases hbar:Nat.ble bar id with
     | false=>simp [hbar] at he
     | true =>
      simp only [hbar,cond_true,Option.some.injEq,Prod.mk.injEq] at he
      obtain ⟨rfl,rfl⟩:=he
      obtain ⟨e1,e2⟩:=hh.set1 (off:=off) (a:= .tptr ty k id off) (u:= .pointer (some ⟨b,off,none⟩)) hb (Nat.le_of_ble_eq_true hbar) hid (List.getElem?_eq_some_iff.1 hc).1 (.tptr ty k id off b hb hsh) rfl
      refine (copyCheck_fresh b off _ k w c1 hsh hoff c3 hlies).mono fun e w' ⟨he,hw⟩=> ?_
      subst he;subst hw
      exact ⟨g,_,rfl,e1,e2,SV.of_V (.tup [] [] .nil)⟩
    ·rename_i ty' k' id' off' hc
     obtain ⟨v,c1,c2,c3⟩:=hh.cell hb hid hc
     obtain ⟨b',hb',_,rfl⟩:=V.tptr_inv c2
     cases hsame:(Nat.beq id' id&&Nat.beq off' off) with
     | false=>simp [hsame] at he
     | true =>
      simp only [hsame,cond_true,Option.some.injEq,Prod.mk.injEq] at he
      obtain ⟨rfl,rfl⟩:=he
      simp only [Bool.and_eq_true] at hsame
      have q1:=zab hsame.1
      have q2:=zab hsame.2
      subst q1;subst q2
      rw [hb] at hb';cases hb'
      refine (copyCheck_used b _ w c1).mono fun e w' ⟨he,hw⟩=> ?_
      subst he;subst hw
      exact ⟨g,_,rfl, .refl _ _ _,hh,SV.of_V (.tup [] [] .nil)⟩
    ·cases he
   ·cases he
 ·cases he

theorem spString_ok (he:spString bar xs H=some (out,H')) {g:Gh} {w:World} {us:List Value} (hh:HeapR (zaa G) g w H) (ha:ArgsV (zaa G) g w 0 xs us) :
  Calls Tryd.prog 25 us.toArray w (zaI (zaa G) bar g w out H'):=by
 unfold spString at he
 split at he
 ·rename_i ty k id off
  obtain ⟨u,rfl,hu⟩:=one_arg ha
  obtain ⟨b,hb,hsh,rfl⟩:=V.tptr_inv (show V (zaa G) g w (.tptr ty k id off) u from hu)
  split at he
  ·rename_i cs hid
   split at he
   ·rename_i hc
    obtain ⟨v,c1,c2,c3⟩:=hh.cell hb hid hc
    have:=V.nils_inv c2
    subst this
    simp only [Option.some.injEq,Prod.mk.injEq] at he
    obtain ⟨rfl,rfl⟩:=he
    refine (string_none b off w c1).mono fun e w' ⟨he,h1,h2,h3⟩=> ?_
    subst he
    obtain ⟨e1,e2⟩:=hh.same (bar:=bar) h1 h2 h3
    exact ⟨g,_,rfl,e1,e2,SV.of_V (.str [])⟩
   ·rename_i q n hc
    obtain ⟨v,c1,c2,c3⟩:=hh.cell hb hid hc
    obtain ⟨b',cap,m,k1,k2,k3,k4,rfl⟩:=V.bsl_inv c2
    cases hcond:(Nat.ble bar q&&Nat.ble 1 n&&Nat.ble n lim) with
    | false=>simp [hcond] at he
    | true =>
     simp only [hcond,cond_true] at he
     simp only [Bool.and_eq_true] at hcond
     obtain ⟨⟨q1,q2⟩,q3⟩:=hcond
     have q1:=Nat.le_of_ble_eq_true q1
     have q2:=Nat.le_of_ble_eq_true q2
     have q3:=Nat.le_of_ble_eq_true q3
     simp only [lim] at q3
     split at he
     ·rename_i bs hq
      split at he
      ·rename_i l hl
       split at he
       ·rename_i s hs
        cases hbeq:beqL l (bytesOf s) with
        | false=>simp [hbeq] at he
        | true =>
         simp only [hbeq,cond_true,Option.some.injEq,Prod.mk.injEq] at he
         obtain ⟨rfl,rfl⟩:=he
         have hls:=zbx _ _ hbeq
         subst hls
         obtain ⟨s1,s2⟩:=sub_some hl
         have hn:s.length=n:=by
          have:=congrArg List.length s2
          simp [bytesOf] at this
          simp at s1;omega
         obtain ⟨b2,arr,j1,⟨j2,j3,j4⟩,j5,j6⟩:=hh.objs q bs hq
         rw [k1] at j1;cases j1
         refine (string_some b off b' cap m s w (by rw [hn];exact c1) (by omega) k2 (fun e=>by subst e;simp at hn;omega) (by omega) (by omega) fun j x hx=> ?_).mono fun e w' ⟨he,h1,h2,h3⟩=> ?_
         ·have hj:(bytesOf s)[j]? = some (.int .u8 x.toNat):=by simp [bytesOf,hx]
          have hjb:bs[j]? = some (.int .u8 x.toNat):=by
           rw [s2] at hj
           simp only [List.drop_zero,List.getElem?_take] at hj
           split at hj
           ·exact hj
           ·cases hj
          obtain ⟨v,c1,c2,_⟩:=hh.cell k1 hq hjb
          rw [V.int_inv c2] at c1
          exact c1
         ·subst he
          have hw:(w.freeze ⟨b',0,none⟩ s.length).os=w.os∧((w.freeze ⟨b',0,none⟩ s.length).output,(w.freeze ⟨b',0,none⟩ s.length).tape)=(w.output,w.tape):=by
           unfold World.freeze;split<;>exact ⟨rfl,rfl⟩
          obtain ⟨e1,e2⟩:=hh.frozen (bar:=bar) k1 j2 q1 h1 (h2.trans hw.1) (h3.trans hw.2)
          exact ⟨g,_,rfl,e1,e2,SV.of_V (.str s)⟩
       ·cases he
      ·cases he
     ·cases he
   ·cases he
  ·cases he
 ·cases he

end
end Go.Proofs.YtfcgnpphabplbaaDoor

set_option maxRecDepth 100000
namespace Go.Proofs.YtfcgnpphabplbaaDoor
open Go.Shelf

def Tryd.lays219_ren:Go.Shelf.Ren:=⟨fun | 219=>56 | 217=>35 | 225=>64 | 224=>65 | 267=>66 | 266=>52 | 314=>71 | n=>n,fun | 9=>9 | 3=>3 | 4=>4 | 5=>5 | 46=>113 | 146=>122 | 51=>121 | n=>n,fun | 1=>0 | n=>n⟩

theorem Tryd.lays219:Go.Proofs.Lays.n219 Tryd.prog Tryd.lays219_ren:= {
 mixed:=by kernel_rfl,
 f217:=Tryd.func35.trans (congrArg some (by kernel_rfl)),
 f219:=Tryd.func56.trans (congrArg some (by kernel_rfl)),
 f224:=Tryd.func65.trans (congrArg some (by kernel_rfl)),
 f225:=Tryd.func64.trans (congrArg some (by kernel_rfl)),
 f266:=Tryd.func52.trans (congrArg some (by kernel_rfl)),
 f267:=Tryd.func66.trans (congrArg some (by kernel_rfl)),
 f314:=Tryd.func71.trans (congrArg some (by kernel_rfl)),
 t3:=Tryd.underlying3,
 a3:=Tryd.isAgg3,
 z3:=Tryd.sizeOf3,
 v3:=Tryd.zeroValue3,
 t4:=Tryd.underlying4,
 a4:=Tryd.isAgg4,
 z4:=Tryd.sizeOf4,
 v4:=Tryd.zeroValue4,
 t5:=Tryd.underlying5,
 a5:=Tryd.isAgg5,
 z5:=Tryd.sizeOf5,
 v5:=Tryd.zeroValue5,
 t9:=Tryd.underlying9,
 a9:=Tryd.isAgg9,
 z9:=Tryd.sizeOf9,
 v9:=Tryd.zeroValue9,
 t46:=Tryd.underlying113,
 a46:=Tryd.isAgg113,
 z46:=Tryd.sizeOf113,
 v46:=Tryd.zeroValue113,
 t51:=Tryd.underlying121,
 a51:=Tryd.isAgg121,
 z51:=Tryd.sizeOf121,
 v51:=Tryd.zeroValue121,
 t146:=Tryd.underlying122,
 a146:=Tryd.isAgg122,
 z146:=Tryd.sizeOf122,
 v146:=Tryd.zeroValue122,
 g1:=by kernel_rfl }

def Tryd.lays146_ren:Go.Shelf.Ren:=⟨fun | 146=>12 | 221=>22 | 268=>36 | 138=>37 | 143=>38 | 195=>53 | 197=>54 | 218=>55 | 219=>56 | 260=>63 | 217=>35 | 225=>64 | 224=>65 | 267=>66 | 266=>52 | 314=>71 | n=>n,fun | 9=>9 | 31=>24 | 3=>3 | 4=>4 | 0=>0 | 105=>103 | 21=>21 | 5=>5 | 46=>113 | 119=>117 | 139=>120 | 138=>119 | 146=>122 | 51=>121 | n=>n,fun | 1=>0 | 3=>1 | 4=>2 | n=>n⟩

theorem Tryd.lays146:Go.Proofs.Lays.n146 Tryd.prog Tryd.lays146_ren:= {
 mixed:=by kernel_rfl,
 f138:=Tryd.func37.trans (congrArg some (by kernel_rfl)),
 f143:=Tryd.func38.trans (congrArg some (by kernel_rfl)),
 f146:=Tryd.func12.trans (congrArg some (by kernel_rfl)),
 f195:=Tryd.func53.trans (congrArg some (by kernel_rfl)),
 f197:=Tryd.func54.trans (congrArg some (by kernel_rfl)),
 f217:=Tryd.func35.trans (congrArg some (by kernel_rfl)),
 f218:=Tryd.func55.trans (congrArg some (by kernel_rfl)),
 f219:=Tryd.func56.trans (congrArg some (by kernel_rfl)),
 f221:=Tryd.func22.trans (congrArg some (by kernel_rfl)),
 f224:=Tryd.func65.trans (congrArg some (by kernel_rfl)),
 f225:=Tryd.func64.trans (congrArg some (by kernel_rfl)),
 f260:=Tryd.func63.trans (congrArg some (by kernel_rfl)),
 f266:=Tryd.func52.trans (congrArg some (by kernel_rfl)),
 f267:=Tryd.func66.trans (congrArg some (by kernel_rfl)),
 f268:=Tryd.func36.trans (congrArg some (by kernel_rfl)),
 f314:=Tryd.func71.trans (congrArg some (by kernel_rfl)),
 t0:=Tryd.underlying0,
 a0:=Tryd.isAgg0,
 z0:=Tryd.sizeOf0,
 v0:=Tryd.zeroValue0,
 t3:=Tryd.underlying3,
 a3:=Tryd.isAgg3,
 z3:=Tryd.sizeOf3,
 v3:=Tryd.zeroValue3,
 t4:=Tryd.underlying4,
 a4:=Tryd.isAgg4,
 z4:=Tryd.sizeOf4,
 v4:=Tryd.zeroValue4,
 t5:=Tryd.underlying5,
 a5:=Tryd.isAgg5,
 z5:=Tryd.sizeOf5,
 v5:=Tryd.zeroValue5,
 t9:=Tryd.underlying9,
 a9:=Tryd.isAgg9,
 z9:=Tryd.sizeOf9,
 v9:=Tryd.zeroValue9,
 t21:=Tryd.underlying21,
 a21:=Tryd.isAgg21,
 z21:=Tryd.sizeOf21,
 v21:=Tryd.zeroValue21,
 t31:=Tryd.underlying24,
 a31:=Tryd.isAgg24,
 z31:=Tryd.sizeOf24,
 v31:=Tryd.zeroValue24,
 t46:=Tryd.underlying113,
 a46:=Tryd.isAgg113,
 z46:=Tryd.sizeOf113,
 v46:=Tryd.zeroValue113,
 t51:=Tryd.underlying121,
 a51:=Tryd.isAgg121,
 z51:=Tryd.sizeOf121,
 v51:=Tryd.zeroValue121,
 t105:=Tryd.underlying103,
 a105:=Tryd.isAgg103,
 z105:=Tryd.sizeOf103,
 v105:=Tryd.zeroValue103,
 t119:=Tryd.underlying117,
 a119:=Tryd.isAgg117,
 z119:=Tryd.sizeOf117,
 t138:=Tryd.underlying119,
 a138:=Tryd.isAgg119,
 z138:=Tryd.sizeOf119,
 v138:=Tryd.zeroValue119,
 t139:=Tryd.underlying120,
 a139:=Tryd.isAgg120,
 z139:=Tryd.sizeOf120,
 v139:=Tryd.zeroValue120,
 t146:=Tryd.underlying122,
 a146:=Tryd.isAgg122,
 z146:=Tryd.sizeOf122,
 v146:=Tryd.zeroValue122,
 g1:=by kernel_rfl,
 g3:=by kernel_rfl,
 g4:=by kernel_rfl }

def Tryd.lays156_ren:Go.Shelf.Ren:=⟨fun | 156=>13 | 165=>23 | 166=>24 | 169=>25 | 240=>39 | 241=>40 | 276=>57 | 277=>58 | n=>n,fun | 31=>24 | 9=>9 | 3=>3 | 4=>4 | 0=>0 | 20=>20 | 72=>62 | 76=>66 | 70=>60 | 37=>23 | 75=>65 | 127=>93 | 164=>105 | 5=>5 | 80=>68 | n=>n,fun | n=>n⟩

theorem Tryd.lays156:Go.Proofs.Lays.n156 Tryd.prog Tryd.lays156_ren:= {
 mixed:=by kernel_rfl,
 f156:=Tryd.func13.trans (congrArg some (by kernel_rfl)),
 f165:=Tryd.func23.trans (congrArg some (by kernel_rfl)),
 f166:=Tryd.func24.trans (congrArg some (by kernel_rfl)),
 f169:=Tryd.func25.trans (congrArg some (by kernel_rfl)),
 f240:=Tryd.func39.trans (congrArg some (by kernel_rfl)),
 f241:=Tryd.func40.trans (congrArg some (by kernel_rfl)),
 f276:=Tryd.func57.trans (congrArg some (by kernel_rfl)),
 f277:=Tryd.func58.trans (congrArg some (by kernel_rfl)),
 t0:=Tryd.underlying0,
 a0:=Tryd.isAgg0,
 z0:=Tryd.sizeOf0,
 v0:=Tryd.zeroValue0,
 t3:=Tryd.underlying3,
 a3:=Tryd.isAgg3,
 z3:=Tryd.sizeOf3,
 v3:=Tryd.zeroValue3,
 t4:=Tryd.underlying4,
 a4:=Tryd.isAgg4,
 z4:=Tryd.sizeOf4,
 v4:=Tryd.zeroValue4,
 t9:=Tryd.underlying9,
 a9:=Tryd.isAgg9,
 z9:=Tryd.sizeOf9,
 v9:=Tryd.zeroValue9,
 t20:=Tryd.underlying20,
 a20:=Tryd.isAgg20,
 z20:=Tryd.sizeOf20,
 v20:=Tryd.zeroValue20,
 t31:=Tryd.underlying24,
 a31:=Tryd.isAgg24,
 z31:=Tryd.sizeOf24,
 v31:=Tryd.zeroValue24,
 t37:=Tryd.underlying23,
 a37:=Tryd.isAgg23,
 z37:=Tryd.sizeOf23,
 v37:=Tryd.zeroValue23,
 t70:=Tryd.underlying60,
 a70:=Tryd.isAgg60,
 z70:=Tryd.sizeOf60,
 v70:=Tryd.zeroValue60,
 t72:=Tryd.underlying62,
 a72:=Tryd.isAgg62,
 z72:=Tryd.sizeOf62,
 v72:=Tryd.zeroValue62,
 t75:=Tryd.underlying65,
 a75:=Tryd.isAgg65,
 z75:=Tryd.sizeOf65,
 v75:=Tryd.zeroValue65,
 t76:=Tryd.underlying66,
 a76:=Tryd.isAgg66,
 z76:=Tryd.sizeOf66,
 v76:=Tryd.zeroValue66,
 t127:=Tryd.underlying93,
 a127:=Tryd.isAgg93,
 z127:=Tryd.sizeOf93,
 v127:=Tryd.zeroValue93,
 t164:=Tryd.underlying105,
 a164:=Tryd.isAgg105,
 z164:=Tryd.sizeOf105,
 v164:=Tryd.zeroValue105 }

end Go.Proofs.YtfcgnpphabplbaaDoor

namespace Go.Proofs.YtfcgnpphabplbaaDoor
open Go.RowKit Go.Lib

set_option maxHeartbeats 1000000 in
set_option maxRecDepth 100000 in
theorem Tryd.indexByte (s:ByteArray) (c:Int) (w:World) :
  Calls Tryd.prog 35 #[.string s, .int .u8 c] w fun e w'=>e= .returned (.int .i64 (Lib.indexByte s.data.toList c.toNat.toUInt8))∧w'=w:=by
 have mixed:Tryd.prog.follows .mixedOrders=true:=by kernel_rfl
 go_enter Tryd.func35,Tryd.ntmps35
 go_wp2
 rw [run_callFunc_extern Tryd.func52 (by kernel_rfl) (by kernel_rfl) (by kernel_rfl) (e:=Extern.BytealgIndexByte.indexByte) (by kernel_rfl),Lib.run_indexByteString]
 simp only [Result.andThen]
 rw [Oper.upon_value]
 go_wp2
 go_ret
 exact ⟨rfl,rfl⟩

set_option maxHeartbeats 4000000 in
set_option maxRecDepth 100000 in
theorem Tryd.index_one (s:ByteArray) (c:UInt8) (w:World) :
  Calls Tryd.prog 56 #[.string s, .string ⟨#[c]⟩] w fun e w'=>e= .returned (.int .i64 (Lib.indexByte s.data.toList c))∧w'=w:=by
 have mixed:Tryd.prog.follows .mixedOrders=true:=by kernel_rfl
 have e126: ∀ args w,(callFunc 35 args).run Tryd.prog w= .ok (.enter 35 args) w:=enters_of Tryd.func35 (by kernel_rfl) rfl
 go_enter Tryd.func56,Tryd.ntmps56
 go_wp2_with (go_at_fn 35;refine (Tryd.indexByte _ _ _).mono ?_;rintro e w' ⟨rfl,rfl⟩)
 ·have h:([c]==s.toList)=true:=by assumption
  go_ret
  refine ⟨?_,rfl⟩
  have e:s.data.toList= [c]:=by rw [←Lib.toList_data];exact (beq_iff_eq.1 h).symm
  rw [e]
  simp [Lib.indexByte]
 ·go_ret
  exact ⟨rfl,rfl⟩
end Go.Proofs.YtfcgnpphabplbaaDoor

namespace Go.Ak
def spIndex (xs:List AV) (H:Heap):Option (Out×Heap) :=
 match xs with
 | [.str s, .str [c]]=>some (.ret (.int .i64 (Lib.indexByte s c)),H)
 | [.str s, .str t]=>bif Nat.blt s.length 4294967281 then some (.ret (.int .i64 (Lib.index s t)),H) else none
 | _=>none

def spA (_:Nat) (_:Nat→CallF) (bar:Nat):CallF:=fun f xs H =>
 bif Nat.beq f 79 then spCheck bar xs H else bif Nat.beq f 55 then spString bar xs H else bif Nat.beq f 112 then spIndex xs H else none
end Go.Ak

namespace Go.Proofs.YtfcgnpphabplbaaDoor
open Go.Ak
section
variable {G:Nat→Option Obj} {bar:Nat} {xs:List AV} {H H':Heap} {out:Out}

theorem two_args {T:Tr} {g:Gh} {w:World} {a b:AV} {us:List Value} (h:ArgsV T g w 0 [a,b] us): ∃ u v,us= [u,v]∧SV T g w (.arg 0) a u∧SV T g w (.arg 1) b v:=by
 cases h with
 | cons _ _ u _ vs h1 h2 =>
  cases h2 with
  | cons _ _ v _ ws h3 h4=>cases h4;exact ⟨u,v,rfl,h1,h3⟩

/-- What the kept globals must be: the library's variable MaxLen holds some number. -/
def GlobalOK (G:Nat→Option Obj):Prop:= ∃ m c ty fz,G (Tryd.lays219_ren.g 1)=some (.cells c ty fz)∧c[0]? = some (.int .i64 m)

theorem spIndex_ok (hG:GlobalOK G) (he:spIndex xs H=some (out,H')) {g:Gh} {w:World} {us:List Value} (hh:HeapR (zaa G) g w H) (ha:ArgsV (zaa G) g w 0 xs us) :
  Calls Tryd.prog 56 us.toArray w (zaI (zaa G) bar g w out H'):=by
 unfold spIndex at he
 split at he
 ·rename_i s c
  obtain ⟨u,v,rfl,hu,hv⟩:=two_args ha
  have:=V.str_inv (show V (zaa G) g w (.str s) u from hu)
  subst this
  have:=V.str_inv (show V (zaa G) g w (.str [c]) v from hv)
  subst this
  simp only [Option.some.injEq,Prod.mk.injEq] at he
  obtain ⟨rfl,rfl⟩:=he
  refine (Tryd.index_one ⟨s.toArray⟩ c w).mono fun e w' ⟨he,hw⟩=> ?_
  subst he;subst hw
  exact ⟨g,_,rfl, .refl _ _ _,hh,SV.of_V (.int _ _)⟩
 ·rename_i s t _
  obtain ⟨u,v,rfl,hu,hv⟩:=two_args ha
  have:=V.str_inv (show V (zaa G) g w (.str s) u from hu)
  subst this
  have:=V.str_inv (show V (zaa G) g w (.str t) v from hv)
  subst this
  cases hl:Nat.blt s.length 4294967281 with
  | false=>simp [hl] at he
  | true =>
   simp only [hl,cond_true,Option.some.injEq,Prod.mk.injEq] at he
   obtain ⟨rfl,rfl⟩:=he
   obtain ⟨m,c,ty,fz,hg,hc⟩:=hG
   obtain ⟨_,hw⟩:=hh.gl _ _ (show (zaa G).gl _=_ from hg)
   have hs:(⟨s.toArray⟩:ByteArray).size<4294967281:=by
    have:s.length<4294967281:=by simpa [Nat.blt_eq] using hl
    simpa [ByteArray.size] using this
   refine (Any.stringslite_Index Tryd.lays219 ⟨s.toArray⟩ ⟨t.toArray⟩ m w hs (by simpa [World.cell?,hw] using hc)).mono fun e w' ⟨he,hw⟩=> ?_
   subst he;subst hw
   exact ⟨g,_,rfl, .refl _ _ _,hh,SV.of_V (.int _ _)⟩
 ·cases he

theorem spA_ok (hG:GlobalOK G):SpOK (zaa G) fsT spA:=by
 intro n runs _ bar f xs H out H' _ he
 unfold spA at he
 cases h79:Nat.beq f 79 with
 | true =>
  have:=zab h79
  subst this
  exact ⟨by kernel_rfl,fun g w us hh ha=>spCheck_ok (by exact he) hh ha⟩
 | false =>
  cases h55:Nat.beq f 55 with
  | true =>
   have:=zab h55
   subst this
   exact ⟨by kernel_rfl,fun g w us hh ha=>spString_ok (by exact he) hh ha⟩
  | false =>
   cases h112:Nat.beq f 112 with
   | true =>
    have:=zab h112
    subst this
    exact ⟨by kernel_rfl,fun g w us hh ha=>spIndex_ok hG (by exact he) hh ha⟩
   | false=>simp [h79,h55,h112] at he
end
end Go.Proofs.YtfcgnpphabplbaaDoor

