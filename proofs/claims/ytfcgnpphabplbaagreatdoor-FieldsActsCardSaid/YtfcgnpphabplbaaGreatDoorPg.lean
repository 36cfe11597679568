/- What a builder's copyCheck and String do, and Index: functions told by functions of their own. -/
import Derived.Lib.Builder
import Derived.WalkKit
import Derived.Laws.Externs
import Derived.ProofKit
import Derived.Test.YtfcgnpphabplbaaGreatDoorProg
import Derived.Lib.UnsafeStr
import Derived.Shelf.RegionOpenPlain
import Derived.Test.YtfcgnpphabplbaaGreatDoorPc
import Derived.Test.YtfcgnpphabplbaaGreatDoorPf
import Derived.Shelf.Strings.Search2
import Derived.Shelf.Strings.Split
import Derived.Shelf.Strings.OnBuilder
import Derived.Shelf.Strings.FieldsFuncGrows
import Derived.Lib.Walk
import Derived.Lib.Strings
import Derived.Lib.Bytealg
import Derived.BigCall
import Derived.BigGuard
import Derived.Laws.Strings3
set_option linter.unusedVariables false
set_option linter.unusedSimpArgs false
namespace Go.Proofs.YtfcgnpphabplbaaGreatDoor
open Go.RowKit
set_option maxHeartbeats 1000000 in
set_option maxRecDepth 100000 in
theorem zqu(b ai:Nat)(w:World)(h0:w.cell? ⟨b,ai,none⟩=some (.pointer (some ⟨b,ai,none⟩))):
  Calls Tryz.prog 119 #[.pointer (some ⟨b,ai,none⟩)] w fun e w'=>e=.returned (.tuple #[])∧w'=w:=by
 have u91:Tryz.prog.underlying 131=some (.pointer 133):=by kernel_rfl
 obtain⟨j,hj⟩:=Qb.1 (by kernel_rfl:(Tryz.prog.info? 133).isSome=true);go_enter Tryz.func119,Tryz.ntmps119
 go_wp2
 rw[Lib.run_neq_ptr_same w _ u91 hj];go_wp2
 go_end0
 exact⟨rfl,rfl⟩
set_option maxHeartbeats 1000000 in
set_option maxRecDepth 100000 in
theorem zqv(b ai e cells:Nat)(w:World)(h0:w.cell? ⟨b,ai,none⟩=some (.pointer none))(hsh:w.shape? b=some (e,cells))(hoff:ai<cells)(hfz:w.frozen? ⟨b,ai,none⟩=false)
  (hl:liesAt Tryz.prog Tryz.prog.depth e (cells/Tryz.prog.cellsOf e) ai 133 1=true) :
  Calls Tryz.prog 119 #[.pointer (some ⟨b,ai,none⟩)] w fun e w'=>e=.returned (.tuple #[])∧w'=w.setCell ⟨b,ai,none⟩ (.pointer (some ⟨b,ai,none⟩)):=by
 have u91:Tryz.prog.underlying 131=some (.pointer 133):=by kernel_rfl
 have u152:Tryz.prog.underlying 180=some .unsafePointer:=by kernel_rfl
 obtain⟨j,hj⟩:=Qb.1 (by kernel_rfl:(Tryz.prog.info? 133).isSome=true);have hjs:j.size≠0:=by
  have:(Tryz.prog.info? 133).map (·.size)=some 2:=by kernel_rfl
  rw[hj]at this;simp at this;omega
 go_enter Tryz.func119,Tryz.ntmps119
 go_wp2
 rw[Lib.run_to_unsafe w ⟨b,ai,none⟩ u91 u152 hj hjs hsh hoff];simp only[Result.andThen];rw[Oper.upon_value];go_wp2
 rw[run_callFunc_extern Tryz.func142 (by kernel_rfl) (by kernel_rfl) (by kernel_rfl) (e:=Extern.AbiNoEscape.same) (by kernel_rfl)];rw[Lib.run_noEscape];simp only[Result.andThen];rw[Oper.upon_value];go_wp2
 rw[Lib.run_from_unsafe w ⟨b,ai,none⟩ u152 u91 hj hsh hl];simp only[Result.andThen];rw[Oper.upon_value];go_wp2
 go_end0
 exact⟨rfl,rfl⟩
end Go.Proofs.YtfcgnpphabplbaaGreatDoor
namespace Go.Proofs.YtfcgnpphabplbaaGreatDoor
open Go.RowKit
def zbx(w w':World):Prop:=w'.heap=w.heap∧w'.os=w.os∧(w'.output,w'.tape)=(w.output,w.tape)
set_option maxHeartbeats 2000000 in
set_option maxRecDepth 100000 in
theorem zjR(b ai g cap cells:Nat)(l:List UInt8)(w:World)(h0:w.cell? ⟨b,ai+1,none⟩=some (.slice (some ⟨g,0,none⟩) l.length cap))(mZ:cap≠0)(hsh:w.shape? g=some (5,cells))(hl:l ≠ [])(bq:l.length<=cells)(h63:l.length<=9223372036854775807)
  (hc:∀(j:Nat)(x:UInt8),l[j]?=some x->w.cell? ⟨g,j,none⟩=some (.int .u8 x.toNat)) :
  Calls Tryz.prog 89 #[.pointer (some ⟨b,ai,none⟩)] w fun e w'=>e=.returned (.string ⟨l.toArray⟩)∧zbx (w.freeze ⟨g,0,none⟩ l.length) w':=by
 have mixed:Tryz.prog.follows .mixedOrders=true:=by kernel_rfl
 have u91:Tryz.prog.underlying 131=some (.pointer 133):=by kernel_rfl
 have u92:Tryz.prog.underlying 33=some (.slice 5):=by kernel_rfl
 have u146:Tryz.prog.underlying 160=some (.pointer 5):=by kernel_rfl
 have hcb:Tryz.prog.cellsOf 5=1:=by kernel_rfl
 have c1:w.drew.cell? ⟨b,ai+1,none⟩=some (.slice (some ⟨g,0,none⟩) l.length cap):=h0;have hSD:(Builtin.unsafeSliceData_ #[33] 160 #[.slice (some ⟨g,0,none⟩) l.length cap]).run Tryz.prog w.drew=.ok (.pointer (some ⟨g,0,none⟩)) w.drew:=
  Lib.run_unsafeSliceData_row _ _ _ _ _ _ mZ
 have hUS:(Builtin.unsafeString_ #[160,3] 9 #[.pointer (some ⟨g,0,none⟩),.int .i64 l.length]).run Tryz.prog w.drew=.ok (.string ⟨l.toArray⟩) (w.drew.freeze ⟨g,0,none⟩ l.length):=by
  refine Lib.run_unsafeString_row w.drew 160 3 9 5 u146 hcb g cells hsh l hl bq h63 ?_;intro j x hx;have:=hc j x hx;rw[Addr.add_lit,jZ];exact this
 go_enter Tryz.func89,Tryz.ntmps89
 go_wp2
 go_region_o
 all_goals (go_wp2;go_ret;exact⟨rfl,by unfold zbx World.freeze;split<;>exact⟨rfl,rfl,rfl⟩⟩)
set_option maxHeartbeats 2000000 in
set_option maxRecDepth 100000 in
theorem zjS(b ai:Nat)(w:World)(h0:w.cell? ⟨b,ai+1,none⟩=some (.slice none 0 0)):
  Calls Tryz.prog 89 #[.pointer (some ⟨b,ai,none⟩)] w fun e w'=>e=.returned (.string ⟨#[]⟩)∧zbx w w':=by
 have mixed:Tryz.prog.follows .mixedOrders=true:=by kernel_rfl
 have u91:Tryz.prog.underlying 131=some (.pointer 133):=by kernel_rfl
 have hUS:∀(W:World)(q:Option Addr),(Builtin.unsafeString_ #[160,3] 9 #[.pointer q,.int .i64 0]).run Tryz.prog W=.ok (.string .empty) W:=fun W q=>Lib.run_unsafeString_none W _ _ _ q;have c1:w.drew.cell? ⟨b,ai+1,none⟩=some (.slice none 0 0):=h0;have hSD:(Builtin.unsafeSliceData_ #[33] 160 #[.slice none 0 0]).run Tryz.prog w.drew=.ok (.pointer none) w.drew:=rfl;go_enter Tryz.func89,Tryz.ntmps89
 go_wp2
 go_region_o
 all_goals (go_wp2;go_ret;exact⟨rfl,rfl,rfl,rfl⟩)
end Go.Proofs.YtfcgnpphabplbaaGreatDoor
namespace Go.Ak
def okB(ty k ai:Nat):Bool:=Nat.beq ty 4&&Nat.beq k 2&&Nat.beq ai 0
def VW(ae:Nat)(xs:List AV)(H:aj):Option (Out×aj):=
 match xs with
 | [.tptr ty k id ai]=>bif okB ty k ai then
   match H[id]? with
   |some (some cs)=>match cs[ai]? with
    |some .nilp=>bif Nat.ble ae id then some (.ret (.tup []),H.set id (some (cs.set ai (.tptr ty k id ai))))else none
    |some (.tptr _ _ id' off')=>bif Nat.beq id' id&&Nat.beq off' ai then some (.ret (.tup []),H)else none
    |_=>none
   |_=>none
  else none
 |_=>none
def VV(ae:Nat)(xs:List AV)(H:aj):Option (Out×aj):=
 match xs with
 | [.tptr _ _ id ai]=>match H[id]? with
  |some (some cs)=>match cs[ai+1]? with
   |some .nils=>some (.ret (.str []),H)
   |some (.bsl q n)=>bif Nat.ble ae q&&Nat.ble 1 n&&Nat.ble n lim then
     match H[q]? with
     |some (some bs)=>match sub bs 0 n with
      |some l=>match strOf l with
       |some s=>bif qY l (iD s)then some (.ret (.str s),H.set q none)else none
       |none=>none
      |none=>none
     |_=>none
    else none
   |_=>none
  |_=>none
 |_=>none
end Go.Ak
namespace Go.Proofs.YtfcgnpphabplbaaGreatDoor
open Go.Ak
section
variable {G:Nat->Option Obj} {ae:Nat} {xs:List AV} {H H':aj} {out:Out}
theorem zmU{ty k ai:Nat}(h:okB ty k ai=true):ai<k∧liesAt Tryz.prog Tryz.prog.depth (VI ty) (k/Tryz.prog.cellsOf (VI ty)) ai 133 1=true:=by
 simp only[okB,aU]at h;obtain⟨⟨h1,h2⟩,h3⟩:=h;have h1:=dH h1;have h2:=dH h2;have h3:=dH h3;subst h1;subst h2;subst h3;exact⟨by omega,by kernel_rfl⟩
theorem Gv{T:Tr}{g:Gh}{w:World}{a:AV}{us:List Value}(h:ArgsV T g w 0 [a] us):∃u,us=[u]∧SV T g w (.arg 0) a u:=by
 cases h with
 |cons _ _ v _ vs h1 h2=>cases h2;exact⟨v,rfl,h1⟩
theorem zkn(he:VW ae xs H=some (out,H')){g:Gh}{w:World}{us:List Value}(hh:HeapR (cZ G) g w H)(ha:ArgsV (cZ G) g w 0 xs us):
  Calls Tryz.prog 119 us.toArray w (l7 (cZ G) ae g w out H'):=by
 unfold VW at he;split at he
 ·rename_i ty k id ai;obtain⟨u,rfl,hu⟩:=Gv ha;obtain⟨b,hb,hsh,rfl⟩:=V.tptr_inv (show V (cZ G) g w (.tptr ty k id ai) u from hu);cases bF:okB ty k ai with
  |false=>simp[bF]at he
  |true=>
   obtain⟨hoff,hlies⟩:=zmU bF;simp only[bF,bA]at he;split at he
   ·rename_i cs hid;split at he
    ·rename_i hc;obtain⟨v,c1,c2,c3⟩:=hh.cell hb hid hc;have:=V.nilp_inv c2;subst this;cases nM:Nat.ble ae id with
     |false=>simp[nM]at he
     |true=>
      simp only[nM,bA,aD,eU]at he;obtain⟨rfl,rfl⟩:=he;obtain⟨e1,e2⟩:=hh.set1 (ai:=ai) (a:=.tptr ty k id ai) (u:=.pointer (some ⟨b,ai,none⟩)) hb (iy nM) hid (eD.1 hc).1 (.tptr ty k id ai b hb hsh) rfl;refine(zqv b ai _ k w c1 hsh hoff c3 hlies).mono fun e w' ⟨he,hw⟩=>?_;subst he;subst hw;exact⟨g,_,rfl,e1,e2,SV.of_V (.tup [] [] .nil)⟩
    ·rename_i ty' k' id' off' hc;obtain⟨v,c1,c2,c3⟩:=hh.cell hb hid hc;obtain⟨b',ky,_,rfl⟩:=V.tptr_inv c2;cases kJ:(Nat.beq id' id&&Nat.beq off' ai)with
     |false=>simp[kJ]at he
     |true=>
      simp only[kJ,bA,aD,eU]at he;obtain⟨rfl,rfl⟩:=he;simp only[aU]at kJ;have q1:=dH kJ.1;have q2:=dH kJ.2;subst q1;subst q2;rw[hb]at ky;cases ky;refine(zqu b _ w c1).mono fun e w' ⟨he,hw⟩=>?_;subst he;subst hw;exact⟨g,_,rfl,.refl _ _ _,hh,SV.of_V (.tup [] [] .nil)⟩
    ·cases he
   ·cases he
 ·cases he
theorem zj4(he:VV ae xs H=some (out,H')){g:Gh}{w:World}{us:List Value}(hh:HeapR (cZ G) g w H)(ha:ArgsV (cZ G) g w 0 xs us):
  Calls Tryz.prog 89 us.toArray w (l7 (cZ G) ae g w out H'):=by
 unfold VV at he;split at he
 ·rename_i ty k id ai;obtain⟨u,rfl,hu⟩:=Gv ha;obtain⟨b,hb,hsh,rfl⟩:=V.tptr_inv (show V (cZ G) g w (.tptr ty k id ai) u from hu);split at he
  ·rename_i cs hid;split at he
   ·rename_i hc;obtain⟨v,c1,c2,c3⟩:=hh.cell hb hid hc;have:=V.nils_inv c2;subst this;simp only[aD,eU]at he;obtain⟨rfl,rfl⟩:=he;refine(zjS b ai w c1).mono fun e w' ⟨he,h1,h2,h3⟩=>?_;subst he;obtain⟨e1,e2⟩:=hh.same (ae:=ae) h1 h2 h3;exact⟨g,_,rfl,e1,e2,SV.of_V (.str [])⟩
   ·rename_i q n hc;obtain⟨v,c1,c2,c3⟩:=hh.cell hb hid hc;obtain⟨b',cap,m,k1,k2,k3,k4,rfl⟩:=V.bsl_inv c2;cases dW:(Nat.ble ae q&&Nat.ble 1 n&&Nat.ble n lim)with
    |false=>simp[dW]at he
    |true=>
     simp only[dW,bA]at he;simp only[aU]at dW;obtain⟨⟨q1,q2⟩,q3⟩:=dW;have q1:=iy q1;have q2:=iy q2;have q3:=iy q3;simp only[lim]at q3;split at he
     ·rename_i bs hq;split at he
      ·rename_i l hl;split at he
       ·rename_i s hs;cases hbeq:qY l (iD s)with
        |false=>simp[hbeq]at he
        |true=>
         simp only[hbeq,bA,aD,eU]at he;obtain⟨rfl,rfl⟩:=he;have hls:=Cw _ _ hbeq;subst hls;obtain⟨s1,s2⟩:=Mc hl;have hn:s.length=n:=by
          have:=dF List.length s2;simp[iD]at this;simp at s1;omega
         obtain⟨b2,aI,j1,⟨j2,j3,j4⟩,j5,j6⟩:=hh.objs q bs hq;rw[k1]at j1;cases j1;refine(zjR b ai b' cap m s w (by rw[hn];exact c1) (by omega) k2 (fun e=>by subst e;simp at hn;omega) (by omega) (by omega) fun j x hx=>?_).mono fun e w' ⟨he,h1,h2,h3⟩=>?_
         ·have hj:(iD s)[j]?=some (.int .u8 x.toNat):=by simp[iD,hx]
          have hjb:bs[j]?=some (.int .u8 x.toNat):=by
           rw[s2]at hj;simp only[xI,mP]at hj;split at hj
           ·exact hj
           ·cases hj
          obtain⟨v,c1,c2,_⟩:=hh.cell k1 hq hjb;rw[V.int_inv c2]at c1;exact c1
         ·subst he;have hw:(w.freeze ⟨b',0,none⟩ s.length).os=w.os∧((w.freeze ⟨b',0,none⟩ s.length).output,(w.freeze ⟨b',0,none⟩ s.length).tape)=(w.output,w.tape):=by
           unfold World.freeze;split<;>exact⟨rfl,rfl⟩
          obtain⟨e1,e2⟩:=hh.frozen (ae:=ae) k1 j2 q1 h1 (h2.trans hw.1) (h3.trans hw.2);exact⟨g,_,rfl,e1,e2,SV.of_V (.str s)⟩
       ·cases he
      ·cases he
     ·cases he
   ·cases he
  ·cases he
 ·cases he
end
end Go.Proofs.YtfcgnpphabplbaaGreatDoor
set_option maxRecDepth 100000
namespace Go.Proofs.YtfcgnpphabplbaaGreatDoor
open Go.Shelf
def Tryz.lays219_ren:Go.Shelf.Ren:=⟨fun|219=>94|217=>90|225=>125|224=>126|267=>127|266=>121|314=>144|n=>n,fun|9=>9|3=>3|4=>4|5=>5|46=>165|146=>183|51=>182|n=>n,fun|1=>0|n=>n⟩
theorem Tryz.lays219:Go.Proofs.Lays.n219 Tryz.prog Tryz.lays219_ren:={
 mixed:=by kernel_rfl,
 f217:=Tryz.func90.trans (dF some (by kernel_rfl)),
 f219:=Tryz.func94.trans (dF some (by kernel_rfl)),
 f224:=Tryz.func126.trans (dF some (by kernel_rfl)),
 f225:=Tryz.func125.trans (dF some (by kernel_rfl)),
 f266:=Tryz.func121.trans (dF some (by kernel_rfl)),
 f267:=Tryz.func127.trans (dF some (by kernel_rfl)),
 f314:=Tryz.func144.trans (dF some (by kernel_rfl)),
 t3:=Tryz.underlying3,
 a3:=Tryz.isAgg3,
 z3:=Tryz.sizeOf3,
 v3:=Tryz.zeroValue3,
 t4:=Tryz.underlying4,
 a4:=Tryz.isAgg4,
 z4:=Tryz.sizeOf4,
 v4:=Tryz.zeroValue4,
 t5:=Tryz.underlying5,
 a5:=Tryz.isAgg5,
 z5:=Tryz.sizeOf5,
 v5:=Tryz.zeroValue5,
 t9:=Tryz.underlying9,
 a9:=Tryz.isAgg9,
 z9:=Tryz.sizeOf9,
 v9:=Tryz.zeroValue9,
 t46:=Tryz.underlying165,
 a46:=Tryz.isAgg165,
 z46:=Tryz.sizeOf165,
 v46:=Tryz.zeroValue165,
 t51:=Tryz.underlying182,
 a51:=Tryz.isAgg182,
 z51:=Tryz.sizeOf182,
 v51:=Tryz.zeroValue182,
 t146:=Tryz.underlying183,
 a146:=Tryz.isAgg183,
 z146:=Tryz.sizeOf183,
 v146:=Tryz.zeroValue183,
 g1:=by kernel_rfl }
def Tryz.lays146_ren:Go.Shelf.Ren:=⟨fun|146=>39|221=>65|268=>91|138=>92|143=>93|195=>122|197=>123|218=>124|219=>94|260=>143|217=>90|225=>125|224=>126|267=>127|266=>121|314=>144|n=>n,fun|9=>9|31=>24|3=>3|4=>4|0=>0|105=>162|21=>21|5=>5|46=>165|119=>201|139=>204|138=>203|146=>183|51=>182|n=>n,fun|1=>0|3=>1|4=>2|n=>n⟩
theorem Tryz.lays146:Go.Proofs.Lays.n146 Tryz.prog Tryz.lays146_ren:={
 mixed:=by kernel_rfl,
 f138:=Tryz.func92.trans (dF some (by kernel_rfl)),
 f143:=Tryz.func93.trans (dF some (by kernel_rfl)),
 f146:=Tryz.func39.trans (dF some (by kernel_rfl)),
 f195:=Tryz.func122.trans (dF some (by kernel_rfl)),
 f197:=Tryz.func123.trans (dF some (by kernel_rfl)),
 f217:=Tryz.func90.trans (dF some (by kernel_rfl)),
 f218:=Tryz.func124.trans (dF some (by kernel_rfl)),
 f219:=Tryz.func94.trans (dF some (by kernel_rfl)),
 f221:=Tryz.func65.trans (dF some (by kernel_rfl)),
 f224:=Tryz.func126.trans (dF some (by kernel_rfl)),
 f225:=Tryz.func125.trans (dF some (by kernel_rfl)),
 f260:=Tryz.func143.trans (dF some (by kernel_rfl)),
 f266:=Tryz.func121.trans (dF some (by kernel_rfl)),
 f267:=Tryz.func127.trans (dF some (by kernel_rfl)),
 f268:=Tryz.func91.trans (dF some (by kernel_rfl)),
 f314:=Tryz.func144.trans (dF some (by kernel_rfl)),
 t0:=Tryz.underlying0,
 a0:=Tryz.isAgg0,
 z0:=Tryz.sizeOf0,
 v0:=Tryz.zeroValue0,
 t3:=Tryz.underlying3,
 a3:=Tryz.isAgg3,
 z3:=Tryz.sizeOf3,
 v3:=Tryz.zeroValue3,
 t4:=Tryz.underlying4,
 a4:=Tryz.isAgg4,
 z4:=Tryz.sizeOf4,
 v4:=Tryz.zeroValue4,
 t5:=Tryz.underlying5,
 a5:=Tryz.isAgg5,
 z5:=Tryz.sizeOf5,
 v5:=Tryz.zeroValue5,
 t9:=Tryz.underlying9,
 a9:=Tryz.isAgg9,
 z9:=Tryz.sizeOf9,
 v9:=Tryz.zeroValue9,
 t21:=Tryz.underlying21,
 a21:=Tryz.isAgg21,
 z21:=Tryz.sizeOf21,
 v21:=Tryz.zeroValue21,
 t31:=Tryz.underlying24,
 a31:=Tryz.isAgg24,
 z31:=Tryz.sizeOf24,
 v31:=Tryz.zeroValue24,
 t46:=Tryz.underlying165,
 a46:=Tryz.isAgg165,
 z46:=Tryz.sizeOf165,
 v46:=Tryz.zeroValue165,
 t51:=Tryz.underlying182,
 a51:=Tryz.isAgg182,
 z51:=Tryz.sizeOf182,
 v51:=Tryz.zeroValue182,
 t105:=Tryz.underlying162,
 a105:=Tryz.isAgg162,
 z105:=Tryz.sizeOf162,
 v105:=Tryz.zeroValue162,
 t119:=Tryz.underlying201,
 a119:=Tryz.isAgg201,
 z119:=Tryz.sizeOf201,
 t138:=Tryz.underlying203,
 a138:=Tryz.isAgg203,
 z138:=Tryz.sizeOf203,
 v138:=Tryz.zeroValue203,
 t139:=Tryz.underlying204,
 a139:=Tryz.isAgg204,
 z139:=Tryz.sizeOf204,
 v139:=Tryz.zeroValue204,
 t146:=Tryz.underlying183,
 a146:=Tryz.isAgg183,
 z146:=Tryz.sizeOf183,
 v146:=Tryz.zeroValue183,
 g1:=by kernel_rfl,
 g3:=by kernel_rfl,
 g4:=by kernel_rfl }
def Tryz.lays156_ren:Go.Shelf.Ren:=⟨fun|156=>102|165=>129|166=>87|169=>89|240=>119|241=>147|276=>142|277=>166|n=>n,fun|31=>24|9=>9|3=>3|4=>4|0=>0|20=>20|72=>133|76=>136|70=>131|37=>33|75=>135|127=>160|164=>180|5=>5|80=>46|n=>n,fun|n=>n⟩
theorem Tryz.lays156:Go.Proofs.Lays.n156 Tryz.prog Tryz.lays156_ren:={
 mixed:=by kernel_rfl,
 f156:=Tryz.func102.trans (dF some (by kernel_rfl)),
 f165:=Tryz.func129.trans (dF some (by kernel_rfl)),
 f166:=Tryz.func87.trans (dF some (by kernel_rfl)),
 f169:=Tryz.func89.trans (dF some (by kernel_rfl)),
 f240:=Tryz.func119.trans (dF some (by kernel_rfl)),
 f241:=Tryz.func147.trans (dF some (by kernel_rfl)),
 f276:=Tryz.func142.trans (dF some (by kernel_rfl)),
 f277:=Tryz.func166.trans (dF some (by kernel_rfl)),
 t0:=Tryz.underlying0,
 a0:=Tryz.isAgg0,
 z0:=Tryz.sizeOf0,
 v0:=Tryz.zeroValue0,
 t3:=Tryz.underlying3,
 a3:=Tryz.isAgg3,
 z3:=Tryz.sizeOf3,
 v3:=Tryz.zeroValue3,
 t4:=Tryz.underlying4,
 a4:=Tryz.isAgg4,
 z4:=Tryz.sizeOf4,
 v4:=Tryz.zeroValue4,
 t9:=Tryz.underlying9,
 a9:=Tryz.isAgg9,
 z9:=Tryz.sizeOf9,
 v9:=Tryz.zeroValue9,
 t20:=Tryz.underlying20,
 a20:=Tryz.isAgg20,
 z20:=Tryz.sizeOf20,
 v20:=Tryz.zeroValue20,
 t31:=Tryz.underlying24,
 a31:=Tryz.isAgg24,
 z31:=Tryz.sizeOf24,
 v31:=Tryz.zeroValue24,
 t37:=Tryz.underlying33,
 a37:=Tryz.isAgg33,
 z37:=Tryz.sizeOf33,
 v37:=Tryz.zeroValue33,
 t70:=Tryz.underlying131,
 a70:=Tryz.isAgg131,
 z70:=Tryz.sizeOf131,
 v70:=Tryz.zeroValue131,
 t72:=Tryz.underlying133,
 a72:=Tryz.isAgg133,
 z72:=Tryz.sizeOf133,
 v72:=Tryz.zeroValue133,
 t75:=Tryz.underlying135,
 a75:=Tryz.isAgg135,
 z75:=Tryz.sizeOf135,
 v75:=Tryz.zeroValue135,
 t76:=Tryz.underlying136,
 a76:=Tryz.isAgg136,
 z76:=Tryz.sizeOf136,
 v76:=Tryz.zeroValue136,
 t127:=Tryz.underlying160,
 a127:=Tryz.isAgg160,
 z127:=Tryz.sizeOf160,
 v127:=Tryz.zeroValue160,
 t164:=Tryz.underlying180,
 a164:=Tryz.isAgg180,
 z164:=Tryz.sizeOf180,
 v164:=Tryz.zeroValue180 }
def Tryz.lays229_ren:Go.Shelf.Ren:=⟨fun|229=>62|n=>n,fun|9=>9|40=>98|31=>24|152=>139|3=>3|0=>0|4=>4|21=>21|154=>141|n=>n,fun|n=>n⟩
theorem Tryz.lays229:Go.Proofs.Lays.n229 Tryz.prog Tryz.lays229_ren:={
 mixed:=by kernel_rfl,
 f229:=Tryz.func62.trans (dF some (by kernel_rfl)),
 t0:=Tryz.underlying0,
 a0:=Tryz.isAgg0,
 z0:=Tryz.sizeOf0,
 v0:=Tryz.zeroValue0,
 t3:=Tryz.underlying3,
 a3:=Tryz.isAgg3,
 z3:=Tryz.sizeOf3,
 v3:=Tryz.zeroValue3,
 t4:=Tryz.underlying4,
 a4:=Tryz.isAgg4,
 z4:=Tryz.sizeOf4,
 v4:=Tryz.zeroValue4,
 t9:=Tryz.underlying9,
 a9:=Tryz.isAgg9,
 z9:=Tryz.sizeOf9,
 v9:=Tryz.zeroValue9,
 t21:=Tryz.underlying21,
 a21:=Tryz.isAgg21,
 z21:=Tryz.sizeOf21,
 v21:=Tryz.zeroValue21,
 t31:=Tryz.underlying24,
 a31:=Tryz.isAgg24,
 z31:=Tryz.sizeOf24,
 v31:=Tryz.zeroValue24,
 t40:=Tryz.underlying98,
 a40:=Tryz.isAgg98,
 z40:=Tryz.sizeOf98,
 v40:=Tryz.zeroValue98,
 t152:=Tryz.underlying139,
 a152:=Tryz.isAgg139,
 z152:=Tryz.sizeOf139,
 v152:=Tryz.zeroValue139,
 t154:=Tryz.underlying141,
 a154:=Tryz.isAgg141,
 z154:=Tryz.sizeOf141,
 v154:=Tryz.zeroValue141 }
end Go.Proofs.YtfcgnpphabplbaaGreatDoor
namespace Go.Proofs.YtfcgnpphabplbaaGreatDoor
open Go.RowKit Go.Lib
set_option maxHeartbeats 1000000 in
set_option maxRecDepth 100000 in
theorem Tryz.indexByte(s:ByteArray)(c:Int)(w:World):
  Calls Tryz.prog 90 #[.string s,.int .u8 c] w fun e w'=>e=.returned (.int .i64 (Lib.indexByte s.data.toList c.toNat.toUInt8))∧w'=w:=by
 have mixed:Tryz.prog.follows .mixedOrders=true:=by kernel_rfl
 go_enter Tryz.func90,Tryz.ntmps90
 go_wp2
 rw[run_callFunc_extern Tryz.func121 (by kernel_rfl) (by kernel_rfl) (by kernel_rfl) (e:=Extern.BytealgIndexByte.indexByte) (by kernel_rfl),Lib.run_indexByteString];simp only[Result.andThen];rw[Oper.upon_value];go_wp2
 go_ret
 exact⟨rfl,rfl⟩
set_option maxHeartbeats 4000000 in
set_option maxRecDepth 100000 in
theorem Tryz.index_one(s:ByteArray)(c:UInt8)(w:World):
  Calls Tryz.prog 94 #[.string s,.string ⟨#[c]⟩] w fun e w'=>e=.returned (.int .i64 (Lib.indexByte s.data.toList c))∧w'=w:=by
 have mixed:Tryz.prog.follows .mixedOrders=true:=by kernel_rfl
 have e126:∀args w,(callFunc 90 args).run Tryz.prog w=.ok (.enter 90 args) w:=enters_of Tryz.func90 (by kernel_rfl) rfl;go_enter Tryz.func94,Tryz.ntmps94
 go_wp2_with (go_at_fn 90;refine(Tryz.indexByte _ _ _).mono ?_;rintro e w' ⟨rfl,rfl⟩)
 ·have h:([c]==s.toList)=true:=by assumption
  go_ret
  refine⟨?_,rfl⟩;have e:s.data.toList=[c]:=by rw[←Lib.toList_data];exact(gM.1 h).symm
  rw[e];simp[Lib.indexByte]
 ·go_ret
  exact⟨rfl,rfl⟩
end Go.Proofs.YtfcgnpphabplbaaGreatDoor
namespace Go.Ak
def Js(xs:List AV)(H:aj):Option (Out×aj):=
 match xs with
 | [.str s,.str [c]]=>some (.ret (.int .i64 (Lib.indexByte s c)),H)
 | [.str s,.str t]=>bif Nat.blt s.length 4294967281 then some (.ret (.int .i64 (Lib.index s t)),H)else none
 |_=>none
def VX(_:Nat)(_:Nat->CallF)(ae:Nat):CallF:=fun f xs H=>
 bif Nat.beq f 79 then VW ae xs H else bif Nat.beq f 55 then VV ae xs H else bif Nat.beq f 112 then Js xs H else none
end Go.Ak
namespace Go.Proofs.YtfcgnpphabplbaaGreatDoor
open Go.Ak
section
variable {G:Nat->Option Obj} {ae:Nat} {xs:List AV} {H H':aj} {out:Out}
theorem zV{T:Tr}{g:Gh}{w:World}{a b:AV}{us:List Value}(h:ArgsV T g w 0 [a,b] us):∃u v,us=[u,v]∧SV T g w (.arg 0) a u∧SV T g w (.arg 1) b v:=by
 cases h with
 |cons _ _ u _ vs h1 h2=>
  cases h2 with
  |cons _ _ v _ ws h3 h4=>cases h4;exact⟨u,v,rfl,h1,h3⟩
def Bh(G:Nat->Option Obj):Prop:=∃m c ty fz,G (Tryz.lays219_ren.g 1)=some (.cells c ty fz)∧c[0]?=some (.int .i64 m)
theorem zkd(hG:Bh G)(he:Js xs H=some (out,H')){g:Gh}{w:World}{us:List Value}(hh:HeapR (cZ G) g w H)(ha:ArgsV (cZ G) g w 0 xs us):
  Calls Tryz.prog 94 us.toArray w (l7 (cZ G) ae g w out H'):=by
 unfold Js at he;split at he
 ·rename_i s c;obtain⟨u,v,rfl,hu,hv⟩:=zV ha;have:=V.str_inv (show V (cZ G) g w (.str s) u from hu);subst this;have:=V.str_inv (show V (cZ G) g w (.str [c]) v from hv);subst this;simp only[aD,eU]at he;obtain⟨rfl,rfl⟩:=he;refine(Tryz.index_one ⟨s.toArray⟩ c w).mono fun e w' ⟨he,hw⟩=>?_;subst he;subst hw;exact⟨g,_,rfl,.refl _ _ _,hh,SV.of_V (.int _ _)⟩
 ·rename_i s t _;obtain⟨u,v,rfl,hu,hv⟩:=zV ha;have:=V.str_inv (show V (cZ G) g w (.str s) u from hu);subst this;have:=V.str_inv (show V (cZ G) g w (.str t) v from hv);subst this;cases hl:Nat.blt s.length 4294967281 with
  |false=>simp[hl]at he
  |true=>
   simp only[hl,bA,aD,eU]at he;obtain⟨rfl,rfl⟩:=he;obtain⟨m,c,ty,fz,hg,hc⟩:=hG;obtain⟨_,hw⟩:=hh.gl _ _ (show(cZ G).gl _=_ from hg);have hs:(⟨s.toArray⟩:ByteArray).size<4294967281:=by
    have:s.length<4294967281:=by simpa[Bn]using hl
    simpa[ByteArray.size]using this
   refine(Any.stringslite_Index Tryz.lays219 ⟨s.toArray⟩ ⟨t.toArray⟩ m w hs (by simpa[World.cell?,hw]using hc)).mono fun e w' ⟨he,hw⟩=>?_;subst he;subst hw;exact⟨g,_,rfl,.refl _ _ _,hh,SV.of_V (.int _ _)⟩
 ·cases he
theorem zku(hG:Bh G):Be (cZ G) ak VX:=by
 intro n gX _ ae f xs H out H' _ he;unfold VX at he;cases h79:Nat.beq f 79 with
 |true=>
  have:=dH h79;subst this;exact⟨by kernel_rfl,fun g w us hh ha=>zkn (by exact he) hh ha⟩
 |false=>
  cases h55:Nat.beq f 55 with
  |true=>
   have:=dH h55;subst this;exact⟨by kernel_rfl,fun g w us hh ha=>zj4 (by exact he) hh ha⟩
  |false=>
   cases h112:Nat.beq f 112 with
   |true=>
    have:=dH h112;subst this;exact⟨by kernel_rfl,fun g w us hh ha=>zkd hG (by exact he) hh ha⟩
   |false=>simp[h79,h55,h112]at he
end
end Go.Proofs.YtfcgnpphabplbaaGreatDoor
