/- strings.Trim, bits.Mul64 and the number reader's next, told by functions of their own. -/
import Derived.Shelf.Strings.SlTrimAscii
import Derived.Shelf.Bits.Mul64
import Derived.Test.YtfcgnpphabplbaaGreatDoorProg
import Derived.Test.YtfcgnpphabplbaaGreatDoorOk
import Derived.Laws.Externs
set_option linter.unusedVariables false
set_option linter.unusedSimpArgs false
set_option maxRecDepth 100000
namespace Go.Proofs.YtfcgnpphabplbaaGreatDoor
open Go.Shelf
def Tryz.lays160_ren:Go.Shelf.Ren:=⟨fun | 160=>130 | 232=>149 | 231=>148 | 227=>150 | 234=>152 | 233=>151 | 236=>154 | 235=>153 | 228=>167 | 271=>169 | 151=>168 | 197=>123 | 120=>182 | 152=>181 | 260=>143 | 137=>64 | 119=>188 | 224=>126 | 225=>125 | 217=>90 | 266=>121 | n=>n,fun | 9=>9 | 4=>4 | 3=>3 | 5=>5 | 117=>188 | 116=>187 | 0=>0 | 124=>191 | 21=>21 | 105=>162 | 46=>165 | 119=>201 | 139=>204 | 138=>203 | n=>n,fun | 3=>1 | 4=>2 | n=>n⟩
theorem Tryz.lays160:Go.Proofs.Lays.n160 Tryz.prog Tryz.lays160_ren:= {
 mixed:=by kernel_rfl,
 f119:=Tryz.func188.trans (congrArg some (by kernel_rfl)),
 f120:=Tryz.func182.trans (congrArg some (by kernel_rfl)),
 f137:=Tryz.func64.trans (congrArg some (by kernel_rfl)),
 f151:=Tryz.func168.trans (congrArg some (by kernel_rfl)),
 f152:=Tryz.func181.trans (congrArg some (by kernel_rfl)),
 f160:=Tryz.func130.trans (congrArg some (by kernel_rfl)),
 f197:=Tryz.func123.trans (congrArg some (by kernel_rfl)),
 f217:=Tryz.func90.trans (congrArg some (by kernel_rfl)),
 f224:=Tryz.func126.trans (congrArg some (by kernel_rfl)),
 f225:=Tryz.func125.trans (congrArg some (by kernel_rfl)),
 f227:=Tryz.func150.trans (congrArg some (by kernel_rfl)),
 f228:=Tryz.func167.trans (congrArg some (by kernel_rfl)),
 f231:=Tryz.func148.trans (congrArg some (by kernel_rfl)),
 f232:=Tryz.func149.trans (congrArg some (by kernel_rfl)),
 f233:=Tryz.func151.trans (congrArg some (by kernel_rfl)),
 f234:=Tryz.func152.trans (congrArg some (by kernel_rfl)),
 f235:=Tryz.func153.trans (congrArg some (by kernel_rfl)),
 f236:=Tryz.func154.trans (congrArg some (by kernel_rfl)),
 f260:=Tryz.func143.trans (congrArg some (by kernel_rfl)),
 f266:=Tryz.func121.trans (congrArg some (by kernel_rfl)),
 f271:=Tryz.func169.trans (congrArg some (by kernel_rfl)),
 t0:=Tryz.underlying0,
 a0:=Tryz.isAgg0,
 z0:=Tryz.sizeOf0,
 v0:=Tryz.zeroValue0,
 t3:=Tryz.underlying3,
 a3:=Tryz.isAgg3,
 z3:=Tryz.sizeOf3,
 v3:=Tryz.zeroValue3,
 t4:=Tryz.underlying4,
 a4:=Tryz.isAgg4,
 z4:=Tryz.sizeOf4,
 v4:=Tryz.zeroValue4,
 t5:=Tryz.underlying5,
 a5:=Tryz.isAgg5,
 z5:=Tryz.sizeOf5,
 v5:=Tryz.zeroValue5,
 t9:=Tryz.underlying9,
 a9:=Tryz.isAgg9,
 z9:=Tryz.sizeOf9,
 v9:=Tryz.zeroValue9,
 t21:=Tryz.underlying21,
 a21:=Tryz.isAgg21,
 z21:=Tryz.sizeOf21,
 v21:=Tryz.zeroValue21,
 t46:=Tryz.underlying165,
 a46:=Tryz.isAgg165,
 z46:=Tryz.sizeOf165,
 v46:=Tryz.zeroValue165,
 t105:=Tryz.underlying162,
 a105:=Tryz.isAgg162,
 z105:=Tryz.sizeOf162,
 v105:=Tryz.zeroValue162,
 t116:=Tryz.underlying187,
 a116:=Tryz.isAgg187,
 z116:=Tryz.sizeOf187,
 t117:=Tryz.underlying188,
 a117:=Tryz.isAgg188,
 z117:=Tryz.sizeOf188,
 v117:=Tryz.zeroValue188,
 t119:=Tryz.underlying201,
 a119:=Tryz.isAgg201,
 z119:=Tryz.sizeOf201,
 t124:=Tryz.underlying191,
 a124:=Tryz.isAgg191,
 z124:=Tryz.sizeOf191,
 v124:=Tryz.zeroValue191,
 t138:=Tryz.underlying203,
 a138:=Tryz.isAgg203,
 z138:=Tryz.sizeOf203,
 v138:=Tryz.zeroValue203,
 t139:=Tryz.underlying204,
 a139:=Tryz.isAgg204,
 z139:=Tryz.sizeOf204,
 v139:=Tryz.zeroValue204,
 g3:=by kernel_rfl,
 g4:=by kernel_rfl }
def Tryz.lays264_ren:Go.Shelf.Ren:=⟨fun | 264=>132 | n=>n,fun | 53=>56 | 46=>165 | n=>n,fun | n=>n⟩
theorem Tryz.lays264:Go.Proofs.Lays.n264 Tryz.prog Tryz.lays264_ren:= {
 mixed:=by kernel_rfl,
 f264:=Tryz.func132.trans (congrArg some (by kernel_rfl)),
 t46:=Tryz.underlying165,
 a46:=Tryz.isAgg165,
 z46:=Tryz.sizeOf165,
 v46:=Tryz.zeroValue165,
 t53:=Tryz.underlying56,
 a53:=Tryz.isAgg56,
 z53:=Tryz.sizeOf56,
 v53:=Tryz.zeroValue56 }
end Go.Proofs.YtfcgnpphabplbaaGreatDoor
namespace Go.Ak
def zqJ (xs:List AV) (H:Heap):Option (Out×Heap) :=
 match xs with
 | [.str s, .str t]=>bif Nat.ble s.length 4294967296&&Nat.ble t.length 4294967280&&t.all (fun b=>Nat.blt b.toNat 128) then some (.ret (.str (Lib.trimS s t)),H) else none
 | _=>none
def zvP (xs:List AV) (H:Heap):Option (Out×Heap) :=
 match xs with
 | [.int .u64 (.ofNat a), .int .u64 (.ofNat b)]=>bif Nat.blt a 18446744073709551616&&Nat.blt b 18446744073709551616 then
   some (.ret (.tup [.int .u64 (.ofNat (a*b/18446744073709551616)), .int .u64 (.ofNat (a*b%18446744073709551616))]),H) else none
 | _=>none
def znP (bar:Nat) (xs:List AV) (H:Heap):Option (Out×Heap) :=
 match xs with
 | [.ptr id off, .int .u8 (.ofNat c), .int .u64 (.ofNat k)]=>bif Nat.ble bar id&&Nat.ble 48 c&&Nat.ble c 57&&Nat.ble k 1000000 then
   match H[id]? with
   | some (some cs)=>match cs[off]?,cs[off+1]? with
    | some (.int .u64 (.ofNat n)),some (.bool o)=>bif Nat.blt n 18446744073709551616 then
      some (.ret (.tup []),H.set id (some ((cs.set off (.int .u64 (.ofNat ((n+(c-48)*k)%18446744073709551616)))).set (off+1) (.bool (o||decide (0<(n+(c-48)*k)/18446744073709551616))))))
     else none
    | _,_=>none
   | _=>none
  else none
 | _=>none
end Go.Ak
namespace Go.Proofs.YtfcgnpphabplbaaGreatDoor
open Go.RowKit Go.Lib Go.Ak
section
variable {G:Nat→Option Obj} {bar:Nat} {xs:List AV} {H H':Heap} {out:Out}
theorem h116:(Tryz.prog.info? (Tryz.lays160_ren.t 116)).map (fun i=>(i.zero,i.size))=some (some (.agg (Array.replicate 256 (.bool false))),256):=by kernel_rfl
theorem zxh (he:zqJ xs H=some (out,H')) {g:Gh} {w:World} {us:List Value} (hh:HeapR (zah G) g w H) (ha:ArgsV (zah G) g w 0 xs us) :
  Calls Tryz.prog 130 us.toArray w (za4 (zah G) bar g w out H'):=by
 unfold zqJ at he
 split at he
 ·rename_i s t
  obtain ⟨u,v,rfl,hu,hv⟩:=zd9 ha
  have:=V.str_inv (show V (zah G) g w (.str s) u from hu)
  subst this
  have:=V.str_inv (show V (zah G) g w (.str t) v from hv)
  subst this
  cases hl:(Nat.ble s.length 4294967296&&Nat.ble t.length 4294967280&&t.all (fun b=>Nat.blt b.toNat 128)) with
  | false=>simp [hl] at he
  | true =>
   simp only [hl,cond_true,Option.some.injEq,Prod.mk.injEq] at he
   obtain ⟨rfl,rfl⟩:=he
   simp only [Bool.and_eq_true] at hl
   obtain ⟨⟨h1,h2⟩,h3⟩:=hl
   have h1:=Nat.le_of_ble_eq_true h1
   have h2:=Nat.le_of_ble_eq_true h2
   refine (Any.strings_Trim_laid Tryz.lays160 h116 ⟨s.toArray⟩ ⟨t.toArray⟩ w (Nat.le_trans h1 (by omega)) (Nat.lt_of_le_of_lt h2 (by omega)) (fun j b hb=> ?_)).mono fun e w' ⟨he,hw⟩=> ?_
   ·have hm:=List.mem_of_getElem? hb
    have:=List.all_eq_true.1 h3 b (by simpa using hm)
    simpa [Nat.blt_eq] using this
   ·subst he
    exact ⟨g.later w',_,rfl,zef hh hw,zfB hh hw,SV.of_V (.str _)⟩
 ·cases he
theorem zuX (a b:Nat) (h1:a<18446744073709551616) (h2:b<18446744073709551616) (w:World) :
  Calls Tryz.prog 132 #[.int .u64 a, .int .u64 b] w fun e w'=>e= .returned (.tuple #[.int .u64 ((a*b/18446744073709551616:Nat):Int), .int .u64 ((a*b%18446744073709551616:Nat):Int)])∧w'=w :=
 Any.bits_Mul64 Tryz.lays264 a b h1 h2 w
theorem zvI {T:Tr} {g:Gh} {w:World} {a b c:AV} {us:List Value} (h:ArgsV T g w 0 [a,b,c] us): ∃ u v x,us= [u,v,x]∧SV T g w (.arg 0) a u∧SV T g w (.arg 1) b v∧SV T g w (.arg 2) c x:=by
 cases h with
 | cons _ _ u _ vs h1 h2 =>
  cases h2 with
  | cons _ _ v _ ws h3 h4 =>
   cases h4 with
   | cons _ _ x _ zs h5 h6=>cases h6;exact ⟨u,v,x,rfl,h1,h3,h5⟩
theorem zAZ (he:zvP xs H=some (out,H')) {g:Gh} {w:World} {us:List Value} (hh:HeapR (zah G) g w H) (ha:ArgsV (zah G) g w 0 xs us) :
  Calls Tryz.prog 132 us.toArray w (za4 (zah G) bar g w out H'):=by
 unfold zvP at he
 split at he
 ·rename_i a b
  obtain ⟨u,v,rfl,hu,hv⟩:=zd9 ha
  have:=V.int_inv (show V (zah G) g w (.int .u64 (.ofNat a)) u from hu)
  subst this
  have:=V.int_inv (show V (zah G) g w (.int .u64 (.ofNat b)) v from hv)
  subst this
  cases hl:(Nat.blt a 18446744073709551616&&Nat.blt b 18446744073709551616) with
  | false=>simp [hl] at he
  | true =>
   simp only [hl,cond_true,Option.some.injEq,Prod.mk.injEq] at he
   obtain ⟨rfl,rfl⟩:=he
   simp only [Bool.and_eq_true,Nat.blt_eq] at hl
   refine (zuX a b hl.1 hl.2 w).mono fun e w' ⟨he,hw⟩=> ?_
   subst he;subst hw
   exact ⟨g,_,rfl, .refl _ _ _,hh,SV.of_V (.tup _ _ (.cons _ _ _ _ (.int _ _) (.cons _ _ _ _ (.int _ _) .nil)))⟩
 ·cases he
end
theorem zqN (x y c:Int) (hx:0≤x) (hy:0≤y) (hc0:0≤c) (hc:c≤1) (w:World) :
  (callFunc 155 #[.int .u64 x, .int .u64 y, .int .u64 c]).run Tryz.prog w= .ok (.value (.tuple #[.int .u64 ((x+y+c)%18446744073709551616), .int .u64 ((x+y+c)/18446744073709551616)])) w:=by
 rw [run_callFunc_extern Tryz.func155 (by kernel_rfl) (by kernel_rfl) (by kernel_rfl) (e:=add64Entry) (by kernel_rfl),run_add64 x y c hx hy hc0 hc]
 rfl
set_option maxHeartbeats 400000 in
set_option maxRecDepth 100000 in
theorem zx1 (b off n d k:Nat) (o:Bool) (hn:n<18446744073709551616) (hd:d≤9) (hk:k≤1000000) (w:World) (h0:w.cell? ⟨b,off,none⟩=some (.int .u64 n)) (h1:w.cell? ⟨b,off+1,none⟩=some (.bool o)) (f0:w.frozen? ⟨b,off,none⟩=false) (f1:w.frozen? ⟨b,off+1,none⟩=false) :
  Calls Tryz.prog 133 #[.pointer (some ⟨b,off,none⟩), .int .u8 (48+(d:Int)), .int .u64 k] w fun e w'=>e= .returned (.tuple #[]) ∧
   w'=(w.setCell ⟨b,off,none⟩ (.int .u64 (((n:Int)+(d*k:Nat))%18446744073709551616))).setCell ⟨b,off+1,none⟩ (.bool (o||decide (0<((n:Int)+(d*k:Nat))/18446744073709551616))):=by
 have mixed:Tryz.prog.follows .mixedOrders=true:=by kernel_rfl
 have hw0:IntKind.u8.wrap (48+(d:Int)-48)=(d:Int):=by rw [show 48+(d:Int)-48=d by omega];simp [IntKind.wrap,IntKind.bits,IntKind.signed];omega
 have hw1:IntKind.u8.wrap (d:Int)=(d:Int):=by simp [IntKind.wrap,IntKind.bits,IntKind.signed];omega
 have hw2:IntKind.u64.wrap (d:Int)=(d:Int):=by simp [IntKind.wrap,IntKind.bits,IntKind.signed];omega
 have e214: ∀ args w,(callFunc 132 args).run Tryz.prog w= .ok (.enter 132 args) w:=enters_of Tryz.func132 (by kernel_rfl) rfl
 have hdk:d*k≤9*1000000:=Nat.mul_le_mul hd hk
 have hmul:=zuX d k (by omega) (by omega)
 have hz:d*k/18446744073709551616=0:=Nat.div_eq_of_lt (by omega)
 have hm:d*k%18446744073709551616=d*k:=Nat.mod_eq_of_lt (by omega)
 rw [hz,hm] at hmul
 clear hz hm
 obtain ⟨B,hB⟩: ∃ B,B=d*k:=⟨_,rfl⟩
 rw [←hB] at hmul hdk ⊢
 clear hB
 have hadd:=zqN (n:Int) (B:Int) 0 (by omega) (by omega) (by omega) (by omega)
 have hs0:(n:Int)+(B:Int)+0=(n:Int)+(B:Int):=Int.add_zero _
 rw [hs0] at hadd
 obtain ⟨S,hS⟩: ∃ S,S=((n:Int)+(B:Int))%18446744073709551616:=⟨_,rfl⟩
 obtain ⟨C,hC⟩: ∃ C,C=((n:Int)+(B:Int))/18446744073709551616:=⟨_,rfl⟩
 have hC1:0≤C∧C≤1:=by omega
 rw [←hS,←hC] at hadd ⊢
 clear hS hC hs0 hn hdk hk hd
 have hw3:IntKind.u64.wrap (0+C)=C:=by simp [IntKind.wrap,IntKind.bits,IntKind.signed];omega
 have hw4:IntKind.u64.wrap C=C:=by simp [IntKind.wrap,IntKind.bits,IntKind.signed];omega
 cases o
 all_goals
  go_enter Tryz.func133,Tryz.ntmps133
  go_wp2_with (go_at_fn 132;refine (hmul _).mono ?_;rintro e w' ⟨rfl,rfl⟩)
  go_end0
  exact ⟨rfl,by simp⟩
section
variable {G:Nat→Option Obj} {bar:Nat} {xs:List AV} {H H':Heap} {out:Out}
theorem zxi (he:znP bar xs H=some (out,H')) {g:Gh} {w:World} {us:List Value} (hh:HeapR (zah G) g w H) (ha:ArgsV (zah G) g w 0 xs us) :
  Calls Tryz.prog 133 us.toArray w (za4 (zah G) bar g w out H'):=by
 unfold znP at he
 split at he
 ·rename_i id off c k
  obtain ⟨u0,u1,u2,rfl,hu0,hu1,hu2⟩:=zvI ha
  obtain ⟨b,hb,rfl⟩:=V.ptr_inv (show V (zah G) g w (.ptr id off) u0 from hu0)
  have:=V.int_inv (show V (zah G) g w (.int .u8 (.ofNat c)) u1 from hu1)
  subst this
  have:=V.int_inv (show V (zah G) g w (.int .u64 (.ofNat k)) u2 from hu2)
  subst this
  cases hcond:(Nat.ble bar id&&Nat.ble 48 c&&Nat.ble c 57&&Nat.ble k 1000000) with
  | false=>simp [hcond] at he
  | true =>
   simp only [hcond,cond_true] at he
   simp only [Bool.and_eq_true] at hcond
   obtain ⟨⟨⟨q1,q2⟩,q3⟩,q4⟩:=hcond
   have q1:=Nat.le_of_ble_eq_true q1
   have q2:=Nat.le_of_ble_eq_true q2
   have q3:=Nat.le_of_ble_eq_true q3
   have q4:=Nat.le_of_ble_eq_true q4
   split at he
   ·rename_i cs hid
    split at he
    ·rename_i n o hc0 hc1
     cases hn:Nat.blt n 18446744073709551616 with
     | false=>simp [hn] at he
     | true =>
      simp only [hn,cond_true,Option.some.injEq,Prod.mk.injEq] at he
      obtain ⟨rfl,rfl⟩:=he
      rw [Nat.blt_eq] at hn
      obtain ⟨v0,c1,c2,c3⟩:=hh.cell hb hid hc0
      have:=V.int_inv c2
      subst this
      obtain ⟨v1,d1,d2,d3⟩:=hh.cell hb hid hc1
      have:=V.bool_inv d2
      subst this
      obtain ⟨d,rfl⟩: ∃ d,c=48+d:=⟨c-48,by omega⟩
      have hd:48+d-48=d:=by omega
      rw [hd]
      have e1:((n:Int)+(d*k:Nat))%18446744073709551616=(.ofNat ((n+d*k)%18446744073709551616):Int):=by
       generalize d*k=B
       show _=(((n+B)%18446744073709551616:Nat):Int)
       omega
      have e2:decide (0<((n:Int)+(d*k:Nat))/18446744073709551616)=decide (0<(n+d*k)/18446744073709551616):=by
       generalize d*k=B
       exact decide_eq_decide.2 (by omega)
      have hlt:=(List.getElem?_eq_some_iff.1 hc1).1
      obtain ⟨x1,x2⟩:=hh.set1 (off:=off) (a:= .int .u64 (.ofNat ((n+d*k)%18446744073709551616))) (u:= .int .u64 (.ofNat ((n+d*k)%18446744073709551616))) hb q1 hid (by omega) (.int _ _) rfl
      have hid2:(H.set id (some (cs.set off (.int .u64 (.ofNat ((n+d*k)%18446744073709551616))))))[id]? = some (some (cs.set off (.int .u64 (.ofNat ((n+d*k)%18446744073709551616))))):=by
       rw [List.getElem?_set_self (List.getElem?_eq_some_iff.1 hid).1]
      obtain ⟨y1,y2⟩:=x2.set1 (off:=off+1) (a:= .bool (o||decide (0<(n+d*k)/18446744073709551616))) (u:= .bool (o||decide (0<(n+d*k)/18446744073709551616))) hb q1 hid2 (by rw [List.length_set];exact hlt) (.bool _) rfl
      rw [List.set_set] at y2
      have hw:=zx1 b off n d k o hn (by omega) q4 w c1 d1 c3 d3
      rw [e1,e2] at hw
      rw [show 48+(d:Int)=((48+d:Nat):Int) from by omega] at hw
      refine Calls.mono hw fun e w' ⟨he,hw'⟩=> ?_
      subst he;subst hw'
      exact ⟨g,_,rfl,x1.trans y1,y2,SV.of_V (.tup [] [] .nil)⟩
    ·cases he
   ·cases he
 ·cases he
end
end Go.Proofs.YtfcgnpphabplbaaGreatDoor
namespace Go.Ak
def spF (n:Nat) (runs:Nat→CallF) (bar:Nat):CallF:=fun f xs H =>
 bif Nat.beq f 212 then zqJ xs H else bif Nat.beq f 214 then zvP xs H else bif Nat.beq f 215 then znP bar xs H else spE n runs bar f xs H
end Go.Ak
namespace Go.Proofs.YtfcgnpphabplbaaGreatDoor
open Go.Ak
theorem zHF {G:Nat→Option Obj} (hG:zeA G):zC8 (zah G) fsT spF:=by
 intro n runs hr bar f xs H out H' hf he
 unfold spF at he
 cases h1:Nat.beq f 212 with
 | true =>
  have:=zan h1
  subst this
  exact ⟨by kernel_rfl,fun g w us hh ha=>zxh (by exact he) hh ha⟩
 | false =>
  cases h2:Nat.beq f 214 with
  | true =>
   have:=zan h2
   subst this
   exact ⟨by kernel_rfl,fun g w us hh ha=>zAZ (by exact he) hh ha⟩
  | false =>
   cases h3:Nat.beq f 215 with
   | true =>
    have:=zan h3
    subst this
    exact ⟨by kernel_rfl,fun g w us hh ha=>zxi (by exact he) hh ha⟩
   | false =>
    simp only [h1,h2,h3,cond_false] at he
    exact zHG hG n runs hr bar f xs H out H' hf he
end Go.Proofs.YtfcgnpphabplbaaGreatDoor
