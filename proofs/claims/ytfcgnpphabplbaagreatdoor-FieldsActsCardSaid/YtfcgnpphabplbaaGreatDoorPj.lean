/- strings.Trim, bits.Mul64, the number reader's next and the document's Of at the greatest size, told by functions of their own. -/
import Derived.Shelf.Strings.SlTrimAscii
import Derived.Shelf.Bits.Mul64
import Derived.Test.YtfcgnpphabplbaaGreatDoorProg
import Derived.Test.YtfcgnpphabplbaaGreatDoorPi
import Derived.Laws.Externs
set_option linter.unusedVariables false
set_option linter.unusedSimpArgs false
set_option maxRecDepth 100000
namespace Go.Proofs.YtfcgnpphabplbaaGreatDoor
open Go.Shelf
def Tryz.lays160_ren:Go.Shelf.Ren:=⟨fun|160=>130|232=>149|231=>148|227=>150|234=>152|233=>151|236=>154|235=>153|228=>167|271=>169|151=>168|197=>123|120=>182|152=>181|260=>143|137=>64|119=>188|224=>126|225=>125|217=>90|266=>121|n=>n,fun|9=>9|4=>4|3=>3|5=>5|117=>188|116=>187|0=>0|124=>191|21=>21|105=>162|46=>165|119=>201|139=>204|138=>203|n=>n,fun|3=>1|4=>2|n=>n⟩
theorem Tryz.lays160:Go.Proofs.Lays.n160 Tryz.prog Tryz.lays160_ren:={
 mixed:=by kernel_rfl,
 f119:=Tryz.func188.trans (dF some (by kernel_rfl)),
 f120:=Tryz.func182.trans (dF some (by kernel_rfl)),
 f137:=Tryz.func64.trans (dF some (by kernel_rfl)),
 f151:=Tryz.func168.trans (dF some (by kernel_rfl)),
 f152:=Tryz.func181.trans (dF some (by kernel_rfl)),
 f160:=Tryz.func130.trans (dF some (by kernel_rfl)),
 f197:=Tryz.func123.trans (dF some (by kernel_rfl)),
 f217:=Tryz.func90.trans (dF some (by kernel_rfl)),
 f224:=Tryz.func126.trans (dF some (by kernel_rfl)),
 f225:=Tryz.func125.trans (dF some (by kernel_rfl)),
 f227:=Tryz.func150.trans (dF some (by kernel_rfl)),
 f228:=Tryz.func167.trans (dF some (by kernel_rfl)),
 f231:=Tryz.func148.trans (dF some (by kernel_rfl)),
 f232:=Tryz.func149.trans (dF some (by kernel_rfl)),
 f233:=Tryz.func151.trans (dF some (by kernel_rfl)),
 f234:=Tryz.func152.trans (dF some (by kernel_rfl)),
 f235:=Tryz.func153.trans (dF some (by kernel_rfl)),
 f236:=Tryz.func154.trans (dF some (by kernel_rfl)),
 f260:=Tryz.func143.trans (dF some (by kernel_rfl)),
 f266:=Tryz.func121.trans (dF some (by kernel_rfl)),
 f271:=Tryz.func169.trans (dF some (by kernel_rfl)),
 t0:=Tryz.underlying0,
 a0:=Tryz.isAgg0,
 z0:=Tryz.sizeOf0,
 v0:=Tryz.zeroValue0,
 t3:=Tryz.underlying3,
 a3:=Tryz.isAgg3,
 z3:=Tryz.sizeOf3,
 v3:=Tryz.zeroValue3,
 t4:=Tryz.underlying4,
 a4:=Tryz.isAgg4,
 z4:=Tryz.sizeOf4,
 v4:=Tryz.zeroValue4,
 t5:=Tryz.underlying5,
 a5:=Tryz.isAgg5,
 z5:=Tryz.sizeOf5,
 v5:=Tryz.zeroValue5,
 t9:=Tryz.underlying9,
 a9:=Tryz.isAgg9,
 z9:=Tryz.sizeOf9,
 v9:=Tryz.zeroValue9,
 t21:=Tryz.underlying21,
 a21:=Tryz.isAgg21,
 z21:=Tryz.sizeOf21,
 v21:=Tryz.zeroValue21,
 t46:=Tryz.underlying165,
 a46:=Tryz.isAgg165,
 z46:=Tryz.sizeOf165,
 v46:=Tryz.zeroValue165,
 t105:=Tryz.underlying162,
 a105:=Tryz.isAgg162,
 z105:=Tryz.sizeOf162,
 v105:=Tryz.zeroValue162,
 t116:=Tryz.underlying187,
 a116:=Tryz.isAgg187,
 z116:=Tryz.sizeOf187,
 t117:=Tryz.underlying188,
 a117:=Tryz.isAgg188,
 z117:=Tryz.sizeOf188,
 v117:=Tryz.zeroValue188,
 t119:=Tryz.underlying201,
 a119:=Tryz.isAgg201,
 z119:=Tryz.sizeOf201,
 t124:=Tryz.underlying191,
 a124:=Tryz.isAgg191,
 z124:=Tryz.sizeOf191,
 v124:=Tryz.zeroValue191,
 t138:=Tryz.underlying203,
 a138:=Tryz.isAgg203,
 z138:=Tryz.sizeOf203,
 v138:=Tryz.zeroValue203,
 t139:=Tryz.underlying204,
 a139:=Tryz.isAgg204,
 z139:=Tryz.sizeOf204,
 v139:=Tryz.zeroValue204,
 g3:=by kernel_rfl,
 g4:=by kernel_rfl }
def Tryz.lays264_ren:Go.Shelf.Ren:=⟨fun|264=>132|n=>n,fun|53=>56|46=>165|n=>n,fun|n=>n⟩
theorem Tryz.lays264:Go.Proofs.Lays.n264 Tryz.prog Tryz.lays264_ren:={
 mixed:=by kernel_rfl,
 f264:=Tryz.func132.trans (dF some (by kernel_rfl)),
 t46:=Tryz.underlying165,
 a46:=Tryz.isAgg165,
 z46:=Tryz.sizeOf165,
 v46:=Tryz.zeroValue165,
 t53:=Tryz.underlying56,
 a53:=Tryz.isAgg56,
 z53:=Tryz.sizeOf56,
 v53:=Tryz.zeroValue56 }
end Go.Proofs.YtfcgnpphabplbaaGreatDoor
namespace Go.Ak
def Mf(xs:List AV)(H:aj):Option (Out×aj):=
 match xs with
 | [.str s,.str t]=>bif Nat.ble s.length 4294967296&&Nat.ble t.length 4294967280&&t.all (fun b=>Nat.blt b.toNat 128)then some (.ret (.str (Lib.trimS s t)),H)else none
 |_=>none
def Jr(xs:List AV)(H:aj):Option (Out×aj):=
 match xs with
 | [.int .u64 (.ofNat a),.int .u64 (.ofNat b)]=>bif Nat.blt a 18446744073709551616&&Nat.blt b 18446744073709551616 then
   some (.ret (.tup [.int .u64 (.ofNat (a*b/18446744073709551616)),.int .u64 (.ofNat (a*b%18446744073709551616))]),H)else none
 |_=>none
def Jq(ae:Nat)(xs:List AV)(H:aj):Option (Out×aj):=
 match xs with
 | [.ptr id ai,.int .u8 (.ofNat c),.int .u64 (.ofNat k)]=>bif Nat.ble ae id&&Nat.ble 48 c&&Nat.ble c 57&&Nat.ble k 1000000 then
   match H[id]? with
   |some (some cs)=>match cs[ai]?,cs[ai+1]? with
    |some (.int .u64 (.ofNat n)),some (.bool o)=>bif Nat.blt n 18446744073709551616 then
      some (.ret (.tup []),H.set id (some ((cs.set ai (.int .u64 (.ofNat ((n+(c-48)*k)%18446744073709551616)))).set (ai+1) (.bool (o||decide (0<(n+(c-48)*k)/18446744073709551616))))))
     else none
    |_,_=>none
   |_=>none
  else none
 |_=>none
end Go.Ak
namespace Go.Proofs.YtfcgnpphabplbaaGreatDoor
open Go.RowKit Go.Lib Go.Ak
section
variable {G:Nat->Option Obj} {ae:Nat} {xs:List AV} {H H':aj} {out:Out}
theorem h116:(Tryz.prog.info? (Tryz.lays160_ren.t 116)).map (fun i=>(i.zero,i.size))=some (some (.agg (Array.replicate 256 (.bool false))),256):=by kernel_rfl
theorem zj3(he:Mf xs H=some (out,H')){g:Gh}{w:World}{us:List Value}(hh:HeapR (cZ G) g w H)(ha:ArgsV (cZ G) g w 0 xs us):
  Calls Tryz.prog 130 us.toArray w (l7 (cZ G) ae g w out H'):=by
 unfold Mf at he;split at he
 ·rename_i s t;obtain⟨u,v,rfl,hu,hv⟩:=zV ha;have:=V.str_inv (show V (cZ G) g w (.str s) u from hu);subst this;have:=V.str_inv (show V (cZ G) g w (.str t) v from hv);subst this;cases hl:(Nat.ble s.length 4294967296&&Nat.ble t.length 4294967280&&t.all (fun b=>Nat.blt b.toNat 128))with
  |false=>simp[hl]at he
  |true=>
   simp only[hl,bA,aD,eU]at he;obtain⟨rfl,rfl⟩:=he;simp only[aU]at hl;obtain⟨⟨h1,h2⟩,h3⟩:=hl;have h1:=iy h1;have h2:=iy h2;refine(Any.strings_Trim_laid Tryz.lays160 h116 ⟨s.toArray⟩ ⟨t.toArray⟩ w (fT h1 (by omega)) (Nat.lt_of_le_of_lt h2 (by omega)) (fun j b hb=>?_)).mono fun e w' ⟨he,hw⟩=>?_
   ·have hm:=jm hb;have:=Gf.1 h3 b (by simpa using hm);simpa[Bn]using this
   ·subst he;exact⟨g.later w',_,rfl,Fb hh hw,MK hh hw,SV.of_V (.str _)⟩
 ·cases he
theorem zdv(a b:Nat)(h1:a<18446744073709551616)(h2:b<18446744073709551616)(w:World):
  Calls Tryz.prog 132 #[.int .u64 a,.int .u64 b] w fun e w'=>e=.returned (.tuple #[.int .u64 ((a*b/18446744073709551616:Nat):Int),.int .u64 ((a*b%18446744073709551616:Nat):Int)])∧w'=w:=
 Any.bits_Mul64 Tryz.lays264 a b h1 h2 w
theorem zjG{T:Tr}{g:Gh}{w:World}{a b c:AV}{us:List Value}(h:ArgsV T g w 0 [a,b,c] us):∃u v x,us=[u,v,x]∧SV T g w (.arg 0) a u∧SV T g w (.arg 1) b v∧SV T g w (.arg 2) c x:=by
 cases h with
 |cons _ _ u _ vs h1 h2=>
  cases h2 with
  |cons _ _ v _ ws h3 h4=>
   cases h4 with
   |cons _ _ x _ zs h5 h6=>cases h6;exact⟨u,v,x,rfl,h1,h3,h5⟩
theorem zkb(he:Jr xs H=some (out,H')){g:Gh}{w:World}{us:List Value}(hh:HeapR (cZ G) g w H)(ha:ArgsV (cZ G) g w 0 xs us):
  Calls Tryz.prog 132 us.toArray w (l7 (cZ G) ae g w out H'):=by
 unfold Jr at he;split at he
 ·rename_i a b;obtain⟨u,v,rfl,hu,hv⟩:=zV ha;have:=V.int_inv (show V (cZ G) g w (.int .u64 (.ofNat a)) u from hu);subst this;have:=V.int_inv (show V (cZ G) g w (.int .u64 (.ofNat b)) v from hv);subst this;cases hl:(Nat.blt a 18446744073709551616&&Nat.blt b 18446744073709551616)with
  |false=>simp[hl]at he
  |true=>
   simp only[hl,bA,aD,eU]at he;obtain⟨rfl,rfl⟩:=he;simp only[aU,Bn]at hl;refine(zdv a b hl.1 hl.2 w).mono fun e w' ⟨he,hw⟩=>?_;subst he;subst hw;exact⟨g,_,rfl,.refl _ _ _,hh,SV.of_V (.tup _ _ (.cons _ _ _ _ (.int _ _) (.cons _ _ _ _ (.int _ _) .nil)))⟩
 ·cases he
end
theorem zkP(x y c:Int)(hx:0<=x)(hy:0<=y)(hc0:0<=c)(hc:c<=1)(w:World):
  (callFunc 155 #[.int .u64 x,.int .u64 y,.int .u64 c]).run Tryz.prog w=.ok (.value (.tuple #[.int .u64 ((x+y+c)%18446744073709551616),.int .u64 ((x+y+c)/18446744073709551616)])) w:=by
 rw[run_callFunc_extern Tryz.func155 (by kernel_rfl) (by kernel_rfl) (by kernel_rfl) (e:=add64Entry) (by kernel_rfl),run_add64 x y c hx hy hc0 hc];rfl
set_option maxHeartbeats 400000 in
set_option maxRecDepth 100000 in
theorem znb(b ai n d k:Nat)(o:Bool)(hn:n<18446744073709551616)(hd:d<=9)(hk:k<=1000000)(w:World)(h0:w.cell? ⟨b,ai,none⟩=some (.int .u64 n))(h1:w.cell? ⟨b,ai+1,none⟩=some (.bool o))(f0:w.frozen? ⟨b,ai,none⟩=false)(f1:w.frozen? ⟨b,ai+1,none⟩=false):
  Calls Tryz.prog 133 #[.pointer (some ⟨b,ai,none⟩),.int .u8 (48+(d:Int)),.int .u64 k] w fun e w'=>e=.returned (.tuple #[])∧
   w'=(w.setCell ⟨b,ai,none⟩ (.int .u64 (((n:Int)+(d*k:Nat))%18446744073709551616))).setCell ⟨b,ai+1,none⟩ (.bool (o||decide (0<((n:Int)+(d*k:Nat))/18446744073709551616))):=by
 have mixed:Tryz.prog.follows .mixedOrders=true:=by kernel_rfl
 have hw0:IntKind.u8.wrap (48+(d:Int)-48)=(d:Int):=by rw[show 48+(d:Int)-48=d by omega];simp[IntKind.wrap,IntKind.bits,IntKind.signed];omega
 have aT:IntKind.u8.wrap (d:Int)=(d:Int):=by simp[IntKind.wrap,IntKind.bits,IntKind.signed];omega
 have bY:IntKind.u64.wrap (d:Int)=(d:Int):=by simp[IntKind.wrap,IntKind.bits,IntKind.signed];omega
 have e214:∀args w,(callFunc 132 args).run Tryz.prog w=.ok (.enter 132 args) w:=enters_of Tryz.func132 (by kernel_rfl) rfl;have hdk:d*k<=9*1000000:=zN hd hk;have hmul:=zdv d k (by omega) (by omega);have hz:d*k/18446744073709551616=0:=Nat.div_eq_of_lt (by omega);have hm:d*k%18446744073709551616=d*k:=EG (by omega);rw[hz,hm]at hmul;clear hz hm;obtain⟨B,hB⟩:∃B,B=d*k:=⟨_,rfl⟩
 rw[←hB]at hmul hdk ⊢;clear hB;have hadd:=zkP (n:Int) (B:Int) 0 (by omega) (by omega) (by omega) (by omega);have hs0:(n:Int)+(B:Int)+0=(n:Int)+(B:Int):=Int.add_zero _;rw[hs0]at hadd;obtain⟨S,hS⟩:∃S,S=((n:Int)+(B:Int))%18446744073709551616:=⟨_,rfl⟩
 obtain⟨C,hC⟩:∃C,C=((n:Int)+(B:Int))/18446744073709551616:=⟨_,rfl⟩
 have hC1:0<=C∧C<=1:=by omega
 rw[←hS,←hC]at hadd ⊢;clear hS hC hs0 hn hdk hk hd;have hw3:IntKind.u64.wrap (0+C)=C:=by simp[IntKind.wrap,IntKind.bits,IntKind.signed];omega
 have hw4:IntKind.u64.wrap C=C:=by simp[IntKind.wrap,IntKind.bits,IntKind.signed];omega
 cases o;all_goals
  go_enter Tryz.func133,Tryz.ntmps133
  go_wp2_with (go_at_fn 132;refine(hmul _).mono ?_;rintro e w' ⟨rfl,rfl⟩)
  go_end0
  exact⟨rfl,by simp⟩
section
variable {G:Nat->Option Obj} {ae:Nat} {xs:List AV} {H H':aj} {out:Out}
theorem zka(he:Jq ae xs H=some (out,H')){g:Gh}{w:World}{us:List Value}(hh:HeapR (cZ G) g w H)(ha:ArgsV (cZ G) g w 0 xs us):
  Calls Tryz.prog 133 us.toArray w (l7 (cZ G) ae g w out H'):=by
 unfold Jq at he;split at he
 ·rename_i id ai c k;obtain⟨u0,u1,u2,rfl,hu0,hu1,hu2⟩:=zjG ha;obtain⟨b,hb,rfl⟩:=V.ptr_inv (show V (cZ G) g w (.ptr id ai) u0 from hu0);have:=V.int_inv (show V (cZ G) g w (.int .u8 (.ofNat c)) u1 from hu1);subst this;have:=V.int_inv (show V (cZ G) g w (.int .u64 (.ofNat k)) u2 from hu2);subst this;cases dW:(Nat.ble ae id&&Nat.ble 48 c&&Nat.ble c 57&&Nat.ble k 1000000)with
  |false=>simp[dW]at he
  |true=>
   simp only[dW,bA]at he;simp only[aU]at dW;obtain⟨⟨⟨q1,q2⟩,q3⟩,q4⟩:=dW;have q1:=iy q1;have q2:=iy q2;have q3:=iy q3;have q4:=iy q4;split at he
   ·rename_i cs hid;split at he
    ·rename_i n o hc0 jV;cases hn:Nat.blt n 18446744073709551616 with
     |false=>simp[hn]at he
     |true=>
      simp only[hn,bA,aD,eU]at he;obtain⟨rfl,rfl⟩:=he;rw[Bn]at hn;obtain⟨v0,c1,c2,c3⟩:=hh.cell hb hid hc0;have:=V.int_inv c2;subst this;obtain⟨v1,d1,d2,d3⟩:=hh.cell hb hid jV;have:=V.bool_inv d2;subst this;obtain⟨d,rfl⟩:∃d,c=48+d:=⟨c-48,by omega⟩
      have hd:48+d-48=d:=by omega
      rw[hd];have e1:((n:Int)+(d*k:Nat))%18446744073709551616=(.ofNat ((n+d*k)%18446744073709551616):Int):=by
       generalize d*k=B;show _=(((n+B)%18446744073709551616:Nat):Int)
       omega
      have e2:decide (0<((n:Int)+(d*k:Nat))/18446744073709551616)=decide (0<(n+d*k)/18446744073709551616):=by
       generalize d*k=B;exact F7.2 (by omega)
      have aB:=(eD.1 jV).1;obtain⟨x1,x2⟩:=hh.set1 (ai:=ai) (a:=.int .u64 (.ofNat ((n+d*k)%18446744073709551616))) (u:=.int .u64 (.ofNat ((n+d*k)%18446744073709551616))) hb q1 hid (by omega) (.int _ _) rfl;have hid2:(H.set id (some (cs.set ai (.int .u64 (.ofNat ((n+d*k)%18446744073709551616))))))[id]?=some (some (cs.set ai (.int .u64 (.ofNat ((n+d*k)%18446744073709551616))))):=by
       rw[zO (eD.1 hid).1]
      obtain⟨y1,y2⟩:=x2.set1 (ai:=ai+1) (a:=.bool (o||decide (0<(n+d*k)/18446744073709551616))) (u:=.bool (o||decide (0<(n+d*k)/18446744073709551616))) hb q1 hid2 (by rw[List.length_set];exact aB) (.bool _) rfl;rw[iP]at y2;have hw:=znb b ai n d k o hn (by omega) q4 w c1 d1 c3 d3;rw[e1,e2]at hw;rw[show 48+(d:Int)=((48+d:Nat):Int)from by omega]at hw;refine Calls.mono hw fun e w' ⟨he,hw'⟩=>?_;subst he;subst hw';exact⟨g,_,rfl,x1.trans y1,y2,SV.of_V (.tup [] [] .nil)⟩
    ·cases he
   ·cases he
 ·cases he
end
end Go.Proofs.YtfcgnpphabplbaaGreatDoor
namespace Go.Ak
def Mk(n:Nat)(gX:Nat->CallF)(ae:Nat):CallF:=fun f xs H=>
 bif Nat.beq f 212 then Mf xs H else bif Nat.beq f 214 then Jr xs H else bif Nat.beq f 215 then Jq ae xs H else Ml n gX ae f xs H
end Go.Ak
namespace Go.Proofs.YtfcgnpphabplbaaGreatDoor
open Go.Ak
theorem zkh{G:Nat->Option Obj}(hG:Bh G):Be (cZ G) ak Mk:=by
 intro n gX hr ae f xs H out H' hf he;unfold Mk at he;cases h1:Nat.beq f 212 with
 |true=>
  have:=dH h1;subst this;exact⟨by kernel_rfl,fun g w us hh ha=>zj3 (by exact he) hh ha⟩
 |false=>
  cases h2:Nat.beq f 214 with
  |true=>
   have:=dH h2;subst this;exact⟨by kernel_rfl,fun g w us hh ha=>zkb (by exact he) hh ha⟩
  |false=>
   cases h3:Nat.beq f 215 with
   |true=>
    have:=dH h3;subst this;exact⟨by kernel_rfl,fun g w us hh ha=>zka (by exact he) hh ha⟩
   |false=>
    simp only[h1,h2,h3,fq]at he;exact zkj hG n gX hr ae f xs H out H' hf he
end Go.Proofs.YtfcgnpphabplbaaGreatDoor
namespace Go.Ak
def mostD:List Nat:=[8,0,8,5,7,7,4,5,8,6,3,0,2,7,3,3,2,2,9]
def JS:Nat->Nat->List Nat
 |0,_=>[]
 |f+1,x=>if x=0 then[]else x%10::JS f (x/10)
theorem zqm:JS 20 9223372036854775808=mostD:=by decide
def dE(l:List Nat):List AV:=l.map fun(d:Nat)=>.int .i64 (d:Int)
def Qz(xs:List AV)(H:aj):Option (Out×aj):=
 match xs with
 | [.int .i64 n]=>bif decide (n= -9223372036854775808)then some (.ret (.agg [.bool true,.slc .ro (dE mostD)]),H)else none
 |_=>none
end Go.Ak
namespace Go.Proofs.YtfcgnpphabplbaaGreatDoor
open Go.RowKit Go.Lib Go.Ak
def Fs(l:List Nat):List Value:=l.map fun(d:Nat)=>.int .i64 (d:Int)
theorem zeP(l:List Nat)(d:Nat):Fs (l ++[d])=Fs l ++[.int .i64 (d:Int)]:=by simp[Fs]
theorem tN:∃f0 f1,Tryz.prog.underlying 153=some (.struct #[f0,f1])∧(f0.type=4∧f0.offset=0)∧f1.type=101∧f1.offset=1:=by
 have h:(match Tryz.prog.underlying 153 with|some (.struct fs)=>fs.toList.map fun f=>(f.type,f.offset)|_=>[])=[(4,0),(101,1)]:=by kernel_rfl
 generalize Tryz.prog.underlying 153=u at h ⊢;split at h
 ·rename_i fs;obtain⟨l⟩:=fs;have hl:l.length=2:=by simpa using dF List.length h
  match l,hl,h with
  | [f0,f1],_,h=>
   simp only[mE,xG,LQ,eU,nE]at h;exact⟨f0,f1,rfl,h.1,h.2⟩
 ·cases h
theorem Ni{w:World}{b:Nat}{cur:Array Value}{t:TypeId}(h:w.heap[b]?=some (.cells cur t (0,0)))(i:Nat):w.frozen? ⟨b,i,none⟩=false:=by simp[World.frozen?,h]
theorem Rh(W:World)(a:Addr)(v:Value):W.grownBy (W.setCell a v) (some a.block):=
 ⟨rfl,rfl,rfl,(KeepsWalks.setCell W _ v).size,fun k _ hk=>Below.heap_setCell _ _ _ k (fun e=>hk (by rw[e]))⟩
theorem Jw{W:World}{b:Nat}{cur:Array Value}{t e:TypeId}(h:W.heap[b]?=some (.cells cur t (0,0)))(hte:t≠e){fE size k:Nat}{v:Value}{xs:List Value}(hr:W.ownsRow fE e size v k xs):some b≠v.ownBlock:=by
 rcases hr.2 with⟨rfl,_⟩|⟨g,cap,cur',rfl,_,hgb,_⟩
 ·simp[Value.ownBlock]
 ·intro e';obtain rfl:b=g:=by simpa[Value.ownBlock]using e'
  have:=h.symm.trans hgb;simp at this;exact hte this.2
theorem QB{w:World}{b k:Nat}{a:Array Value}(a':Array Value){t:TypeId}(v:Value)(h:w.heap[b]?=some (.cells a t (0,0)))(he:a.setIfInBounds k v=a'):(w.setCell ⟨b,k,none⟩ v).heap[b]?=some (.cells a' t (0,0)):=by
 simp only[World.setCell,zS,h];simp[he]
theorem zdX(w:World)(o:Obj):(w.alloc o).heap[w.heap.size]?=some o:=Qk
theorem MP{w:World}{o o':Obj}{b:Nat}(h:w.heap[b]?=some o):(w.alloc o').heap[b]?=some o:=(Below.heap_alloc _ _ _ (rz.1 h).1).trans h
set_option maxHeartbeats 4000000 in
set_option maxRecDepth 1000000 in
theorem zm0(w:World):
  Calls Tryz.prog 135 #[.int .i64 (-9223372036854775808)] w fun e w'=> ∃v,e=.returned (.agg #[.bool true,v])∧w'.ownsRow w.heap.size 3 1 v mostD.length (Fs mostD)∧v ≠ .slice none 0 0∧Below w.heap.size w w':=by
 have mixed:Tryz.prog.follows .mixedOrders=true:=by kernel_rfl
 obtain⟨i3,hi3,hz3,hsz3,hb3⟩:=info3;have u101:=run_underlying Ma;have hB0:Below w.heap.size w ((w.alloc (.cells #[.bool false,.slice none 0 0] 153)).alloc (.cells #[.bool true,.slice none 0 0] 153)):=((Below.refl _ w).alloc (aX _) _).alloc (by simp) _;have hc0:=MP (o':=.cells #[.bool true,.slice none 0 0] 153) (zdX w (.cells #[.bool false,.slice none 0 0] 153));have jV:=zdX (w.alloc (.cells #[.bool false,.slice none 0 0] 153)) (.cells #[.bool true,.slice none 0 0] 153);have fu:(w.alloc (.cells #[.bool false,.slice none 0 0] 153)).heap.size=w.heap.size+1:=by simp
 rw[fu]at jV;go_enter Tryz.func135,Tryz.ntmps135
 go_wp2
 go_loopg [0] 20 (fun gf v0 wx=> ∃(x:Nat)(D:List Nat)(sv:Value),v0=.int .i64 (-(x:Int))∧x<=9223372036854775808∧x<10^gf∧D.length+gf<=20∧D++JS gf x=mostD∧Below w.heap.size w wx∧wx.heap[w.heap.size]?=some (.cells #[.bool false,.slice none 0 0] 153 (0,0))∧wx.heap[w.heap.size+1]?=some (.cells #[.bool true,sv] 153 (0,0))∧
  wx.ownsRow w.heap.size 3 1 sv D.length (Fs D))
 case atStart=>
  exact⟨9223372036854775808,[],.slice none 0 0,rfl,aX _,by decide,by simp,zqm,hB0,hc0,jV,World.ownsRow_nil _ _ _ _⟩
 case round=>
  obtain⟨x,D,sv,rfl,hx,hxg,hDg,hD,jf,hb0,hb1,gP⟩:=hrel;have AD:=(show Aside _ from hD)
  clear hD;have c0:wr.cell? ⟨w.heap.size+1,0,none⟩=some (.bool true):=by simp[World.cell?,hb1]
  have c1:wr.cell? ⟨w.heap.size+1,1,none⟩=some sv:=by simp[World.cell?,hb1]
  have f0:=Ni hb0 0;have f1:=Ni hb0 1;have g1:=Ni hb1 1;have d0:wr.cell? ⟨w.heap.size,0,none⟩=some (.bool false):=by simp[World.cell?,hb0]
  have d1:wr.cell? ⟨w.heap.size,1,none⟩=some (.slice none 0 0):=by simp[World.cell?,hb0]
  have kept:∀o w3,(wr.alloc o).grownBy w3 sv.ownBlock->w3.heap[w.heap.size]?=some (.cells #[.bool false,.slice none 0 0] 153 (0,0))∧w3.heap[w.heap.size+1]?=some (.cells #[.bool true,sv] 153 (0,0))∧w3.frozen? ⟨w.heap.size+1,0,none⟩=false∧w3.frozen? ⟨w.heap.size+1,1,none⟩=false∧
    w3.cell? ⟨w.heap.size+1,0,none⟩=some (.bool true)∧w3.cell? ⟨w.heap.size+1,1,none⟩=some sv:=by
   intro o w3 hg;have aB:=(rz.1 hb1).1;have h:=(hg.block (w.heap.size+1) (by simp;omega) (Jw (MP hb1) (by decide) (gP.alloc o))).trans (MP hb1);have h':=(hg.block w.heap.size (by simp;omega) (Jw (MP hb0) (by decide) (gP.alloc o))).trans (MP hb0);exact⟨h',h,Ni h 0,Ni h 1,by simp[World.cell?,h],by simp[World.cell?,h]⟩
  by_cases h0:x=0
  ·subst h0;have hz0:(-((0:Nat):Int))=0:=rfl;have hDD:D=mostD:=by
    have:=AD.out;cases gk<;>simpa[JS]using this
   subst hDD;obtain⟨b3,qW,rfl⟩:=ownsRow_succ (k:=18) gP;have hbw':=jf;rw[hz0];clear AD jf;have hE:=QB (k:=1) #[.bool true,.slice (some ⟨b3,0,none⟩) 19 qW] (.slice (some ⟨b3,0,none⟩) 19 qW) (QB (k:=0) #[.bool true,.slice none 0 0] (.bool true) hb0 rfl) rfl;have hA0:((wr.setCell ⟨w.heap.size,0,none⟩ (.bool true)).setCell ⟨w.heap.size,1,none⟩ (.slice (some ⟨b3,0,none⟩) 19 qW)).cell? ⟨w.heap.size,0,none⟩=some (.bool true):=by simp[World.cell?,hE]
   have hA1:((wr.setCell ⟨w.heap.size,0,none⟩ (.bool true)).setCell ⟨w.heap.size,1,none⟩ (.slice (some ⟨b3,0,none⟩) 19 qW)).cell? ⟨w.heap.size,1,none⟩=some (.slice (some ⟨b3,0,none⟩) 19 qW):=by simp[World.cell?,hE]
   go_wp2
   obtain⟨_,_,hu, -⟩:=tN;refine bodyPost_ret (results_cell_row rfl _ _ w.heap.size _ _ _ _ rfl hE hu rfl (by kernel_rfl)) rfl ?_;have hX:=gP.kept (Rh wr ⟨w.heap.size,0,none⟩ (.bool true)) (.inr (Jw hb0 (by decide) gP).symm);have hY:=hX.kept (Rh _ ⟨w.heap.size,1,none⟩ (.slice (some ⟨b3,0,none⟩) 19 qW)) (.inr (Jw hb0 (by decide) gP).symm);exact⟨_,rfl,hY,(fun h=>by cases h),(hbw'.setCell (aX _) _).setCell (aX _) _⟩
  ·have hxi:¬(-(x:Int)=0):=by omega
   cases gk with
   |zero=>exact absurd hxg (by simp;omega)
   |succ gf=>
   have hDl:D.length<=19:=by omega
   by_cases hd:x%10=0
   ·have hd1:(x:Int)%10=0:=by omega
    go_wp2_with (at_builtin;go_must (refine wpList_append_own _ rfl (.tmp 17) (.tmp 19) 101 rfl w.heap.size 3 i3 (.int .i64 0) 1 8 Ma hi3 hz3 hsz3 hb3 rfl (by decide) _ _ _ rfl (gP.alloc _) ⟨wr.heap.size,0,none⟩ 1 1 [.int .i64 0] rfl rfl (cell_one_new _ _ _) (by intro u hu;simp at hu;subst hu;rfl) (by unfold maxLen;omega) (by omega) (by have:=jf.size;simp;omega) ?_;intro v3 w3 qf mH xY;obtain⟨hb2',hb3',e0,e1,k0,k1⟩:=kept _ w3 mH;obtain⟨b3,qW,rfl⟩:=ownsRow_succ qf))
    go_roundg gf
    case measure=>omega
    case rel=>
     refine⟨x/10,D ++[x%10],_,rfl,by omega,by rw[EF]at hxg;omega,by simp;omega,?_,?_,?_,QB _ _ hb3' rfl,?_⟩
     ·have:=AD.out;rw[JS,aF h0]at this;simpa using this
     ·exact((jf.alloc jf.size _).grown mH (by have:=jf.size;simp;omega) (fun j hj=>((gP.alloc (.cells #[.int .i64 0] 3)).lt j hj).1)).setCell (Nat.le_succ _) _
     ·exact(Below.heap_setCell _ _ _ _ (by simp)).trans hb2'
     ·have hZ:=qf.kept (Rh w3 ⟨w.heap.size+1,1,none⟩ (.slice (some ⟨b3,0,none⟩) (D.length+1) qW)) (.inr (Jw hb3' (by decide) qf).symm);rw[iF,zeP,hd];exact hZ
   ·have hd1:0<(x:Int)%10:=by omega
    go_wp2_with (at_builtin;go_must (refine wpList_append_own _ rfl (.tmp 17) (.tmp 19) 101 rfl w.heap.size 3 i3 (.int .i64 0) 1 8 Ma hi3 hz3 hsz3 hb3 rfl (by decide) _ _ _ rfl (gP.alloc _) ⟨wr.heap.size,0,none⟩ 1 1 [.int .i64 ((x:Int)%10)] rfl rfl (cell_one_new _ _ _) (by intro u hu;simp at hu;subst hu;rfl) (by unfold maxLen;omega) (by omega) (by have:=jf.size;simp;omega) ?_;intro v3 w3 qf mH xY;obtain⟨hb2',hb3',e0,e1,k0,k1⟩:=kept _ w3 mH;obtain⟨b3,qW,rfl⟩:=ownsRow_succ qf))
    go_roundg gf
    case measure=>omega
    case rel=>
     refine⟨x/10,D ++[x%10],_,rfl,by omega,by rw[EF]at hxg;omega,by simp;omega,?_,?_,?_,QB _ _ hb3' rfl,?_⟩
     ·have:=AD.out;rw[JS,aF h0]at this;simpa using this
     ·exact((jf.alloc jf.size _).grown mH (by have:=jf.size;simp;omega) (fun j hj=>((gP.alloc (.cells #[.int .i64 ((x:Int)%10)] 3)).lt j hj).1)).setCell (Nat.le_succ _) _
     ·exact(Below.heap_setCell _ _ _ _ (by simp)).trans hb2'
     ·have hZ:=qf.kept (Rh w3 ⟨w.heap.size+1,1,none⟩ (.slice (some ⟨b3,0,none⟩) (D.length+1) qW)) (.inr (Jw hb3' (by decide) qf).symm);rw[iF,zeP];exact hZ
theorem zeO{T:Tr}{g:Gh}{w:World}:∀(l:List Nat),Vs T g w (cz (dE l)) (Fs l)
 | []=>.nil
 |x::l=>.cons _ _ _ _ (.int _ _) (zeO l)
section
variable {G:Nat->Option Obj} {ae:Nat} {xs:List AV} {H H':aj} {out:Out}
theorem zj9(he:Qz xs H=some (out,H')){g:Gh}{w:World}{us:List Value}(hh:HeapR (cZ G) g w H)(ha:ArgsV (cZ G) g w 0 xs us):
  Calls Tryz.prog 135 us.toArray w (l7 (cZ G) ae g w out H'):=by
 unfold Qz at he;split at he
 ·rename_i n;obtain⟨u,rfl,hu⟩:=Gv ha;have:=V.int_inv (show V (cZ G) g w (.int .i64 n) u from hu);subst this;cases hn:decide (n= -9223372036854775808)with
  |false=>simp[hn]at he
  |true=>
   have hn:=Jd hn;subst hn;simp only[decide_true,bA,aD,eU]at he;obtain⟨rfl,rfl⟩:=he;refine(zm0 w).mono fun e w' ⟨v,he,bz,aR,hB⟩=>?_;subst he;have hl:(dE mostD).length=mostD.length:=rfl;obtain⟨r1,r2⟩:=bz;rcases r2 with⟨e,_⟩|⟨q,cap,cur,e,hq1,hq2,hq3,hq4,hq5,hq6⟩
   ·exact absurd e aR
   ·subst e;have hq:q<w'.heap.size:=(rz.1 hq2).1;obtain⟨x1,x2⟩:=Ri (ae:=ae) hh hB q cap ⟨hq1,hq⟩;refine⟨_,_,rfl,x1,x2,SV.of_V ?_⟩;refine V.agg [.bool true,.slc .ro (dE mostD)] [.bool true,.slice (some ⟨q,0,none⟩) mostD.length cap] (.cons _ _ _ _ (.bool _) (.cons _ _ _ _ ?_ .nil)) (fun x hx=>by simp at hx;rcases hx with rfl|rfl<;>rfl);refine V.slc (dE mostD) q 0 (Fs mostD) 1 _ (fun k u hk=>?_) (zeO _) (fun e he=>?_) (by omega) hq3
    ·have hkl:=(eD.1 hk).1;have hml:(Fs mostD).length=mostD.length:=rfl;refine⟨by simp only[jZ,fD];omega,?_,?_⟩
     ·simp only[World.cell?,hq2,jZ];rw[←hq6,mP,aS (by omega),mR]at hk;simpa using hk
     ·have:=jm hk;obtain⟨x,_,rfl⟩:=pg.1 this;rfl
    ·obtain⟨x,_,rfl⟩:=pg.1 he;rfl
 ·cases he
end
end Go.Proofs.YtfcgnpphabplbaaGreatDoor
namespace Go.Ak
def qE(n:Nat)(gX:Nat->CallF)(ae:Nat):CallF:=fun f xs H=>
 bif Nat.beq f 217 then Qz xs H else Mk n gX ae f xs H
end Go.Ak
namespace Go.Proofs.YtfcgnpphabplbaaGreatDoor
open Go.Ak
theorem zke{G:Nat->Option Obj}(hG:Bh G):Be (cZ G) ak qE:=by
 intro n gX hr ae f xs H out H' hf he;unfold qE at he;cases h1:Nat.beq f 217 with
 |true=>
  have:=dH h1;subst this;exact⟨by kernel_rfl,fun g w us hh ha=>zj9 (by exact he) hh ha⟩
 |false=>
  simp only[h1,fq]at he;exact zkh hG n gX hr ae f xs H out H' hf he
end Go.Proofs.YtfcgnpphabplbaaGreatDoor
