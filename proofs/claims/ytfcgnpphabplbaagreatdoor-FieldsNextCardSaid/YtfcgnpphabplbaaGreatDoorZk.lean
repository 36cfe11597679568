/- Runs without a bound: the first rules; the living call. -/
import Derived.Test.YtfcgnpphabplbaaGreatDoorZe
import Derived.Test.YtfcgnpphabplbaaGreatDoorZd
import Derived.Test.YtfcgnpphabplbaaGreatDoorZj
import Derived.ProofKit
set_option linter.unusedVariables false
set_option linter.unusedSimpArgs false
namespace Go.Ak
structure Sp where
 sp:Nat→(Nat→CallF)→Nat→CallF
 mono:zbM sp
abbrev u64 (n:Nat):AV:= .int .u64 n
def rowOf:List AV→AV
 | []=> .nils
 | a::l=> .slc .ro (a::l)
mutual
def Re.av:Re→AV
 | .mk k set mn mx l=> .agg (.int .i64 k::(set.map u64 ++ [.int .i64 mn, .int .i64 mx,rowOf (Re.avs l)]))
def Re.avs:List Re→List AV
 | []=> []
 | x::l=>x.av::Re.avs l
end
def NS.cells (x:NS):List AV:=num x.op::(x.set.map u64 ++ [num x.next,num x.two])
theorem Re.avs_map: ∀ (l:List Re),Re.avs l=l.map Re.av
 | []=>rfl
 | x::l=>by rw [Re.avs,Re.avs_map l];rfl
def cellsOf (L:List NS):List AV:=L.flatMap NS.cells
def zEQ (L:List NS):Prop:= ∀ x∈L,x.set.length=4
theorem zin {L:List NS} (h:zEQ L):(cellsOf L).length=L.length*7:=by
 unfold cellsOf
 induction L with
 | nil=>rfl
 | cons x L ih =>
  rw [List.flatMap_cons,List.length_append,ih (fun y hy=>h y (by simp [hy]))]
  have:=h x (by simp)
  simp [NS.cells,this];omega
theorem zqY (L:List NS) (x:NS):cellsOf (L ++ [x])=cellsOf L++x.cells:=by simp [cellsOf]
def PRow (H:Heap) (p:Nat) (L:List NS) (lv:AV):Prop:=zEQ L∧((L= []∧lv= .nils)∨ ∃ r,lv= .msl 7 r 0 L.length∧p<r∧hget H r=some (some (cellsOf L)))
def PH (H:Heap) (p:Nat) (L:List NS) (first:Nat):Prop:= ∃ lv,hget H p=some (some [lv,num first])∧PRow H p L lv
def Front (p:Nat) (H H':Heap):Prop:=p<H'.length∧ ∀ i,i<p→hget H' i=hget H i
theorem zmc: ∀ (l:List UInt8),zlw l l=true
 | []=>rfl
 | a::l=>by simp [zlw,zf8,zmc l]
mutual
theorem zmd: ∀ (a:AV),zdi a a=true
 | .undef=>rfl
 | .bool b=>by simp [zdi]
 | .int k n=>by simp [zdi]
 | .str s=>by simp [zdi,zmc]
 | .nilp | .nils | .nilf | .nili=>rfl
 | .ptr a b=>by simp [zdi,zf8]
 | .rptr a b=>by simp [zdi,zf8,zes a]
 | .slc p a=>by simp [zdi,zes a]
 | .msl a b c d=>by simp [zdi,zf8]
 | .tptr a b c d=>by simp [zdi,zf8]
 | .bsl a b=>by simp [zdi,zf8]
 | .agg a=>by simp [zdi,zes a]
 | .tup a=>by simp [zdi,zes a]
 | .fn a b=>by simp [zdi,zf8,zes b]
 | .ifc a b=>by simp [zdi,zf8,zmd b]
 | .box a=>by simp [zdi,zes a]
 | .loc a b c=>by simp [zdi,zf8]
 | .eloc a b c d=>by simp [zdi,zf8]
 | .ref a b c d=>by simp [zdi,zf8]
theorem zes: ∀ (l:List AV),zrV l l=true
 | []=>rfl
 | a::l=>by simp [zrV,zmd a,zes l]
end
theorem zav: ∀ (l:List (Nat×AV)),zDm l l=true
 | []=>rfl
 | (k,a)::l=>by simp [zDm,zf8,zmd a,zav l]
theorem zat: ∀ (l:Heap),zs9 l l=true
 | []=>rfl
 | none::l=>by simp [zs9,zat l]
 | some a::l=>by simp [zs9,zes a,zat l]
end Go.Ak
namespace Go.Ak
theorem zuk {fs:Nat→Option AFunc} {sp:Nat→(Nat→CallF)→Nat→CallF} (hs:zbM sp) {f:Nat} {F:AFunc} (hf:fs f=some F) (hp:F.pure=true) {xs:List AV} (hc:zcQ xs=true) {v:AV} {bar0 n:Nat} {H0 H1:Heap} (h:run fs sp n bar0 f xs H0=some (.ret v,H1)) (bar:Nat) (H:Heap) :
  Rn fs sp bar f xs H=some (.ret v,H):=by
 have h1:=(zgY hs).2 ⟨n,h⟩
 rw [zwx hs hf,hp,hc] at h1 ⊢
 simp only [cond_true] at h1 ⊢
 cases hx:zC5 fs sp 0 F xs [] with
 | none=>rw [hx] at h1;cases h1
 | some q =>
  obtain ⟨o,K⟩:=q
  rw [hx] at h1
  cases o with
  | ret u =>
   simp only [zeu] at h1 ⊢
   split at h1
   ·rename_i w hw
    simp only [Option.some.injEq,Prod.mk.injEq,Out.ret.injEq] at h1
    rw [h1.1]
   ·cases h1
  | pan u =>
   simp only [zeu] at h1
   split at h1
   ·cases h1
   ·cases h1
end Go.Ak
namespace Go.Ak
theorem zAL:zbM spB:=fun n m c d bar hn hcd f xs H r h=>by
 unfold spB at h ⊢
 cases h1:Nat.beq f 41<;>rw [h1] at h<;>simp only [cond_true,cond_false] at h ⊢
 ·cases h2:Nat.beq f 11<;>rw [h2] at h<;>simp only [cond_true,cond_false] at h ⊢
  ·exact h
  ·exact znA hn hcd xs H r h
 ·exact zkQ hcd xs H r h
theorem zAK:zbM spC:=fun n m c d bar hn hcd f xs H r h=>by
 unfold spC at h ⊢
 cases h1:Nat.beq f 182<;>rw [h1] at h<;>simp only [cond_true,cond_false] at h ⊢
 ·cases h2:Nat.beq f 202<;>rw [h2] at h<;>simp only [cond_true,cond_false] at h ⊢
  ·exact zAL n m c d bar hn hcd f xs H r h
  ·exact h
 ·exact h
theorem zAJ:zbM spD:=fun n m c d bar hn hcd f xs H r h=>by
 unfold spD at h ⊢
 cases h1:Nat.beq f 191<;>rw [h1] at h<;>simp only [cond_true,cond_false] at h ⊢
 ·cases h2:Nat.beq f 187<;>rw [h2] at h<;>simp only [cond_true,cond_false] at h ⊢
  ·exact zAK n m c d bar hn hcd f xs H r h
  ·exact h
 ·exact h
def SA:Sp:=⟨spD,zAJ⟩
section
variable {bar:Nat} {xs:List AV} {H:Heap}
theorem zCZ:Rn fsT SA.sp bar 41 xs H=limit fun n=>zfo (run fsT spD n) xs H:=zHz SA.mono rfl bar xs H
theorem zMo:Rn fsT SA.sp bar 11 xs H=limit fun n=>zoL n (run fsT spD n) xs H:=zHz SA.mono rfl bar xs H
theorem zpU:Rn fsT SA.sp bar 112 xs H=zkf xs H:=(zHz SA.mono rfl bar xs H).trans (zf9 _)
end
theorem zBO (a b:List UInt8):zpX .neq a b=some (.bool (!zlw a b)):=rfl
theorem zfb: ∀ (l:List UInt8) (c:UInt8),Lib.indexByte l c= -1∨ ∃ n:Nat,n<l.length∧Lib.indexByte l c=n
 | [],_=> .inl rfl
 | b::l,c=>by
  simp only [Lib.indexByte]
  by_cases h:b=c
  ·exact .inr ⟨0,by simp,by simp [h]⟩
  ·have hb:(b==c)=false:=by simpa using h
   rcases zfb l c with e | ⟨n,h1,h2⟩
   ·exact .inl (by simp [hb,e])
   ·refine .inr ⟨n+1,by simpa using h1,?_⟩
    rw [if_neg (by simp [hb]),h2,if_neg (by simp<;>omega)]
    rfl
end Go.Ak
namespace Go.Ak
set_option maxRecDepth 100000
theorem zsI:run fsT spD 200 0 161 [] []=some (.ret (.bool true),[]):=by kernel_rfl
theorem zFo (bar:Nat) (H:Heap):Rn fsT SA.sp bar 161 [] H=some (.ret (.bool true),H):=zuk SA.mono zFt rfl rfl zsI bar H
end Go.Ak
