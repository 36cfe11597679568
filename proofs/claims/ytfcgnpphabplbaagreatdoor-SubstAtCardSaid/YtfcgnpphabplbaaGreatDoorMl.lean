/- Runs without a bound: the first rules; the living call. -/
import Derived.Test.YtfcgnpphabplbaaGreatDoorMe
import Derived.Test.YtfcgnpphabplbaaGreatDoorMd
import Derived.Test.YtfcgnpphabplbaaGreatDoorMk
set_option linter.unusedVariables false
set_option linter.unusedSimpArgs false
namespace Go.Ak
structure Sp where
 sp:Nat→(Nat→CallF)→Nat→CallF
 mono:zbQ sp
abbrev u64 (n:Nat):AV:= .int .u64 n
def rowOf:List AV→AV
 | []=> .nils
 | a::l=> .slc .ro (a::l)
mutual
def Re.av:Re→AV
 | .mk k set mn mx l=> .agg (.int .i64 k::(set.map u64 ++ [.int .i64 mn, .int .i64 mx,rowOf (Re.avs l)]))
def Re.avs:List Re→List AV
 | []=> []
 | x::l=>x.av::Re.avs l
end
def NS.cells (x:NS):List AV:=num x.op::(x.set.map u64 ++ [num x.next,num x.two])
theorem Re.avs_map: ∀ (l:List Re),Re.avs l=l.map Re.av
 | []=>rfl
 | x::l=>by rw [Re.avs,Re.avs_map l];rfl
def cellsOf (L:List NS):List AV:=L.flatMap NS.cells
def zFn (L:List NS):Prop:= ∀ x∈L,x.set.length=4
theorem ziG {L:List NS} (h:zFn L):(cellsOf L).length=L.length*7:=by
 unfold cellsOf
 induction L with
 | nil=>rfl
 | cons x L ih =>
  rw [List.flatMap_cons,List.length_append,ih (fun y hy=>h y (by simp [hy]))]
  have:=h x (by simp)
  simp [NS.cells,this];omega
theorem zrI (L:List NS) (x:NS):cellsOf (L ++ [x])=cellsOf L++x.cells:=by simp [cellsOf]
def PRow (H:Heap) (p:Nat) (L:List NS) (lv:AV):Prop:=zFn L∧((L= []∧lv= .nils)∨ ∃ r,lv= .msl 7 r 0 L.length∧p<r∧hget H r=some (some (cellsOf L)))
def PH (H:Heap) (p:Nat) (L:List NS) (first:Nat):Prop:= ∃ lv,hget H p=some (some [lv,num first])∧PRow H p L lv
def Front (p:Nat) (H H':Heap):Prop:=p<H'.length∧ ∀ i,i<p→hget H' i=hget H i
theorem zmT: ∀ (l:List UInt8),zgi l l=true
 | []=>rfl
 | a::l=>by simp [zgi,zgh,zmT l]
mutual
theorem zmU: ∀ (a:AV),zdr a a=true
 | .undef=>rfl
 | .bool b=>by simp [zdr]
 | .int k n=>by simp [zdr]
 | .str s=>by simp [zdr,zmT]
 | .nilp | .nils | .nilf | .nili=>rfl
 | .ptr a b=>by simp [zdr,zgh]
 | .rptr a b=>by simp [zdr,zgh,zeC a]
 | .slc p a=>by simp [zdr,zeC a]
 | .msl a b c d=>by simp [zdr,zgh]
 | .tptr a b c d=>by simp [zdr,zgh]
 | .bsl a b=>by simp [zdr,zgh]
 | .agg a=>by simp [zdr,zeC a]
 | .tup a=>by simp [zdr,zeC a]
 | .fn a b=>by simp [zdr,zgh,zeC b]
 | .ifc a b=>by simp [zdr,zgh,zmU b]
 | .box a=>by simp [zdr,zeC a]
 | .loc a b c=>by simp [zdr,zgh]
 | .eloc a b c d=>by simp [zdr,zgh]
 | .ref a b c d=>by simp [zdr,zgh]
theorem zeC: ∀ (l:List AV),zsE l l=true
 | []=>rfl
 | a::l=>by simp [zsE,zmU a,zeC l]
end
theorem zav: ∀ (l:List (Nat×AV)),zDV l l=true
 | []=>rfl
 | (k,a)::l=>by simp [zDV,zgh,zmU a,zav l]
theorem zat: ∀ (l:Heap),zt0 l l=true
 | []=>rfl
 | none::l=>by simp [zt0,zat l]
 | some a::l=>by simp [zt0,zeC a,zat l]
end Go.Ak
namespace Go.Ak
theorem zu5 {fs:Nat→Option AFunc} {sp:Nat→(Nat→CallF)→Nat→CallF} (hs:zbQ sp) {f:Nat} {F:AFunc} (hf:fs f=some F) (hp:F.pure=true) {xs:List AV} (hc:zcI xs=true) {v:AV} {bar0 n:Nat} {H0 H1:Heap} (h:run fs sp n bar0 f xs H0=some (.ret v,H1)) (bar:Nat) (H:Heap) :
  Rn fs sp bar f xs H=some (.ret v,H):=by
 have h1:=(zhh hs).2 ⟨n,h⟩
 rw [zxk hs hf,hp,hc] at h1 ⊢
 simp only [cond_true] at h1 ⊢
 cases hx:zDD fs sp 0 F xs [] with
 | none=>rw [hx] at h1;cases h1
 | some q =>
  obtain ⟨o,K⟩:=q
  rw [hx] at h1
  cases o with
  | ret u =>
   simp only [zeE] at h1 ⊢
   split at h1
   ·rename_i w hw
    simp only [Option.some.injEq,Prod.mk.injEq,Out.ret.injEq] at h1
    rw [h1.1]
   ·cases h1
  | pan u =>
   simp only [zeE] at h1
   split at h1
   ·cases h1
   ·cases h1
end Go.Ak
namespace Go.Ak
theorem zBn:zbQ spB:=fun n m c d bar hn hcd f xs H r h=>by
 unfold spB at h ⊢
 cases h1:Nat.beq f 41<;>rw [h1] at h<;>simp only [cond_true,cond_false] at h ⊢
 ·cases h2:Nat.beq f 11<;>rw [h2] at h<;>simp only [cond_true,cond_false] at h ⊢
  ·exact h
  ·exact zom hn hcd xs H r h
 ·exact zlv hcd xs H r h
theorem zBm:zbQ spC:=fun n m c d bar hn hcd f xs H r h=>by
 unfold spC at h ⊢
 cases h1:Nat.beq f 182<;>rw [h1] at h<;>simp only [cond_true,cond_false] at h ⊢
 ·cases h2:Nat.beq f 202<;>rw [h2] at h<;>simp only [cond_true,cond_false] at h ⊢
  ·exact zBn n m c d bar hn hcd f xs H r h
  ·exact h
 ·exact h
theorem zBl:zbQ spD:=fun n m c d bar hn hcd f xs H r h=>by
 unfold spD at h ⊢
 cases h1:Nat.beq f 191<;>rw [h1] at h<;>simp only [cond_true,cond_false] at h ⊢
 ·cases h2:Nat.beq f 187<;>rw [h2] at h<;>simp only [cond_true,cond_false] at h ⊢
  ·exact zBm n m c d bar hn hcd f xs H r h
  ·exact h
 ·exact h
theorem zBk:zbQ spE:=fun n m c d bar hn hcd f xs H r h=>by
 unfold spE at h ⊢
 cases h1:Nat.beq f 181<;>rw [h1] at h<;>simp only [cond_true,cond_false] at h ⊢
 ·cases h2:Nat.beq f 184<;>rw [h2] at h<;>simp only [cond_true,cond_false] at h ⊢
  ·exact zBl n m c d bar hn hcd f xs H r h
  ·exact h
 ·exact h
def SA:Sp:=⟨spE,zBk⟩
section
variable {bar:Nat} {xs:List AV} {H:Heap}
theorem zDw:Rn fsT SA.sp bar 41 xs H=limit fun n=>zfB (run fsT spE n) xs H:=zuI SA.mono rfl bar xs H
theorem zMa:Rn fsT SA.sp bar 11 xs H=limit fun n=>zpt n (run fsT spE n) xs H:=zuI SA.mono rfl bar xs H
theorem zA4:Rn fsT SA.sp bar 191 xs H=zjx xs H:=(zuI SA.mono rfl bar xs H).trans (zcX _)
theorem zDv:Rn fsT SA.sp bar 182 xs H=zmk xs H:=(zuI SA.mono rfl bar xs H).trans (zcX _)
theorem zDx:Rn fsT SA.sp bar 181 xs H=zml xs H:=(zuI SA.mono rfl bar xs H).trans (zcX _)
theorem zA3:Rn fsT SA.sp bar 184 xs H=zjw xs H:=(zuI SA.mono rfl bar xs H).trans (zcX _)
theorem zvZ:Rn fsT SA.sp bar 112 xs H=zkW xs H:=(zuI SA.mono rfl bar xs H).trans (zcX _)
end
theorem zCo (a b:List UInt8):zi3 .neq a b=some (.bool (!zgi a b)):=rfl
end Go.Ak
