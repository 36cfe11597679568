/- Runs without a bound: the first rules; the living call. -/
import Derived.Test.YtfcgnpphabplbaaGreatDoorOe
import Derived.Test.YtfcgnpphabplbaaGreatDoorOd
import Derived.Test.YtfcgnpphabplbaaGreatDoorOl
import Derived.ProofKit
set_option linter.unusedVariables false
set_option linter.unusedSimpArgs false
namespace Go.Ak
structure Sp where
 sp:Nat→(Nat→CallF)→Nat→CallF
 mono:zbD sp
abbrev u64 (n:Nat):AV:= .int .u64 n
def rowOf:List AV→AV
 | []=> .nils
 | a::l=> .slc .ro (a::l)
mutual
def Re.av:Re→AV
 | .mk k set mn mx l=> .agg (.int .i64 k::(set.map u64 ++ [.int .i64 mn, .int .i64 mx,rowOf (Re.avs l)]))
def Re.avs:List Re→List AV
 | []=> []
 | x::l=>x.av::Re.avs l
end
def NS.cells (x:NS):List AV:=num x.op::(x.set.map u64 ++ [num x.next,num x.two])
theorem Re.avs_map: ∀ (l:List Re),Re.avs l=l.map Re.av
 | []=>rfl
 | x::l=>by rw [Re.avs,Re.avs_map l];rfl
def cellsOf (L:List NS):List AV:=L.flatMap NS.cells
def zEM (L:List NS):Prop:= ∀ x∈L,x.set.length=4
theorem zif {L:List NS} (h:zEM L):(cellsOf L).length=L.length*7:=by
 unfold cellsOf
 induction L with
 | nil=>rfl
 | cons x L ih =>
  rw [List.flatMap_cons,List.length_append,ih (fun y hy=>h y (by simp [hy]))]
  have:=h x (by simp)
  simp [NS.cells,this];omega
theorem zrv (L:List NS) (x:NS):cellsOf (L ++ [x])=cellsOf L++x.cells:=by simp [cellsOf]
def PRow (H:Heap) (p:Nat) (L:List NS) (lv:AV):Prop:=zEM L∧((L= []∧lv= .nils)∨ ∃ r,lv= .msl 7 r 0 L.length∧p<r∧hget H r=some (some (cellsOf L)))
def PH (H:Heap) (p:Nat) (L:List NS) (first:Nat):Prop:= ∃ lv,hget H p=some (some [lv,num first])∧PRow H p L lv
def Front (p:Nat) (H H':Heap):Prop:=p<H'.length∧ ∀ i,i<p→hget H' i=hget H i
theorem zmA: ∀ (l:List UInt8),zju l l=true
 | []=>rfl
 | a::l=>by simp [zju,zg1,zmA l]
mutual
theorem zmB: ∀ (a:AV),zc5 a a=true
 | .undef=>rfl
 | .bool b=>by simp [zc5]
 | .int k n=>by simp [zc5]
 | .str s=>by simp [zc5,zmA]
 | .nilp | .nils | .nilf | .nili=>rfl
 | .ptr a b=>by simp [zc5,zg1]
 | .rptr a b=>by simp [zc5,zg1,zem a]
 | .slc p a=>by simp [zc5,zem a]
 | .msl a b c d=>by simp [zc5,zg1]
 | .tptr a b c d=>by simp [zc5,zg1]
 | .bsl a b=>by simp [zc5,zg1]
 | .agg a=>by simp [zc5,zem a]
 | .tup a=>by simp [zc5,zem a]
 | .fn a b=>by simp [zc5,zg1,zem b]
 | .ifc a b=>by simp [zc5,zg1,zmB b]
 | .box a=>by simp [zc5,zem a]
 | .loc a b c=>by simp [zc5,zg1]
 | .eloc a b c d=>by simp [zc5,zg1]
 | .ref a b c d=>by simp [zc5,zg1]
theorem zem: ∀ (l:List AV),zss l l=true
 | []=>rfl
 | a::l=>by simp [zss,zmB a,zem l]
end
theorem zav: ∀ (l:List (Nat×AV)),zDE l l=true
 | []=>rfl
 | (k,a)::l=>by simp [zDE,zg1,zmB a,zav l]
theorem zau: ∀ (l:Heap),ztI l l=true
 | []=>rfl
 | none::l=>by simp [ztI,zau l]
 | some a::l=>by simp [ztI,zem a,zau l]
end Go.Ak
namespace Go.Ak
theorem zuL {fs:Nat→Option AFunc} {sp:Nat→(Nat→CallF)→Nat→CallF} (hs:zbD sp) {f:Nat} {F:AFunc} (hf:fs f=some F) (hp:F.pure=true) {xs:List AV} (hc:zdv xs=true) {v:AV} {bar0 n:Nat} {H0 H1:Heap} (h:run fs sp n bar0 f xs H0=some (.ret v,H1)) (bar:Nat) (H:Heap) :
  Rn fs sp bar f xs H=some (.ret v,H):=by
 have h1:=(zgR hs).2 ⟨n,h⟩
 rw [zDb hs hf,hp,hc] at h1 ⊢
 simp only [cond_true] at h1 ⊢
 cases hx:zDj fs sp 0 F xs [] with
 | none=>rw [hx] at h1;cases h1
 | some q =>
  obtain ⟨o,K⟩:=q
  rw [hx] at h1
  cases o with
  | ret u =>
   simp only [zeI] at h1 ⊢
   split at h1
   ·rename_i w hw
    simp only [Option.some.injEq,Prod.mk.injEq,Out.ret.injEq] at h1
    rw [h1.1]
   ·cases h1
  | pan u =>
   simp only [zeI] at h1
   split at h1
   ·cases h1
   ·cases h1
end Go.Ak
namespace Go.Ak
theorem zA4:zbD spB:=fun n m c d bar hn hcd f xs H r h=>by
 unfold spB at h ⊢
 cases h1:Nat.beq f 41<;>rw [h1] at h<;>simp only [cond_true,cond_false] at h ⊢
 ·cases h2:Nat.beq f 11<;>rw [h2] at h<;>simp only [cond_true,cond_false] at h ⊢
  ·exact h
  ·exact znQ hn hcd xs H r h
 ·exact zkT hcd xs H r h
theorem zA3:zbD spC:=fun n m c d bar hn hcd f xs H r h=>by
 unfold spC at h ⊢
 cases h1:Nat.beq f 182<;>rw [h1] at h<;>simp only [cond_true,cond_false] at h ⊢
 ·cases h2:Nat.beq f 202<;>rw [h2] at h<;>simp only [cond_true,cond_false] at h ⊢
  ·exact zA4 n m c d bar hn hcd f xs H r h
  ·exact h
 ·exact h
theorem zA2:zbD spD:=fun n m c d bar hn hcd f xs H r h=>by
 unfold spD at h ⊢
 cases h1:Nat.beq f 191<;>rw [h1] at h<;>simp only [cond_true,cond_false] at h ⊢
 ·cases h2:Nat.beq f 187<;>rw [h2] at h<;>simp only [cond_true,cond_false] at h ⊢
  ·exact zA3 n m c d bar hn hcd f xs H r h
  ·exact h
 ·exact h
theorem zA1:zbD spE:=fun n m c d bar hn hcd f xs H r h=>by
 unfold spE at h ⊢
 cases h1:Nat.beq f 181<;>rw [h1] at h<;>simp only [cond_true,cond_false] at h ⊢
 ·cases h2:Nat.beq f 184<;>rw [h2] at h<;>simp only [cond_true,cond_false] at h ⊢
  ·exact zA2 n m c d bar hn hcd f xs H r h
  ·exact h
 ·exact h
theorem zA0:zbD spF:=fun n m c d bar hn hcd f xs H r h=>by
 unfold spF at h ⊢
 cases h1:Nat.beq f 212<;>rw [h1] at h<;>simp only [cond_true,cond_false] at h ⊢
 ·cases h2:Nat.beq f 214<;>rw [h2] at h<;>simp only [cond_true,cond_false] at h ⊢
  ·cases h3:Nat.beq f 215<;>rw [h3] at h<;>simp only [cond_true,cond_false] at h ⊢
   ·exact zA1 n m c d bar hn hcd f xs H r h
   ·exact h
  ·exact h
 ·exact h
def SA:Sp:=⟨spF,zA0⟩
section
variable {bar:Nat} {xs:List AV} {H:Heap}
theorem zDa:Rn fsT SA.sp bar 41 xs H=limit fun n=>zfl (run fsT spF n) xs H:=znu SA.mono rfl bar xs H
theorem zLe:Rn fsT SA.sp bar 11 xs H=limit fun n=>zo9 n (run fsT spF n) xs H:=znu SA.mono rfl bar xs H
theorem zAJ:Rn fsT SA.sp bar 191 xs H=zi4 xs H:=(znu SA.mono rfl bar xs H).trans (zbk _)
theorem zAI:Rn fsT SA.sp bar 187 xs H=zhS xs H:=(znu SA.mono rfl bar xs H).trans (zbk _)
theorem zC9:Rn fsT SA.sp bar 182 xs H=zl1 xs H:=(znu SA.mono rfl bar xs H).trans (zbk _)
theorem zHj:Rn fsT SA.sp bar 202 xs H=zqK xs H:=(znu SA.mono rfl bar xs H).trans (zbk _)
theorem zDc:Rn fsT SA.sp bar 181 xs H=zl2 xs H:=(znu SA.mono rfl bar xs H).trans (zbk _)
theorem zHh:Rn fsT SA.sp bar 212 xs H=zqJ xs H:=(znu SA.mono rfl bar xs H).trans (zbk _)
theorem zLd:Rn fsT SA.sp bar 214 xs H=zvP xs H:=(znu SA.mono rfl bar xs H).trans (zbk _)
theorem zHi:Rn fsT SA.sp bar 215 xs H=znP bar xs H:=(znu SA.mono rfl bar xs H).trans (zbk _)
theorem zvB:Rn fsT SA.sp bar 112 xs H=zkm xs H:=(znu SA.mono rfl bar xs H).trans (zbk _)
end
theorem zB8 (a b:List UInt8):zlP .neq a b=some (.bool (!zju a b)):=rfl
end Go.Ak
namespace Go.Ak
set_option maxRecDepth 100000
theorem ztf:run fsT spF 200 0 161 [] []=some (.ret (.bool true),[]):=by kernel_rfl
theorem zFj (bar:Nat) (H:Heap):Rn fsT SA.sp bar 161 [] H=some (.ret (.bool true),H):=zuL SA.mono zFF rfl rfl ztf bar H
end Go.Ak
