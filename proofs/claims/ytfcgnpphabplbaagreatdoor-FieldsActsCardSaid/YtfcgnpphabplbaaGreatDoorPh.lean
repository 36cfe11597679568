/- What Parse does, which recovers, and All, a range over a function: told by functions of their own. -/
import Derived.Tactics
import Derived.Tactics2
import Derived.Defers
import Derived.Recover
import Derived.WalkKit
import Derived.Laws.Pointers
import Derived.ProofKit
import Derived.Shelf.RegionOpenPlain
import Derived.Test.YtfcgnpphabplbaaGreatDoorProg
import Derived.BigCall
import Derived.BigGuard
import Derived.Laws.Strings3
import Derived.Test.YtfcgnpphabplbaaGreatDoorPg
import Derived.Test.YtfcgnpphabplbaaGreatDoorPe
import Derived.Test.YtfcgnpphabplbaaGreatDoorPc
import Derived.RangeFuncNested
import Derived.RangeFuncBound
import Derived.RangeFuncCalls
import Derived.RangeFuncLeaves
import Derived.RangeFuncBox
import Derived.Shelf.Abstract
import Derived.Shelf.RegionOpen
import Derived.OwnWalkIn
import Derived.TacticsInMore
import Derived.LoopNIn
import Derived.LoopIn
import Derived.Maps.AppendAt
set_option linter.unusedVariables false
set_option linter.unusedSimpArgs false
namespace Go.Proofs.YtfcgnpphabplbaaGreatDoor
open Go.RowKit
set_option maxHeartbeats 4000000 in
set_option maxRecDepth 100000 in
theorem zqO(p q r:Addr)(w:World):
  CallsD Tryz.prog 80 #[.pointer (some p),.pointer (some q),.pointer (some r)] .returning w fun e u' w'=>e=.returned (.tuple #[])∧u'=.returning∧w'=w:=by
 refine callsD_of_wpS Tryz.func80 rfl fun c₀ cs hu=>?_;apply wpS_seq;apply wpS_region;simp[wpOpsS,go_sem,recoverD,hu,Tryz.ntmps80,Exit.thenS];apply wpS_seq;apply wpS_region;simp[wpOpsS,go_sem,Exit.thenS];refine wpS_cond (t:=false) (by simp[Act.eval,Array.replicate]) ?_;simp only[mQ,ig];refine wpS_of_wp (wp_skip ?_);cases c₀;simp_all[bodyPostS,results,Tryz.results80]
def AB(w:World)(b2 b3 b4:Nat)(ax why:Int):World:=
 (((((((((((w.setCell ⟨b2,0,none⟩ (.int .i64 0)).setCell ⟨b2,1,none⟩ (.int .u64 0)).setCell ⟨b2,2,none⟩ (.int .u64 0)).setCell ⟨b2,3,none⟩ (.int .u64 0)).setCell ⟨b2,4,none⟩ (.int .u64 0)).setCell ⟨b2,5,none⟩ (.int .i64 0)).setCell ⟨b2,6,none⟩ (.int .i64 0)).setCell ⟨b2,7,none⟩ (.slice none 0 0)).setCell
  ⟨b3,0,none⟩ (.int .i64 ax)).setCell ⟨b4,0,none⟩ (.int .i64 why)).alloc (.cells #[.int .i64 ax,.int .i64 why] 119)).drew
set_option maxHeartbeats 4000000 in
set_option maxRecDepth 100000 in
theorem zqN(b2 b3 b4:Nat)(z0 z1 z2 z3 z4 z5 z6 z7 x3 x4:Value)(ax why:Int)(older:List PanicEntry)(w:World)(n23:b2≠b3)(n24:b2≠b4)(n34:b3≠b4)(l2:b2<w.heap.size)(l3:b3<w.heap.size)(l4:b4<w.heap.size)
  (h2:w.heap[b2]?=some (.cells #[z0,z1,z2,z3,z4,z5,z6,z7] 61 (0,0))) (h3:w.heap[b3]?=some (.cells #[x3] 3 (0,0))) (h4:w.heap[b4]?=some (.cells #[x4] 25 (0,0))) :
  CallsD Tryz.prog 80 #[.pointer (some ⟨b2,0,none⟩),.pointer (some ⟨b3,0,none⟩),.pointer (some ⟨b4,0,none⟩)] (.panicking ({ v:=.iface 119 (.agg #[.int .i64 ax,.int .i64 why]),recovered:=false }::older)) w fun e u' w'=>
   e=.returned (.tuple #[])∧u'=.panicking ({ v:=.iface 119 (.agg #[.int .i64 ax,.int .i64 why]),recovered:=true }::older)∧w'=AB w b2 b3 b4 ax why:=by
 refine callsD_of_wpS Tryz.func80 rfl fun c₀ cs hu=>?_;apply wpS_seq;apply wpS_region;simp[wpOpsS,go_sem,recoverD,hu,Tryz.ntmps80,Exit.thenS];apply wpS_seq;apply wpS_region;simp[wpOpsS,go_sem,Exit.thenS];refine wpS_cond (t:=true) (by simp[Act.eval,Array.replicate]) ?_;simp only[fD];have mixed:Tryz.prog.follows .mixedOrders=true:=by kernel_rfl
 have hk:(match Tryz.prog.underlying 119 with|some (.struct _)=>true|_=>false)=true:=by kernel_rfl
 obtain⟨fs,hfs⟩:∃fs,Tryz.prog.underlying 119=some (.struct fs):=by
  generalize Tryz.prog.underlying 119=x at hk;split at hk
  ·exact⟨_,rfl⟩
  ·cases hk
 have hta:∀(v:Value)(w:World),(Instr.typeAssert (.iface 119 v) 20 119 true).run Tryz.prog w=.ok (.tuple #[v,.bool true]) w:=fun v w=>by
  simp[Instr.typeAssert,run_underlying hfs,go_sem]
 apply wpS_seq;apply wpS_region;simp[wpOpsS,go_sem,hta,Exit.thenS];apply wpS_seq;apply wpS_seq;apply wpS_region;simp[wpOpsS,go_sem,Exit.thenS];refine wpS_cond (t:=false) (by simp[Act.eval,Array.replicate]) ?_;simp only[mQ,ig];refine wpS_of_wp (wp_skip ?_);simp only[Exit.thenS];refine wpS_of_wp ?_;have e0:w.cell? ⟨b2,0,none⟩=some z0:=by simp[World.cell?,h2]
 have f0:w.frozen? ⟨b2,0,none⟩=false:=by simp[World.frozen?,h2]
 have e1:w.cell? ⟨b2,1,none⟩=some z1:=by simp[World.cell?,h2]
 have f1:w.frozen? ⟨b2,1,none⟩=false:=by simp[World.frozen?,h2]
 have e2:w.cell? ⟨b2,2,none⟩=some z2:=by simp[World.cell?,h2]
 have f2:w.frozen? ⟨b2,2,none⟩=false:=by simp[World.frozen?,h2]
 have e3:w.cell? ⟨b2,3,none⟩=some z3:=by simp[World.cell?,h2]
 have f3:w.frozen? ⟨b2,3,none⟩=false:=by simp[World.frozen?,h2]
 have e4:w.cell? ⟨b2,4,none⟩=some z4:=by simp[World.cell?,h2]
 have f4:w.frozen? ⟨b2,4,none⟩=false:=by simp[World.frozen?,h2]
 have e5:w.cell? ⟨b2,5,none⟩=some z5:=by simp[World.cell?,h2]
 have f5:w.frozen? ⟨b2,5,none⟩=false:=by simp[World.frozen?,h2]
 have e6:w.cell? ⟨b2,6,none⟩=some z6:=by simp[World.cell?,h2]
 have f6:w.frozen? ⟨b2,6,none⟩=false:=by simp[World.frozen?,h2]
 have e7:w.cell? ⟨b2,7,none⟩=some z7:=by simp[World.cell?,h2]
 have f7:w.frozen? ⟨b2,7,none⟩=false:=by simp[World.frozen?,h2]
 have e30:w.cell? ⟨b3,0,none⟩=some x3:=by simp[World.cell?,h3]
 have f30:w.frozen? ⟨b3,0,none⟩=false:=by simp[World.frozen?,h3]
 have e40:w.cell? ⟨b4,0,none⟩=some x4:=by simp[World.cell?,h4]
 have f40:w.frozen? ⟨b4,0,none⟩=false:=by simp[World.frozen?,h4]
 go_region_o
 all_goals simp[bodyPostS,results,Tryz.results80,AB]
end Go.Proofs.YtfcgnpphabplbaaGreatDoor
namespace Go.Proofs.YtfcgnpphabplbaaGreatDoor
open Go.RowKit
def zbC:Array Value:= #[.int .i64 0,.int .u64 0,.int .u64 0,.int .u64 0,.int .u64 0,.int .i64 0,.int .i64 0,.slice none 0 0]
def wB(w:World)(s:ByteArray):World:=
 (((w.alloc (.cells #[.int .i64 0,.int .u64 0,.int .u64 0,.int .u64 0,.int .u64 0,.int .i64 0,.int .i64 0,.slice none 0 0] 61)).alloc (.cells #[.int .i64 0] 3)).alloc (.cells #[.int .i64 0] 25)).alloc (.cells #[.string s,.int .i64 0] 123)
def Laid(w w':World):Prop:=w'.heap[w.heap.size]?=some (.cells #[.int .i64 0,.int .u64 0,.int .u64 0,.int .u64 0,.int .u64 0,.int .i64 0,.int .i64 0,.slice none 0 0] 61 (0,0))∧
 w'.heap[w.heap.size+1]?=some (.cells #[.int .i64 0] 3 (0,0))∧w'.heap[w.heap.size+1+1]?=some (.cells #[.int .i64 0] 25 (0,0))
def parsed(w:World)(n:Nat)(c0 c1 c2 c3 c4 c5 c6 c7:Value):World:=
 (((((((((w.setCell ⟨n,0,none⟩ c0).setCell ⟨n,1,none⟩ c1).setCell ⟨n,2,none⟩ c2).setCell ⟨n,3,none⟩ c3).setCell ⟨n,4,none⟩ c4).setCell ⟨n,5,none⟩ c5).setCell ⟨n,6,none⟩ c6).setCell ⟨n,7,none⟩ c7).setCell ⟨n+1,0,none⟩ (.int .i64 0)).setCell ⟨n+1+1,0,none⟩ (.int .i64 0)
theorem zfb{w:World}{b:Nat}{z0 z1 z2 z3 z4 z5 z6 z7:Value}{t:TypeId}(h:w.heap[b]?=some (.cells #[z0,z1,z2,z3,z4,z5,z6,z7] t (0,0))):
  w.cell? ⟨b,0,none⟩=some z0∧w.cell? ⟨b,1,none⟩=some z1∧w.cell? ⟨b,2,none⟩=some z2∧w.cell? ⟨b,3,none⟩=some z3∧w.cell? ⟨b,4,none⟩=some z4∧w.cell? ⟨b,5,none⟩=some z5∧w.cell? ⟨b,6,none⟩=some z6∧w.cell? ⟨b,7,none⟩=some z7∧
  w.frozen? ⟨b,0,none⟩=false∧w.frozen? ⟨b,1,none⟩=false∧w.frozen? ⟨b,2,none⟩=false∧w.frozen? ⟨b,3,none⟩=false∧w.frozen? ⟨b,4,none⟩=false∧w.frozen? ⟨b,5,none⟩=false∧w.frozen? ⟨b,6,none⟩=false∧w.frozen? ⟨b,7,none⟩=false:=by
 simp[World.cell?,World.frozen?,h]
theorem Ry{w:World}{b:Nat}{z:Value}{t:TypeId}(h:w.heap[b]?=some (.cells #[z] t (0,0))):w.cell? ⟨b,0,none⟩=some z∧w.frozen? ⟨b,0,none⟩=false:=by
 simp[World.cell?,World.frozen?,h]
theorem heap_setCell_same{w:World}{b k:Nat}{a:Array Value}{t:TypeId}{fz:Nat×Nat}(v:Value)(h:w.heap[b]?=some (.cells a t fz)):(w.setCell ⟨b,k,none⟩ v).heap[b]?=some (.cells (a.setIfInBounds k v) t fz):=by
 simp only[World.setCell,zS,h];simp
theorem Aq{w:World}{b k:Nat}{a:Array Value}(a':Array Value){t:TypeId}{fz:Nat×Nat}(v:Value)(h:w.heap[b]?=some (.cells a t fz))(he:a.setIfInBounds k v=a'):(w.setCell ⟨b,k,none⟩ v).heap[b]?=some (.cells a' t fz):=he▸heap_setCell_same v h
theorem mY{w:World}{b c k:Nat}(v:Value)(h:b≠c):(w.setCell ⟨b,k,none⟩ v).heap[c]?=w.heap[c]? := by
 simp only[World.setCell,zS];rw[aF h]
theorem heap_alloc_old{w:World}{o:Obj}{b:Nat}{x:Obj}(h:w.heap[b]?=some x):(w.alloc o).drew.heap[b]?=some x:=by
 have hl:b<w.heap.size:=(rz.1 h).1;show(w.heap.push o)[b]?=some x;rw[Ji,aF (by omega),h]
theorem zqM{w:World}{b2 b3 b4:Nat}{z0 z1 z2 z3 z4 z5 z6 z7 x3 x4:Value}(ax why:Int)(n23:b2≠b3)(n24:b2≠b4)(n34:b3≠b4)(h2:w.heap[b2]?=some (.cells #[z0,z1,z2,z3,z4,z5,z6,z7] 61 (0,0)))(h3:w.heap[b3]?=some (.cells #[x3] 3 (0,0)))(h4:w.heap[b4]?=some (.cells #[x4] 25 (0,0))):
  (AB w b2 b3 b4 ax why).heap[b2]?=some (.cells #[.int .i64 0,.int .u64 0,.int .u64 0,.int .u64 0,.int .u64 0,.int .i64 0,.int .i64 0,.slice none 0 0] 61 (0,0))∧(AB w b2 b3 b4 ax why).heap[b3]?=some (.cells #[.int .i64 ax] 3 (0,0))∧(AB w b2 b3 b4 ax why).heap[b4]?=some (.cells #[.int .i64 why] 25 (0,0)):=by
 unfold AB;have s0:=Aq (k:=0) #[.int .i64 0,z1,z2,z3,z4,z5,z6,z7] (.int .i64 0) h2 rfl;have s1:=Aq (k:=1) #[.int .i64 0,.int .u64 0,z2,z3,z4,z5,z6,z7] (.int .u64 0) s0 rfl;have s2:=Aq (k:=2) #[.int .i64 0,.int .u64 0,.int .u64 0,z3,z4,z5,z6,z7] (.int .u64 0) s1 rfl;have s3:=Aq (k:=3) #[.int .i64 0,.int .u64 0,.int .u64 0,.int .u64 0,z4,z5,z6,z7] (.int .u64 0) s2 rfl;have s4:=Aq (k:=4) #[.int .i64 0,.int .u64 0,.int .u64 0,.int .u64 0,.int .u64 0,z5,z6,z7] (.int .u64 0) s3 rfl;have s5:=Aq (k:=5) #[.int .i64 0,.int .u64 0,.int .u64 0,.int .u64 0,.int .u64 0,.int .i64 0,z6,z7] (.int .i64 0) s4 rfl;have s6:=Aq (k:=6) #[.int .i64 0,.int .u64 0,.int .u64 0,.int .u64 0,.int .u64 0,.int .i64 0,.int .i64 0,z7] (.int .i64 0) s5 rfl;have s7:=Aq (k:=7) #[.int .i64 0,.int .u64 0,.int .u64 0,.int .u64 0,.int .u64 0,.int .i64 0,.int .i64 0,.slice none 0 0] (.slice none 0 0) s6 rfl;have t0:=(mY (w:=w) (k:=0) (.int .i64 0) n23).trans h3;have r0:=(mY (w:=w) (k:=0) (.int .i64 0) n24).trans h4;have t1:=(mY (w:=(w.setCell ⟨b2,0,none⟩ (.int .i64 0))) (k:=1) (.int .u64 0) n23).trans t0;have r1:=(mY (w:=(w.setCell ⟨b2,0,none⟩ (.int .i64 0))) (k:=1) (.int .u64 0) n24).trans r0;have t2:=(mY (w:=((w.setCell ⟨b2,0,none⟩ (.int .i64 0)).setCell ⟨b2,1,none⟩ (.int .u64 0))) (k:=2) (.int .u64 0) n23).trans t1;have r2:=(mY (w:=((w.setCell ⟨b2,0,none⟩ (.int .i64 0)).setCell ⟨b2,1,none⟩ (.int .u64 0))) (k:=2) (.int .u64 0) n24).trans r1;have t3:=(mY (w:=(((w.setCell ⟨b2,0,none⟩ (.int .i64 0)).setCell ⟨b2,1,none⟩ (.int .u64 0)).setCell ⟨b2,2,none⟩ (.int .u64 0))) (k:=3) (.int .u64 0) n23).trans t2;have r3:=(mY (w:=(((w.setCell ⟨b2,0,none⟩ (.int .i64 0)).setCell ⟨b2,1,none⟩ (.int .u64 0)).setCell ⟨b2,2,none⟩ (.int .u64 0))) (k:=3) (.int .u64 0) n24).trans r2;have t4:=(mY (w:=((((w.setCell ⟨b2,0,none⟩ (.int .i64 0)).setCell ⟨b2,1,none⟩ (.int .u64 0)).setCell ⟨b2,2,none⟩ (.int .u64 0)).setCell ⟨b2,3,none⟩ (.int .u64 0))) (k:=4) (.int .u64 0) n23).trans t3;have r4:=(mY (w:=((((w.setCell ⟨b2,0,none⟩ (.int .i64 0)).setCell ⟨b2,1,none⟩ (.int .u64 0)).setCell ⟨b2,2,none⟩ (.int .u64 0)).setCell ⟨b2,3,none⟩ (.int .u64 0))) (k:=4) (.int .u64 0) n24).trans r3;have t5:=(mY (w:=(((((w.setCell ⟨b2,0,none⟩ (.int .i64 0)).setCell ⟨b2,1,none⟩ (.int .u64 0)).setCell ⟨b2,2,none⟩ (.int .u64 0)).setCell ⟨b2,3,none⟩ (.int .u64 0)).setCell ⟨b2,4,none⟩ (.int .u64 0))) (k:=5) (.int .i64 0) n23).trans t4;have r5:=(mY (w:=(((((w.setCell ⟨b2,0,none⟩ (.int .i64 0)).setCell ⟨b2,1,none⟩ (.int .u64 0)).setCell ⟨b2,2,none⟩ (.int .u64 0)).setCell ⟨b2,3,none⟩ (.int .u64 0)).setCell ⟨b2,4,none⟩ (.int .u64 0))) (k:=5) (.int .i64 0) n24).trans r4;have t6:=(mY (w:=((((((w.setCell ⟨b2,0,none⟩ (.int .i64 0)).setCell ⟨b2,1,none⟩ (.int .u64 0)).setCell ⟨b2,2,none⟩ (.int .u64 0)).setCell ⟨b2,3,none⟩ (.int .u64 0)).setCell ⟨b2,4,none⟩ (.int .u64 0)).setCell ⟨b2,5,none⟩ (.int .i64 0))) (k:=6) (.int .i64 0) n23).trans t5;have r6:=(mY (w:=((((((w.setCell ⟨b2,0,none⟩ (.int .i64 0)).setCell ⟨b2,1,none⟩ (.int .u64 0)).setCell ⟨b2,2,none⟩ (.int .u64 0)).setCell ⟨b2,3,none⟩ (.int .u64 0)).setCell ⟨b2,4,none⟩ (.int .u64 0)).setCell ⟨b2,5,none⟩ (.int .i64 0))) (k:=6) (.int .i64 0) n24).trans r5;have t7:=(mY (w:=(((((((w.setCell ⟨b2,0,none⟩ (.int .i64 0)).setCell ⟨b2,1,none⟩ (.int .u64 0)).setCell ⟨b2,2,none⟩ (.int .u64 0)).setCell ⟨b2,3,none⟩ (.int .u64 0)).setCell ⟨b2,4,none⟩ (.int .u64 0)).setCell ⟨b2,5,none⟩ (.int .i64 0)).setCell ⟨b2,6,none⟩ (.int .i64 0))) (k:=7) (.slice none 0 0) n23).trans t6;have r7:=(mY (w:=(((((((w.setCell ⟨b2,0,none⟩ (.int .i64 0)).setCell ⟨b2,1,none⟩ (.int .u64 0)).setCell ⟨b2,2,none⟩ (.int .u64 0)).setCell ⟨b2,3,none⟩ (.int .u64 0)).setCell ⟨b2,4,none⟩ (.int .u64 0)).setCell ⟨b2,5,none⟩ (.int .i64 0)).setCell ⟨b2,6,none⟩ (.int .i64 0))) (k:=7) (.slice none 0 0) n24).trans r6;have s8:=(mY (k:=0) (.int .i64 ax) (vT n23)).trans s7;have t8:=Aq (k:=0) #[.int .i64 ax] (.int .i64 ax) t7 rfl;have r8:=(mY (k:=0) (.int .i64 ax) n34).trans r7;have s9:=(mY (k:=0) (.int .i64 why) (vT n24)).trans s8;have t9:=(mY (k:=0) (.int .i64 why) (vT n34)).trans t8;have r9:=Aq (k:=0) #[.int .i64 why] (.int .i64 why) r8 rfl;exact⟨heap_alloc_old s9,heap_alloc_old t9,heap_alloc_old r9⟩
set_option maxHeartbeats 4000000 in
set_option maxRecDepth 100000 in
theorem zlZ(s:ByteArray)(w:World)(hs:s.size<=400)(R:Ending->World->Prop)
  (bf:Calls Tryz.prog 81 #[.pointer (some ⟨w.heap.size+1+1+1,0,none⟩),.int .i64 0] (wB w s) fun e w'=>Laid w w'∧match e with
   | .returned v=> ∃c0 c1 c2 c3 c4 c5 c6 c7,v=.agg #[c0,c1,c2,c3,c4,c5,c6,c7]∧(∀c ∈ [c0,c1,c2,c3,c4,c5,c6,c7],c.oneCell'=true)∧R (.returned (.tuple #[.agg #[c0,c1,c2,c3,c4,c5,c6,c7],.int .i64 0,.int .i64 0])) (parsed w' w.heap.size c0 c1 c2 c3 c4 c5 c6 c7)
   | .panicked ch=> ∃ax why,ch=[{ v:=.iface 119 (.agg #[.int .i64 ax,.int .i64 why]),recovered:=false }]∧R (.returned (.tuple #[.agg zbC,.int .i64 ax,.int .i64 why])) (AB w' w.heap.size (w.heap.size+1) (w.heap.size+1+1) ax why)
   | .outgrown=>False):Calls Tryz.prog 58 #[.string s] w R:=by
 have hmf:∀(fn:Fn)(first cap:Array Value)(w:World),(Instr.makeFunc fn first cap).run Tryz.prog w=.ok (.func fn first cap) w:=fun _ _ _ _=>rfl;have mixed:Tryz.prog.follows .mixedOrders=true:=by kernel_rfl
 have e68:∀args w,(callFunc 81 args).run Tryz.prog w=.ok (.enter 81 args) w:=enters_of Tryz.func81 (by kernel_rfl) rfl;go_enter_defers Tryz.func58,Tryz.ntmps58
 go_wp2_with (go_at_fn 81;fail)
 refine bf.mono ?_;rintro e w' ⟨⟨g2,g3,g4⟩,hk⟩;obtain⟨d0,d1,d2,d3,d4,d5,d6,d7,y0,y1,y2,y3,y4,y5,y6,y7⟩:=zfb g2;obtain⟨d30,y30⟩:=Ry g3;obtain⟨d40,y40⟩:=Ry g4;cases e with
 |returned v=>
  obtain⟨c0,c1,c2,c3,c4,c5,c6,c7,rfl,fJ,hR⟩:=hk;simp only[il,List.not_mem_nil,or_false,forall_eq_or_imp,forall_eq]at fJ;obtain⟨q0,q1,q2,q3,q4,q5,q6,q7⟩:=fJ;have hs1:∀(W:World)(b k:Nat)(z c:Value),c.oneCell'=true->W.cell? ⟨b,k,none⟩=some z->W.frozen? ⟨b,k,none⟩=false->(store ⟨b,k,none⟩ c).run Tryz.prog W=.ok () (W.setCell ⟨b,k,none⟩ c):=fun W b k z c h1 h2 h3=>by
   rw[run_store Tryz.prog W _ c _ h1];simp[h2,h3]
  go_wp2
  refine leaves_cons (f:=80) (args:= #[.pointer (some ⟨w.heap.size,0,none⟩),.pointer (some ⟨w.heap.size+1,0,none⟩),.pointer (some ⟨w.heap.size+1+1,0,none⟩)]) (by simp) (by simp[go_sem]) ?_;refine(zqO _ _ _ _).mono ?_;rintro e u' w'' ⟨rfl,rfl,rfl⟩;simp[Leaves,settle,results,Tryz.results58,go_sem,d0,d1,d2,d3,d4,d5,d6,d7,d30,d40];exact hR
 |panicked ch=>
  obtain⟨ax,why,rfl,hR⟩:=hk;go_wp2
  have hl:w.heap.size+1+1<w'.heap.size:=(rz.1 g4).1;refine leaves_cons (f:=80) (args:= #[.pointer (some ⟨w.heap.size,0,none⟩),.pointer (some ⟨w.heap.size+1,0,none⟩),.pointer (some ⟨w.heap.size+1+1,0,none⟩)]) (by simp) (by simp[go_sem]) ?_;refine(zqN w.heap.size (w.heap.size+1) (w.heap.size+1+1) _ _ _ _ _ _ _ _ _ _ ax why [] w' (by omega) (by omega) (by omega) (by omega) (by omega) hl g2 g3 g4).mono ?_;rintro e u' w'' ⟨rfl,rfl,rfl⟩;obtain⟨i2,i3,i4⟩:=zqM ax why (by omega) (by omega) (by omega) g2 g3 g4;generalize AB w' w.heap.size (w.heap.size+1) (w.heap.size+1+1) ax why=W2 at i2 i3 i4 hR;obtain⟨k0,k1,k2,k3,k4,k5,k6,k7,_,_,_,_,_,_,_,_⟩:=zfb i2;obtain⟨k30,_⟩:=Ry i3;obtain⟨k40,_⟩:=Ry i4;simp[Leaves,settle,results,Tryz.results58,go_sem,k0,k1,k2,k3,k4,k5,k6,k7,k30,k40];exact hR
 |outgrown=>exact hk.elim
end Go.Proofs.YtfcgnpphabplbaaGreatDoor
namespace Go.Proofs.YtfcgnpphabplbaaGreatDoor
open Go.RowKit
def WA(w:World):World:=((w.alloc (.cells #[.int .i64 0,.int .u64 0,.int .u64 0,.int .u64 0,.int .u64 0,.int .i64 0,.int .i64 0,.slice none 0 0] 61)).alloc (.cells #[.int .i64 0] 3)).alloc (.cells #[.int .i64 2] 25)
set_option maxHeartbeats 4000000 in
set_option maxRecDepth 100000 in
theorem zl1(s:ByteArray)(w:World)(hs:400<s.size)(R:Ending->World->Prop)(hR:R (.returned (.tuple #[.agg #[.int .i64 0,.int .u64 0,.int .u64 0,.int .u64 0,.int .u64 0,.int .i64 0,.int .i64 0,.slice none 0 0],.int .i64 0,.int .i64 2])) (WA w)):
  Calls Tryz.prog 58 #[.string s] w R:=by
 have mixed:Tryz.prog.follows .mixedOrders=true:=by kernel_rfl
 have hmf:∀(fn:Fn)(first cap:Array Value)(w:World),(Instr.makeFunc fn first cap).run Tryz.prog w=.ok (.func fn first cap) w:=fun _ _ _ _=>rfl;go_enter_defers Tryz.func58,Tryz.ntmps58
 go_wp2
 simp[bodyPostD,Leaves,results,Tryz.results58,go_sem];exact hR
end Go.Proofs.YtfcgnpphabplbaaGreatDoor
namespace Go.Ak
def Qm:AV:=.agg [.int .i64 0,.int .u64 0,.int .u64 0,.int .u64 0,.int .u64 0,.int .i64 0,.int .i64 0,.nils]
def zZ(gX:Nat->CallF)(xs:List AV)(H:aj):Option (Out×aj):=
 match xs with
 | [.str s]=>bif Nat.ble s.length 400 then
   match gX 0 86 [.ptr 0 0,.int .i64 0] [some [.str s,.int .i64 0]]with
   |some (.ret v,H')=>match aN 0 H' v with
    |some (.agg [a0,a1,a2,a3,a4,a5,a6,a7])=>some (.ret (.tup [.agg [a0,a1,a2,a3,a4,a5,a6,a7],.int .i64 0,.int .i64 0]),H)
    |_=>none
   |some (.pan (.ifc 1 (.agg [.int .i64 a,.int .i64 b])),_)=>some (.ret (.tup [Qm,.int .i64 a,.int .i64 b]),H)
   |_=>none
  else some (.ret (.tup [Qm,.int .i64 0,.int .i64 2]),H)
 |_=>none
theorem zce{c d:Nat->CallF}(h:∀b,CallF.le (c b) (d b))(xs:List AV)(H:aj)(r:Out×aj)(e:zZ c xs H=some r):zZ d xs H=some r:=by
 unfold zZ at e ⊢;split at e
 ·rename_i s;cases hl:Nat.ble s.length 400 with
  |false=>simpa[hl]using e
  |true=>
   simp only[hl,bA]at e ⊢;cases hr:c 0 86 [.ptr 0 0,.int .i64 0] [some [.str s,.int .i64 0]]with
   |none=>rw[hr]at e;cases e
   |some q=>rw[h 0 _ _ _ _ hr];rw[hr]at e;exact e
 ·cases e
end Go.Ak
namespace Go.Proofs.YtfcgnpphabplbaaGreatDoor
open Go.Ak
theorem Gz(w:World)(o:Obj):(w.alloc o).heap.size=w.heap.size+1:=by
 show(w.heap.push o).size=_;simp
theorem alloc_at(w:World)(o:Obj)(b:Nat):(w.alloc o).heap[b]?=if b=w.heap.size then some o else w.heap[b]? := by
 show(w.heap.push o)[b]?=_;rw[Ji]
theorem GA{n:Nat}{w W:World}(h:Grown n w W)(o:Obj):Grown n w (W.alloc o) where
 block b hb:=by
  have:=h.le;rw[alloc_at,aF (by omega)];exact h.block b hb
 size:=h.size
 le:=by have:=h.le;rw[Gz];omega
 os:=h.os
 out:=h.out
theorem zd1(w:World):Grown w.heap.size w w:=⟨fun _ _=>rfl,rfl,aX _,rfl,rfl⟩
theorem zl5(w:World)(s:ByteArray):Grown w.heap.size w (wB w s):=GA (GA (GA (GA (zd1 w) _) _) _) _
theorem zl2(w:World)(s:ByteArray):(wB w s).heap.size=w.heap.size+3+1:=by
 unfold wB;rw[Gz,Gz,Gz,Gz]
theorem zl3(w:World)(s:ByteArray):(wB w s).heap[w.heap.size+3]?=some (.cells #[.string s,.int .i64 0] 123 (0,0)):=by
 unfold wB;rw[alloc_at,aS (by simp only[Gz])]
theorem zl4(w:World)(s:ByteArray):Laid w (wB w s):=by
 unfold wB Laid;simp only[alloc_at,Gz];have e1:¬w.heap.size=w.heap.size+1+1+1:=by omega
 have e2:¬w.heap.size=w.heap.size+1+1:=by omega
 have e3:¬w.heap.size=w.heap.size+1:=by omega
 have e4:¬w.heap.size+1=w.heap.size+1+1+1:=by omega
 have e5:¬w.heap.size+1=w.heap.size+1+1:=by omega
 have e6:¬w.heap.size+1+1=w.heap.size+1+1+1:=by omega
 refine⟨?_,?_,?_⟩<;>simp[e1,e2,e3,e4,e5,e6]
theorem zne(w:World)(n:Nat)(c0 c1 c2 c3 c4 c5 c6 c7:Value):Near n (n+3) w (parsed w n c0 c1 c2 c3 c4 c5 c6 c7):=by
 unfold parsed;refine .trans (.trans (.trans (.trans (.trans (.trans (.trans (.trans (.trans (.setCell _ _ ?_ ?_) (.setCell _ _ ?_ ?_)) (.setCell _ _ ?_ ?_)) (.setCell _ _ ?_ ?_)) (.setCell _ _ ?_ ?_)) (.setCell _ _ ?_ ?_)) (.setCell _ _ ?_ ?_)) (.setCell _ _ ?_ ?_)) (.setCell _ _ ?_ ?_)) (.setCell _ _ ?_ ?_)<;>omega
theorem znf(w:World)(n:Nat)(ax why:Int):Near n (n+3) w (AB w n (n+1) (n+1+1) ax why):=by
 unfold AB;refine .trans (.trans (.trans (.trans (.trans (.trans (.trans (.trans (.trans (.trans (.setCell _ _ ?_ ?_) (.setCell _ _ ?_ ?_)) (.setCell _ _ ?_ ?_)) (.setCell _ _ ?_ ?_)) (.setCell _ _ ?_ ?_)) (.setCell _ _ ?_ ?_)) (.setCell _ _ ?_ ?_)) (.setCell _ _ ?_ ?_)) (.setCell _ _ ?_ ?_)) (.setCell _ _ ?_ ?_)) (.alloc _ _ _ _)<;>omega
section
variable {G:Nat->Option Obj} {ae:Nat} {xs:List AV} {H H':aj} {out:Out}
theorem zbB{T:Tr}{g:Gh}{w:World}{a b:Int}:SV T g w .res (.tup [Qm,.int .i64 a,.int .i64 b]) (.tuple #[.agg zbC,.int .i64 a,.int .i64 b]):=by
 refine SV.of_V (.tup _ [_,_,_] (.cons _ _ _ _ (.agg _ [_,_,_,_,_,_,_,_] (.cons _ _ _ _ (.int _ _) (.cons _ _ _ _ (.int _ _) (.cons _ _ _ _ (.int _ _) (.cons _ _ _ _ (.int _ _) (.cons _ _ _ _ (.int _ _) (.cons _ _ _ _ (.int _ _) (.cons _ _ _ _ (.int _ _) (.cons _ _ _ _ .nils .nil)))))))) ?_) (.cons _ _ _ _ (.int _ _) (.cons _ _ _ _ (.int _ _) .nil))));simp[Value.oneCell']
theorem zdM{n:Nat}{g g':Gh}{w w':World}{s:ByteArray}(he:Ext 0 (g.alone (w.heap.size+3)) (wB w s) g' w'):Laid w w':=by
 obtain⟨h1,h2,h3⟩:=zl4 w s;refine⟨?_,?_,?_⟩
 ·rw[(he.kept _ (Nq (by omega))).2.2];exact h1
 ·rw[(he.kept _ (Nq (by omega))).2.2];exact h2
 ·rw[(he.kept _ (Nq (by omega))).2.2];exact h3
theorem zj8{gX:Nat->CallF}(hr:o9 (cZ G) 0 (gX 0))(he:zZ gX xs H=some (out,H')){g:Gh}{w:World}{us:List Value}(hh:HeapR (cZ G) g w H)(ha:ArgsV (cZ G) g w 0 xs us):
  Calls Tryz.prog 58 us.toArray w (l7 (cZ G) ae g w out H'):=by
 unfold zZ at he;split at he
 ·rename_i s;obtain⟨u,rfl,hu⟩:=Gv ha;have:=V.str_inv (show V (cZ G) g w (.str s) u from hu);subst this;cases hl:Nat.ble s.length 400 with
  |true=>
   simp only[hl,bA]at he;have fu:=iy hl;refine zlZ ⟨s.toArray⟩ w (by simpa[ByteArray.size]using fu) _ ?_;have hW:=zl5 w ⟨s.toArray⟩;have hs:=zl2 w ⟨s.toArray⟩;have hrd:=zl3 w ⟨s.toArray⟩;have hblk:blk (wB w ⟨s.toArray⟩) (w.heap.size+3) #[.string ⟨s.toArray⟩,.int .i64 0]:=by
    refine⟨⟨_,_,hrd⟩,fun k _=>?_,?_⟩
    ·simp[World.frozen?,hrd]
    ·simp[Value.oneCell']
   have hA:HeapR (cZ G) (g.alone (w.heap.size+3)) (wB w ⟨s.toArray⟩) [some [.str s,.int .i64 0]]:=
    zrr hh hW (by omega) hs hblk (.cons _ _ _ _ (.str s) (.cons _ _ _ _ (.int _ _) .nil))
   have Cg:ArgsV (cZ G) (g.alone (w.heap.size+3)) (wB w ⟨s.toArray⟩) 0 [.ptr 0 0,.int .i64 0] [.pointer (some ⟨w.heap.size+3,0,none⟩),.int .i64 0]:=
    .cons _ _ _ _ _ (SV.of_V (.ptr 0 0 _ (by simp[Gh.alone]))) (.cons _ _ _ _ _ (SV.of_V (.int _ _)) (.nil _))
   split at he
   ·rename_i v H1 dA;split at he
    ·rename_i a0 a1 a2 a3 a4 a5 a6 a7 jT;simp only[aD,eU]at he;obtain⟨rfl,rfl⟩:=he;refine((hr _ _ _ _ _ dA).2 _ _ _ hA Cg).mono fun e w' hq=>?_;cases e with
     |returned v'=>
      obtain⟨g',a,ea,e1,e2,e3⟩:=hq;simp only[Out.ret.injEq]at ea;subst ea;refine⟨zdM (n:=0) e1,?_⟩;have hv:=WX (T:=cZ G) e2 e3 jT;obtain⟨cs,aH,fJ,rfl⟩:=V.agg_inv (show V _ _ _ (.agg [a0,a1,a2,a3,a4,a5,a6,a7]) v' from hv);have bq:=aH.length;match cs,bq,fJ,aH with
      | [c0,c1,c2,c3,c4,c5,c6,c7],_,fJ,aH=>
       refine⟨c0,c1,c2,c3,c4,c5,c6,c7,rfl,fJ,?_⟩;have hF:=zne w' w.heap.size c0 c1 c2 c3 c4 c5 c6 c7;refine⟨g.home g' w' w.heap.size (w.heap.size+3),_,rfl,WR hh hW (by omega) hs e1 hF,zdV hh hW (by omega) hs e1 e2 hF,SV.of_V ?_⟩;have hvs:=Vs.mono (zoi hh hW (by omega) hs e1 e2 hF) (aH.reown _);exact .tup _ [_,_,_] (.cons _ _ _ _ (.agg _ _ hvs fJ) (.cons _ _ _ _ (.int _ _) (.cons _ _ _ _ (.int _ _) .nil)))
     |panicked ch=>
      obtain⟨_,_,_,_,h1,_⟩:=hq;cases h1
     |outgrown=>exact hq.elim
    ·cases he
   ·rename_i a b H1 dA;simp only[aD,eU]at he;obtain⟨rfl,rfl⟩:=he;refine((hr _ _ _ _ _ dA).2 _ _ _ hA Cg).mono fun e w' hq=>?_;cases e with
    |returned v'=>
     obtain⟨_,_,h1,_⟩:=hq;cases h1
    |panicked ch=>
     obtain⟨g',p,v,rfl,ea,e1,e2,e3⟩:=hq;simp only[Out.pan.injEq]at ea;subst ea;refine⟨zdM (n:=0) e1,?_⟩;obtain⟨u,hu2,rfl⟩:=V.ifc_inv e3;obtain⟨cs,aH,fJ,rfl⟩:=V.agg_inv hu2;have bq:=aH.length;match cs,bq,aH with
     | [c0,c1],_,aH=>
      cases aH with
      |cons _ _ _ _ k1 k2=>
       cases k2 with
       |cons _ _ _ _ k3 k4=>
        have:=V.int_inv k1;subst this;have:=V.int_inv k3;subst this;refine⟨a,b,rfl,?_⟩;have hF:=znf w' w.heap.size a b;exact⟨g.home g' w' w.heap.size (w.heap.size+3),_,rfl,WR hh hW (by omega) hs e1 hF,zdV hh hW (by omega) hs e1 e2 hF,zbB⟩
    |outgrown=>exact hq.elim
   ·cases he
  |false=>
   simp only[hl,fq,aD,eU]at he;obtain⟨rfl,rfl⟩:=he;have fu:400<s.length:=by
    rcases kY 400 s.length with h|h
    ·exact h
    ·rw[xC h]at hl;cases hl
   refine zl1 ⟨s.toArray⟩ w (by simpa[ByteArray.size]using fu) _ ?_;have hW:Grown w.heap.size w (WA w):=GA (GA (GA (zd1 w) _) _) _;have he:Ext ae g w g (WA w):={
    size:=hW.le
    S:=fun _=>aX _
    cell:=fun b o ho=>by
     have hb:b<w.heap.size:=by
      rcases kY b w.heap.size with h|h
      ·exact h
      ·rw[(hh.fresh b h).2]at ho;omega
     simp only[World.cell?,hW.block b hb]
    ob:=fun _ _ h=>h
    shape:=fun b x hx=>by
     have hb:b<w.heap.size:=by
      rcases kY b w.heap.size with h|h
      ·exact h
      ·simp[World.shape?,xK h]at hx
     simp only[World.shape?,hW.block b hb]at hx ⊢;exact hx
    kept:=fun b hb=>by
     have aB:b<w.heap.size:=by
      rcases kY b w.heap.size with h|h
      ·exact h
      ·rw[(hh.fresh b h).1]at hb;cases hb
     exact⟨hb,rfl,hW.block b aB⟩
    low:=fun id b _ _ hb=>by
     have aB:b<w.heap.size:=by
      rcases kY b w.heap.size with h|h
      ·exact h
      ·rw[(hh.fresh b h).1]at hb;cases hb
     exact⟨hb,rfl,hW.block b aB⟩
    os:=rfl
    out:=rfl }
   refine⟨g,_,rfl,he,?_,zbB⟩;exact hh.frame he (fun b id hb=>⟨hb,rfl,hW.block b (Ah hh (by rw[hb];simp))⟩) rfl (fun b hb=>hh.fresh b (fT hW.le hb))
 ·cases he
end
end Go.Proofs.YtfcgnpphabplbaaGreatDoor
namespace Go.Ak
def jL(jO:Int->Option (Int×Int×Bool))(len:Int):Nat->Int->Int->Option (List (Int×Int))
 |0,_,_=>none
 |n+1,ax,bQ=>bif decide (ax<=len)then match jO ax with
   |none=>none
   |some (f,t,b)=>bif b then(bif decide (f=t)&&decide (f=bQ)then jL jO len n (RowKit.wrap64 (f+1)) bQ else match jL jO len n t t with
     |none=>none
     |some l=>some ((f,t)::l))
    else some []
  else some []
end Go.Ak
namespace Go.Proofs.YtfcgnpphabplbaaGreatDoor
open Go.Ak (jL)
open Go.RowKit Go.Shelf
attribute [local go_sem] Oper.semAt_some
def Finds(w:World)(pv:Value)(s:ByteArray)(jO:Int->Option (Int×Int×Bool)):Prop:=
 ∀W,Below w.heap.size w W->∀ax f t b,jO ax=some (f,t,b)->Calls Tryz.prog 96 #[pv,.string s,.int .i64 ax] W fun e W'=>
  e=.returned (.tuple #[.int .i64 f,.int .i64 t,.bool b])∧Below W.heap.size W W'
theorem Q5{p:Nat->Prop}(h:∃m,p m):∃m,p m∧∀k,p k->m<=k:=by
 obtain⟨m,hm⟩:=h;induction m using Nat.strongRecOn with
 |ind m ih=>
  by_cases h:∃k,k<m∧p k
  ·obtain⟨k,h1,h2⟩:=h;exact ih k h1 h2
  ·exact⟨m,hm,fun k hk=>Nat.le_of_not_lt fun h'=>h ⟨k,h',hk⟩⟩
def Gj:Value->Int
 | .int _ n=>n
 |_=>0
open Classical in
noncomputable def QK(jO:Int->Option (Int×Int×Bool))(len:Int)(bQ ax:Value):Nat:=
 if h:∃m,(jL jO len m (Gj ax) (Gj bQ)).isSome=true then Classical.choose (Q5 h)else 0
theorem V9{jO:Int->Option (Int×Int×Bool)}{len bQ ax:Int}{m:Nat}{l:List (Int×Int)}(h:jL jO len m ax bQ=some l){last' at2:Int}
  (hn:∀m,(jL jO len (m+1) ax bQ).isSome=true->(jL jO len m at2 last').isSome=true):QK jO len (.int .i64 last') (.int .i64 at2)<QK jO len (.int .i64 bQ) (.int .i64 ax):=by
 have hex:∃m,(jL jO len m (Gj (.int .i64 ax)) (Gj (.int .i64 bQ))).isSome=true:=⟨m,by simp[Gj,h]⟩
 unfold QK;rw[dif_pos hex];obtain⟨h1,_⟩:=Classical.choose_spec (Q5 hex);generalize Classical.choose (Q5 hex)=k at h1;cases k with
 |zero=>simp[jL]at h1
 |succ k=>
  have h2:=hn k h1;have hex2:∃m,(jL jO len m (Gj (.int .i64 at2)) (Gj (.int .i64 last'))).isSome=true:=⟨k,h2⟩
  rw[dif_pos hex2];have:=(Classical.choose_spec (Q5 hex2)).2 k h2;omega
def KpA(n:Nat)(W W':World):Prop:=Below n W W'∧W'.heap[n+1]?=W.heap[n+1]? ∧ W'.heap[n+2]?=W.heap[n+2]?
theorem KpA.t{n:Nat}{A B C:World}(h:KpA n A B)(k:KpA n B C):KpA n A C:=⟨h.1.trans k.1,k.2.1.trans h.2.1,k.2.2.trans h.2.2⟩
theorem KpA.b{n:Nat}{w:World}(hn:n+3<=w.heap.size)(W:World)(l:Nat)(o o':Obj)(hl:w.heap.size<=l)(h:W.heap[l]?=some o)(h1:o.isCells=false)(h2:o.isWalk=false):KpA n W (W.putObj l o'):=by
 have hb:=belowK_b (n₀:=n) (w:=w) (by omega) W l o o' hl h h1 h2;have hb3:=belowK_b (n₀:=n+3) (w:=w) (by omega) W l o o' hl h h1 h2;exact⟨hb,hb3.block _ (by omega),hb3.block _ (by omega)⟩
set_option maxRecDepth 100000 in
set_option maxHeartbeats 4000000 in
theorem zqg(n l:Nat)(hn:1<=n)(w:World)(pv:Value)(s:ByteArray)(jO:Int->Option (Int×Int×Bool))(hfind:Finds w pv s jO)(xs:List (Int×Int))(m:Nat)(hxs:jL jO s.size m 0 (-1)=some xs)(J Jx:List (Int×Int)->World->Prop)
  (W:World) (hJ:AbidesFrom W.heap.size J) (hW:Below w.heap.size w W) (fu:w.heap.size+3<=W.heap.size) (h1:W.heap[w.heap.size+1]?=some (.cells #[pv] 65 (0,0))) (h2:W.heap[w.heap.size+2]?=some (.cells #[.string s] 9 (0,0)))
  (hY:∀pre (x:Int×Int) W,J pre W->pre.length<xs.length->YieldAt Fence.wide (n-1) Tryz.prog l #[.agg #[.int .i64 x.1,.int .i64 x.2]] W fun e W'=>
   (e=.returned (.bool true)∧J (pre ++[x]) W'∧KpA w.heap.size W W')∨(e=.returned (.bool false)∧Jx (pre ++[x]) W'))
  (h0:J [] W) :
  CallsIn Fence.wide n Tryz.prog 95 #[.func (.yield l) #[] #[],.pointer (some ⟨w.heap.size+2,0,none⟩),.pointer (some ⟨w.heap.size+1,0,none⟩)] W fun e W'=>(∃v,e=.returned v)∧
   ((∃ys,ys=xs∧J ys W')∨(∃pre,pre <+: xs∧Jx pre W')):=by
 refine callsIn_of_wp Tryz.func95 rfl trivial ?_ rfl;simp only[Tryz.ntmps95,Jf,fF,gW,Nat.reduceAdd,Nat.reduceSub,Array.replicate_succ,Array.replicate_zero,List.push_toArray,List.append_toArray,gV,kg];gi_wp2
 gi_loopw [4,5] (fun v4 v5 wr=> ∃(pre aY:List (Int×Int))(bQ ax:Int)(k:Nat),v4=.int .i64 bQ∧v5=.int .i64 ax∧xs=pre++aY∧jL jO s.size k ax bQ=some aY∧J pre wr∧Below w.heap.size w wr∧
   wr.heap[w.heap.size+1]?=some (.cells #[pv] 65 (0,0))∧wr.heap[w.heap.size+2]?=some (.cells #[.string s] 9 (0,0))∧W.heap.size<=wr.heap.size)
  (fun v4 v5 _=>QK jO s.size v4 v5)
 case atStart=>exact⟨[],xs, -1,0,m,rfl,rfl,rfl,hxs,h0,hW,h1,h2,aX _⟩
 case round=>
  obtain⟨pre,aY,bQ,ax,k,rfl,rfl,hx,hp,hJ1,hB,g1,g2,hg⟩:=hrel;have c1:wr.cell? ⟨w.heap.size+1,0,none⟩=some pv:=by simp[World.cell?,g1]
  have c2:wr.cell? ⟨w.heap.size+2,0,none⟩=some (.string s):=by simp[World.cell?,g2]
  cases k with
  |zero=>simp[jL]at hp
  |succ k=>
  by_cases cu:ax<=(s.size:Int)
  ·have hd:decide (ax<=(s.size:Int))=true:=LB cu;have hp0:=hp;simp only[jL,hd,bA]at hp;cases hf:jO ax with
   |none=>simp[hf]at hp
   |some q=>
    obtain⟨f,t,b⟩:=q;simp only[hf]at hp;have bf:=hfind wr hB ax f t b hf;have kept:∀{W':World},Below wr.heap.size wr W'->J pre W'∧Below w.heap.size w W'∧W'.heap[w.heap.size+1]?=some (.cells #[pv] 65 (0,0))∧W'.heap[w.heap.size+2]?=some (.cells #[.string s] 9 (0,0))∧W.heap.size<=W'.heap.size:=fun{W'} hb=>
     ⟨hJ pre wr W' none hJ1 ⟨hb.os,hb.tape,hb.output,hb.size,fun k hk _=>hb.block k hk⟩ (fun r e=>by cases e),hB.trans (hb.mono hB.size),(hb.block _ (by omega)).trans g1,(hb.block _ (by omega)).trans g2,fT hg hb.size⟩
    cases b with
    |false=>
     simp only[fq,aD]at hp;subst hp;gi_wp2_with (refine⟨trivial,?_⟩;gi_at_call 96;refine(callsIn_wide.2 bf).mono ?_;rintro e w' ⟨rfl,ky⟩)
     refine bodyPost_ret (results_none rfl _ _ _) rfl ?_;exact⟨⟨_,rfl⟩,.inl ⟨pre,by simp[hx],(kept ky).1⟩⟩
    |true=>
     simp only[bA]at hp;cases kJ:(decide (f=t)&&decide (f=bQ))with
     |true=>
      simp only[kJ,bA]at hp;simp only[aU,ik]at kJ;obtain⟨rfl,rfl⟩:=kJ;have hd1:(f==f)=true:=by simp
      gi_wp2_with (refine⟨trivial,?_⟩;gi_at_call 96;refine(callsIn_wide.2 bf).mono ?_;rintro e w' ⟨rfl,ky⟩)
      go_roundw
      case rel=>obtain⟨k1,k2,k3,k4,k5⟩:=kept ky;exact⟨pre,aY,f,_,k,rfl,rfl,hx,hp,k1,k2,k3,k4,k5⟩
      case measure=>exact V9 hp0 fun m hm=>by simpa[jL,hd,hf]using hm
     |false=>
      simp only[kJ,fq]at hp;cases hrest:jL jO s.size k t t with
      |none=>simp[hrest]at hp
      |some ys=>
       simp only[hrest,aD]at hp;subst hp;have lt:=fun(m:Nat)(hm:(jL jO s.size (m+1) ax bQ).isSome=true)=>(show(jL jO s.size m t t).isSome=true by
        simp only[jL,hd,bA,hf,kJ,fq]at hm;split at hm
        ·simp at hm
        ·rename_i e;rw[e];rfl)
       by_cases e1:f=t
       ·subst e1;have e2:¬f=bQ:=by simpa using kJ
        gi_wp2_with (refine⟨trivial,?_⟩;gi_at_call 96;refine(callsIn_wide.2 bf).mono ?_;rintro e w' ⟨rfl,ky⟩;obtain⟨k1,k2,k3,k4,k5⟩:=kept ky;obtain⟨fn,tmps,assign,body,hy,hR⟩:=hY pre (f,f) w' k1 (by simp[hx]))
        refine hR.mono ?_;rintro e W3 (⟨rfl,hJ3,hk3⟩|⟨rfl,hJx3⟩)
        ·gi_wp2
         go_roundw
         case rel=>exact⟨pre ++[(f,f)],ys,f,f,k,rfl,rfl,by simp[hx],hrest,hJ3,k2.trans hk3.1,hk3.2.1.trans k3,hk3.2.2.trans k4,fT k5 hk3.1.size⟩
         case measure=>exact V9 hp0 lt
        ·gi_wp2
         refine bodyPost_ret (results_none rfl _ _ _) rfl ?_;exact⟨⟨_,rfl⟩,.inr ⟨pre ++[(f,f)],⟨ys,by simp[hx]⟩,hJx3⟩⟩
       ·gi_wp2_with (refine⟨trivial,?_⟩;gi_at_call 96;refine(callsIn_wide.2 bf).mono ?_;rintro e w' ⟨rfl,ky⟩;obtain⟨k1,k2,k3,k4,k5⟩:=kept ky;obtain⟨fn,tmps,assign,body,hy,hR⟩:=hY pre (f,t) w' k1 (by simp[hx]))
        refine hR.mono ?_;rintro e W3 (⟨rfl,hJ3,hk3⟩|⟨rfl,hJx3⟩)
        ·gi_wp2
         go_roundw
         case rel=>exact⟨pre ++[(f,t)],ys,t,t,k,rfl,rfl,by simp[hx],hrest,hJ3,k2.trans hk3.1,hk3.2.1.trans k3,hk3.2.2.trans k4,fT k5 hk3.1.size⟩
         case measure=>exact V9 hp0 lt
        ·gi_wp2
         refine bodyPost_ret (results_none rfl _ _ _) rfl ?_;exact⟨⟨_,rfl⟩,.inr ⟨pre ++[(f,t)],⟨ys,by simp[hx]⟩,hJx3⟩⟩
  ·have hd:decide (ax<=(s.size:Int))=false:=decide_eq_false cu;simp only[jL,hd,fq,aD]at hp;subst hp;have aB:(s.size:Int)<ax:=by omega
   gi_wp2
   go_end0
   exact⟨⟨_,rfl⟩,.inl hJ1⟩
end Go.Proofs.YtfcgnpphabplbaaGreatDoor
namespace Go.Proofs.YtfcgnpphabplbaaGreatDoor
open Go.RowKit Go.Shelf
open Go.Ak (jL)
attribute [local go_sem] Oper.semAt_some
set_option maxRecDepth 100000 in
set_option maxHeartbeats 2000000 in
theorem zqf(n:Nat)(p:Option Addr)(s:ByteArray)(w:World):
  CallsIn Fence.wide n Tryz.prog 69 #[.pointer p,.string s] w fun e w'=>e=.returned (.func (.func 95) #[] #[.pointer (some ⟨w.heap.size+1,0,none⟩),.pointer (some ⟨w.heap.size,0,none⟩)])∧
   w'=(w.alloc (.cells #[.pointer p] 65)).alloc (.cells #[.string s] 9):=by
 have hmf:∀(fn:Fn)(first cap:Array Value)(w:World),(Instr.makeFunc fn first cap).run Tryz.prog w=.ok (.func fn first cap) w:=fun _ _ _ _=>rfl;refine callsIn_of_wp Tryz.func69 rfl trivial ?_ rfl;simp only[Tryz.ntmps69,Jf,fF,gW,Nat.reduceAdd,Nat.reduceSub,Array.replicate_succ,Array.replicate_zero,List.push_toArray,List.append_toArray,gV,kg];gi_wp2
 go_ret
 exact⟨rfl,rfl⟩
theorem zmb(B:Nat)(o:Obj)(ho:o.isCells=true){β:Type}:Own (fun(_:β) W=>W.heap[B]?=some o):=fun s X Y row hs hg hr=>by
 refine(hg.block B (rz.1 hs).1 (fun e=>?_)).trans hs;have h:=hr B e.symm;obtain⟨o',h1,h2⟩:=h;rw[hs]at h1;cases h1;rw[ho]at h2;cases h2
def Ab(x:Int×Int):List Value:=[.int .i64 x.1,.int .i64 x.2]
theorem zob:(Tryz.prog.info? 80).map (fun i=>(i.zero,i.size,i.bytes))=some (some (.agg #[.int .i64 0,.int .i64 0]),2,16):=by kernel_rfl
theorem zqL(w:World)(a b:Value)(t:TypeId):∀j u,[a,b][j]?=some u->(w.alloc (.cells #[a,b] t)).cell? ((⟨w.heap.size,0,none⟩:Addr).add j)=some u:=by
 intro j u hj;match j,hj with
 |0,hj=>
  simp at hj;subst hj;have h:=World.alloc_heap_new w (.cells #[a,b] t);show(match(w.alloc (.cells #[a,b] t)).heap[w.heap.size]? with|some (.cells c _ _)=>_|_=>none)=_;rw[h];rfl
 |1,hj=>
  simp at hj;subst hj;have h:=World.alloc_heap_new w (.cells #[a,b] t);show(match(w.alloc (.cells #[a,b] t)).heap[w.heap.size]? with|some (.cells c _ _)=>_|_=>none)=_;rw[h];rfl
set_option maxRecDepth 100000 in
set_option maxHeartbeats 4000000 in
theorem all_in(n:Nat)(hn:5<=n)(p:Option Addr)(s:ByteArray)(w:World)(jO:Int->Option (Int×Int×Bool))(hfind:Finds w (.pointer p) s jO)(xs:List (Int×Int))(m:Nat)(hxs:jL jO s.size m 0 (-1)=some xs)(bq:xs.length<=1000000):
  CallsIn Fence.wide n Tryz.prog 45 #[.pointer p,.string s] w fun e W'=> ∃v,e=.returned v∧W'.ownsRow w.heap.size 80 2 v xs.length (xs.flatMap Ab)∧(v=.slice none 0 0↔xs=[])∧Below w.heap.size w W':=by
 have u41:Tryz.prog.underlying 77=some (.slice 80):=by kernel_rfl
 obtain⟨i0,hi,hz0,hz1,hz2⟩:=info_parts zob;have hro:Fence.wide.round=none:=rfl;have h1:1<=n:=by omega
 refine callsIn_of_wp_marks Tryz.func45 rfl trivial ?_ hro;simp only[Tryz.ntmps45,Jf,fF,gW,Nat.reduceAdd,Nat.reduceSub,Array.replicate_succ,Array.replicate_zero,List.push_toArray,List.append_toArray,gV,kg];gi_wp2_with (refine⟨trivial,?_⟩;gi_at_call 69;refine(zqf (n-1) _ _ _).mono ?_;rintro e w' ⟨rfl,rfl⟩)
 have bO:=((Boxed.new w 77 (.slice none 0 0)).alloc (.cells #[.pointer p] 65)).alloc (.cells #[.string s] 9);have bP:=(Boxed.new (w.alloc (.cells #[.slice none 0 0] 77)) 65 (.pointer p)).alloc (.cells #[.string s] 9);have bS:=Boxed.new ((w.alloc (.cells #[.slice none 0 0] 77)).alloc (.cells #[.pointer p] 65)) 9 (.string s);simp only[World.size_alloc]at bP bS;have hB0:Below w.heap.size w (((w.alloc (.cells #[.slice none 0 0] 77)).alloc (.cells #[.pointer p] 65)).alloc (.cells #[.string s] 9)):=(((Below.refl _ w).alloc (aX _) _).alloc (by simp) _).alloc (by simp;omega) _;have fu:(((w.alloc (.cells #[.slice none 0 0] 77)).alloc (.cells #[.pointer p] 65)).alloc (.cells #[.string s] 9)).heap.size=w.heap.size+3:=by simp
 obtain⟨W0,hW0⟩:∃W0,((w.alloc (.cells #[.slice none 0 0] 77)).alloc (.cells #[.pointer p] 65)).alloc (.cells #[.string s] 9)=W0:=⟨_,rfl⟩
 rw[hW0]at bO bP bS hB0 fu ⊢;clear hW0;have hseq:SeqStopsK Fence.wide (n-1) Tryz.prog 95 #[.pointer (some ⟨w.heap.size+2,0,none⟩),.pointer (some ⟨w.heap.size+1,0,none⟩)] (fun x:Int×Int=> #[Value.agg #[.int .i64 x.1,.int .i64 x.2]]) (KpA w.heap.size) (fun ys=>ys=xs) (fun pre=>pre <+: xs) xs.length W0:=
  fun l J Jx W hW hJ _ hY h0=>zqg (n-1) l (by omega) w (.pointer p) s jO hfind xs m hxs J Jx W hJ (hB0.trans (hW.mono (by omega))) (by have:=hW.size;omega) ((hW.block _ (by omega)).trans bP) ((hW.block _ (by omega)).trans bS) hY h0
 refine wpIn_rangeFunc_ownH hro h1 (gf:=95) (lb:= #[.pointer (some ⟨w.heap.size+2,0,none⟩),.pointer (some ⟨w.heap.size+1,0,none⟩)]) rfl trivial (enters_of Tryz.func95 (by kernel_rfl) rfl)
  hseq KpA.t (KpA.b (w:=W0) (by omega)) (Below.refl _ _) (fun _=>rfl)
  (fun pre W=>((∃v,Boxed W w.heap.size 77 v∧W.ownsRow w.heap.size 80 2 v pre.length (pre.flatMap Ab)∧(v=.slice none 0 0↔pre=[]))∧(Boxed W (w.heap.size+1) 65 (.pointer p)∧Boxed W (w.heap.size+2) 9 (.string s)))∧Below w.heap.size w W)
  (fun _ _ _=>False)
  (OwnFrom.and (OwnFrom.and (Own.from (holdsRow_own w.heap.size w.heap.size 77 80 2 (fun pre:List (Int×Int)=>pre.length) (fun pre=>pre.flatMap Ab) (fun pre v=>v=.slice none 0 0↔pre=[])) _) (OwnFrom.and (Own.from (boxed_own _ _ _) _) (Own.from (boxed_own _ _ _) _))) (ownFrom_below (aX _) (by omega)))
  (fun _ _ _ _ _ hs _ _=>hs)
  ⟨⟨⟨_,bO,World.ownsRow_nil _ _ _ _,by simp⟩,bP,bS⟩,hB0⟩
  (fun x a' W=> ∃Bx,w.heap.size+2<Bx∧W.heap[Bx]?=some (.cells #[.int .i64 x.1,.int .i64 x.2] 80 (0,0))∧a'={ tmps:= #[.pointer p,.string s,undef,undef,.slice none 0 0,.pointer (some ⟨w.heap.size,0,none⟩),.pointer (some ⟨Bx,0,none⟩),.pointer p,.string s,.func (.func 95) #[] #[.pointer (some ⟨w.heap.size+2,0,none⟩),.pointer (some ⟨w.heap.size+1,0,none⟩)],.agg #[.int .i64 x.1,.int .i64 x.2],undef,undef,undef,undef,undef],defers:=[] })
  (fun x a' _ X Y row hs hg hr=>by obtain⟨Bx,h1,h2,h3⟩:=hs;exact⟨Bx,h1,zmb Bx _ rfl () X Y row h2 hg (fun r e=>(hr r e).2),h3⟩)
  ?assign ?body ?done ?stop
 case assign=>
  rintro l pre x W K ⟨⟨⟨v,hv,bz,rP⟩,bP1,bS1⟩,hB1⟩ hK;gi_wp2
  have hs1:=hB1.size;have hold:∀k,k<W.heap.size->(W.alloc (.cells #[.int .i64 x.1,.int .i64 x.2] 80)).heap[k]?=W.heap[k]? := fun k hk=>Below.heap_alloc W _ k hk;exact hK _ _ ((KeepsOthers.alloc _ _).from _) ⟨(Below.refl _ W).alloc hB1.size _,hold _ bP1.lt,hold _ bS1.lt⟩ ⟨⟨⟨v,hv.alloc _,bz.alloc _,rP⟩,bP1.alloc _,bS1.alloc _⟩,hB1.alloc hB1.size _⟩ ⟨W.heap.size,bS1.lt,World.alloc_heap_new W _,rfl⟩
 case body=>
  rintro l pre x a' W hl ⟨r,hr⟩ ⟨⟨⟨v,hv,bz,rP⟩,bP1,bS1⟩,hB1⟩ ⟨Bx,hBx,bX,rfl⟩ aB;have hc:=hv.cell;have c0:W.cell? ⟨Bx,0,none⟩=some (.int .i64 x.1):=by simp[World.cell?,bX]
  have c1:W.cell? ⟨Bx,1,none⟩=some (.int .i64 x.2):=by simp[World.cell?,bX]
  have hs1:=hB1.size;gi_wp2_with (gi_at_builtin;refine wpListIn_append_own _ rfl _ _ 77 rfl w.heap.size 80 i0 (.agg #[.int .i64 0,.int .i64 0]) 2 16 u41 hi hz0 hz1 hz2 rfl (by decide) _ _ _ rfl (bz.alloc _) ⟨W.heap.size,0,none⟩ 1 1 [.int .i64 x.1,.int .i64 x.2] rfl rfl (zqL _ _ _ _) (by simp[Value.oneCell']) (by have:maxLen=9223372036854775807:=rfl;omega) (by omega) (by simp;omega) ?_;intro v' w1 hown' hgrow _;obtain⟨g',iN,rfl⟩:=ownsRow_succ hown';obtain⟨hv1,hv2,hr2,hk2,jG⟩:=hv.appended (by decide) bz hB1.size (aX _) hown' hgrow;have jV:=hv1.cell;have hf1:=hv1.frozen)
  have kP:=((bP1.alloc _).kept hgrow (bP1.not_row (by decide) bz)).other (B':=w.heap.size) (by omega) (.slice (some ⟨g',0,none⟩) (pre.length+1) iN);have kS:=((bS1.alloc _).kept hgrow (bS1.not_row (by decide) bz)).other (B':=w.heap.size) (by omega) (.slice (some ⟨g',0,none⟩) (pre.length+1) iN);exact⟨hk2.from _,⟨jG,kP.trans bP1.symm,kS.trans bS1.symm⟩,⟨⟨_,hv2,by simpa[Ab]using hr2,by simp⟩,kP,kS⟩,hB1.trans jG⟩
 case done=>
  rintro D ys W hD rfl ⟨⟨⟨v,hv,bz,rP⟩,bP1,bS1⟩,hB1⟩ hK;have hc:=hv.cell;gi_wp2
  refine⟨by simp,.inl ⟨_,_,rfl,run_takeDeferred hK,?_⟩⟩;exact⟨_,results_tmp rfl _ _ _,v,rfl,ownsRow_putObj bz _ hK rfl,rP,hB1.trans (belowK_b (w:=w) (aX _) W D _ _ (by omega) hK rfl rfl)⟩
 case stop=>
  rintro D c pre W _ _ h _;exact h.elim
end Go.Proofs.YtfcgnpphabplbaaGreatDoor
