/- What Parse does, which recovers: told by a function of its own. -/
import Derived.Tactics
import Derived.Tactics2
import Derived.Defers
import Derived.Recover
import Derived.WalkKit
import Derived.Laws.Pointers
import Derived.ProofKit
import Derived.Shelf.RegionOpenPlain
import Derived.Test.YtfcgnpphabplbaaGreatDoorProg
import Derived.BigCall
import Derived.BigGuard
import Derived.Laws.Strings3
import Derived.Test.YtfcgnpphabplbaaGreatDoorOg
import Derived.Test.YtfcgnpphabplbaaGreatDoorOe
import Derived.Test.YtfcgnpphabplbaaGreatDoorOc
set_option linter.unusedVariables false
set_option linter.unusedSimpArgs false
namespace Go.Proofs.YtfcgnpphabplbaaGreatDoor
open Go.RowKit
set_option maxHeartbeats 4000000 in
set_option maxRecDepth 100000 in
theorem zwI (p q r:Addr) (w:World) :
  CallsD Tryz.prog 80 #[.pointer (some p), .pointer (some q), .pointer (some r)] .returning w fun e u' w'=>e= .returned (.tuple #[])∧u'= .returning∧w'=w:=by
 refine callsD_of_wpS Tryz.func80 rfl fun c₀ cs hu=> ?_
 apply wpS_seq
 apply wpS_region
 simp [wpOpsS,go_sem,recoverD,hu,Tryz.ntmps80,Exit.thenS]
 apply wpS_seq
 apply wpS_region
 simp [wpOpsS,go_sem,Exit.thenS]
 refine wpS_cond (t:=false) (by simp [Act.eval,Array.replicate]) ?_
 simp only [Bool.false_eq_true,if_false]
 refine wpS_of_wp (wp_skip ?_)
 cases c₀
 simp_all [bodyPostS,results,Tryz.results80]
def zih (w:World) (b2 b3 b4:Nat) (at' why:Int):World :=
 (((((((((((w.setCell ⟨b2,0,none⟩ (.int .i64 0)).setCell ⟨b2,1,none⟩ (.int .u64 0)).setCell ⟨b2,2,none⟩ (.int .u64 0)).setCell ⟨b2,3,none⟩ (.int .u64 0)).setCell ⟨b2,4,none⟩ (.int .u64 0)).setCell ⟨b2,5,none⟩ (.int .i64 0)).setCell ⟨b2,6,none⟩ (.int .i64 0)).setCell ⟨b2,7,none⟩ (.slice none 0 0)).setCell
  ⟨b3,0,none⟩ (.int .i64 at')).setCell ⟨b4,0,none⟩ (.int .i64 why)).alloc (.cells #[.int .i64 at', .int .i64 why] 119)).drew
set_option maxHeartbeats 4000000 in
set_option maxRecDepth 100000 in
theorem zmx (b2 b3 b4:Nat) (z0 z1 z2 z3 z4 z5 z6 z7 x3 x4:Value) (at' why:Int) (older:List PanicEntry) (w:World) (n23:b2≠b3) (n24:b2≠b4) (n34:b3≠b4) (l2:b2<w.heap.size) (l3:b3<w.heap.size) (l4:b4<w.heap.size)
  (h2:w.heap[b2]? = some (.cells #[z0,z1,z2,z3,z4,z5,z6,z7] 61 (0,0))) (h3:w.heap[b3]? = some (.cells #[x3] 3 (0,0))) (h4:w.heap[b4]? = some (.cells #[x4] 25 (0,0))) :
  CallsD Tryz.prog 80 #[.pointer (some ⟨b2,0,none⟩), .pointer (some ⟨b3,0,none⟩), .pointer (some ⟨b4,0,none⟩)] (.panicking ({ v:= .iface 119 (.agg #[.int .i64 at', .int .i64 why]),recovered:=false }::older)) w fun e u' w' =>
   e= .returned (.tuple #[])∧u'= .panicking ({ v:= .iface 119 (.agg #[.int .i64 at', .int .i64 why]),recovered:=true }::older)∧w'=zih w b2 b3 b4 at' why:=by
 refine callsD_of_wpS Tryz.func80 rfl fun c₀ cs hu=> ?_
 apply wpS_seq
 apply wpS_region
 simp [wpOpsS,go_sem,recoverD,hu,Tryz.ntmps80,Exit.thenS]
 apply wpS_seq
 apply wpS_region
 simp [wpOpsS,go_sem,Exit.thenS]
 refine wpS_cond (t:=true) (by simp [Act.eval,Array.replicate]) ?_
 simp only [if_true]
 have mixed:Tryz.prog.follows .mixedOrders=true:=by kernel_rfl
 have hk:(match Tryz.prog.underlying 119 with | some (.struct _)=>true | _=>false)=true:=by kernel_rfl
 obtain ⟨fs,hfs⟩: ∃ fs,Tryz.prog.underlying 119=some (.struct fs):=by
  generalize Tryz.prog.underlying 119=x at hk
  split at hk
  ·exact ⟨_,rfl⟩
  ·cases hk
 have hta: ∀ (v:Value) (w:World),(Instr.typeAssert (.iface 119 v) 20 119 true).run Tryz.prog w= .ok (.tuple #[v, .bool true]) w:=fun v w=>by
  simp [Instr.typeAssert,run_underlying hfs,go_sem]
 apply wpS_seq
 apply wpS_region
 simp [wpOpsS,go_sem,hta,Exit.thenS]
 apply wpS_seq
 apply wpS_seq
 apply wpS_region
 simp [wpOpsS,go_sem,Exit.thenS]
 refine wpS_cond (t:=false) (by simp [Act.eval,Array.replicate]) ?_
 simp only [Bool.false_eq_true,if_false]
 refine wpS_of_wp (wp_skip ?_)
 simp only [Exit.thenS]
 refine wpS_of_wp ?_
 have e0:w.cell? ⟨b2,0,none⟩=some z0:=by simp [World.cell?,h2]
 have f0:w.frozen? ⟨b2,0,none⟩=false:=by simp [World.frozen?,h2]
 have e1:w.cell? ⟨b2,1,none⟩=some z1:=by simp [World.cell?,h2]
 have f1:w.frozen? ⟨b2,1,none⟩=false:=by simp [World.frozen?,h2]
 have e2:w.cell? ⟨b2,2,none⟩=some z2:=by simp [World.cell?,h2]
 have f2:w.frozen? ⟨b2,2,none⟩=false:=by simp [World.frozen?,h2]
 have e3:w.cell? ⟨b2,3,none⟩=some z3:=by simp [World.cell?,h2]
 have f3:w.frozen? ⟨b2,3,none⟩=false:=by simp [World.frozen?,h2]
 have e4:w.cell? ⟨b2,4,none⟩=some z4:=by simp [World.cell?,h2]
 have f4:w.frozen? ⟨b2,4,none⟩=false:=by simp [World.frozen?,h2]
 have e5:w.cell? ⟨b2,5,none⟩=some z5:=by simp [World.cell?,h2]
 have f5:w.frozen? ⟨b2,5,none⟩=false:=by simp [World.frozen?,h2]
 have e6:w.cell? ⟨b2,6,none⟩=some z6:=by simp [World.cell?,h2]
 have f6:w.frozen? ⟨b2,6,none⟩=false:=by simp [World.frozen?,h2]
 have e7:w.cell? ⟨b2,7,none⟩=some z7:=by simp [World.cell?,h2]
 have f7:w.frozen? ⟨b2,7,none⟩=false:=by simp [World.frozen?,h2]
 have e30:w.cell? ⟨b3,0,none⟩=some x3:=by simp [World.cell?,h3]
 have f30:w.frozen? ⟨b3,0,none⟩=false:=by simp [World.frozen?,h3]
 have e40:w.cell? ⟨b4,0,none⟩=some x4:=by simp [World.cell?,h4]
 have f40:w.frozen? ⟨b4,0,none⟩=false:=by simp [World.frozen?,h4]
 go_region_o
 all_goals simp [bodyPostS,results,Tryz.results80,zih]
end Go.Proofs.YtfcgnpphabplbaaGreatDoor
namespace Go.Proofs.YtfcgnpphabplbaaGreatDoor
open Go.RowKit
def zHD:Array Value:= #[.int .i64 0, .int .u64 0, .int .u64 0, .int .u64 0, .int .u64 0, .int .i64 0, .int .i64 0, .slice none 0 0]
def zgx (w:World) (s:ByteArray):World :=
 (((w.alloc (.cells #[.int .i64 0, .int .u64 0, .int .u64 0, .int .u64 0, .int .u64 0, .int .i64 0, .int .i64 0, .slice none 0 0] 61)).alloc (.cells #[.int .i64 0] 3)).alloc (.cells #[.int .i64 0] 25)).alloc (.cells #[.string s, .int .i64 0] 123)
def Laid (w w':World):Prop:=w'.heap[w.heap.size]? = some (.cells #[.int .i64 0, .int .u64 0, .int .u64 0, .int .u64 0, .int .u64 0, .int .i64 0, .int .i64 0, .slice none 0 0] 61 (0,0)) ∧
 w'.heap[w.heap.size+1]? = some (.cells #[.int .i64 0] 3 (0,0))∧w'.heap[w.heap.size+1+1]? = some (.cells #[.int .i64 0] 25 (0,0))
def parsed (w:World) (n:Nat) (c0 c1 c2 c3 c4 c5 c6 c7:Value):World :=
 (((((((((w.setCell ⟨n,0,none⟩ c0).setCell ⟨n,1,none⟩ c1).setCell ⟨n,2,none⟩ c2).setCell ⟨n,3,none⟩ c3).setCell ⟨n,4,none⟩ c4).setCell ⟨n,5,none⟩ c5).setCell ⟨n,6,none⟩ c6).setCell ⟨n,7,none⟩ c7).setCell ⟨n+1,0,none⟩ (.int .i64 0)).setCell ⟨n+1+1,0,none⟩ (.int .i64 0)
theorem zDD {w:World} {b:Nat} {z0 z1 z2 z3 z4 z5 z6 z7:Value} {t:TypeId} (h:w.heap[b]? = some (.cells #[z0,z1,z2,z3,z4,z5,z6,z7] t (0,0))) :
  w.cell? ⟨b,0,none⟩=some z0∧w.cell? ⟨b,1,none⟩=some z1∧w.cell? ⟨b,2,none⟩=some z2∧w.cell? ⟨b,3,none⟩=some z3∧w.cell? ⟨b,4,none⟩=some z4∧w.cell? ⟨b,5,none⟩=some z5∧w.cell? ⟨b,6,none⟩=some z6∧w.cell? ⟨b,7,none⟩=some z7 ∧
  w.frozen? ⟨b,0,none⟩=false∧w.frozen? ⟨b,1,none⟩=false∧w.frozen? ⟨b,2,none⟩=false∧w.frozen? ⟨b,3,none⟩=false∧w.frozen? ⟨b,4,none⟩=false∧w.frozen? ⟨b,5,none⟩=false∧w.frozen? ⟨b,6,none⟩=false∧w.frozen? ⟨b,7,none⟩=false:=by
 simp [World.cell?,World.frozen?,h]
theorem zu9 {w:World} {b:Nat} {z:Value} {t:TypeId} (h:w.heap[b]? = some (.cells #[z] t (0,0))):w.cell? ⟨b,0,none⟩=some z∧w.frozen? ⟨b,0,none⟩=false:=by
 simp [World.cell?,World.frozen?,h]
theorem heap_setCell_same {w:World} {b k:Nat} {a:Array Value} {t:TypeId} {fz:Nat×Nat} (v:Value) (h:w.heap[b]? = some (.cells a t fz)):(w.setCell ⟨b,k,none⟩ v).heap[b]? = some (.cells (a.setIfInBounds k v) t fz):=by
 simp only [World.setCell,Array.getElem?_modify,h]
 simp
theorem zaT {w:World} {b k:Nat} {a:Array Value} (a':Array Value) {t:TypeId} {fz:Nat×Nat} (v:Value) (h:w.heap[b]? = some (.cells a t fz)) (he:a.setIfInBounds k v=a'):(w.setCell ⟨b,k,none⟩ v).heap[b]? = some (.cells a' t fz):=he▸heap_setCell_same v h
theorem zar {w:World} {b c k:Nat} (v:Value) (h:b≠c):(w.setCell ⟨b,k,none⟩ v).heap[c]? = w.heap[c]? := by
 simp only [World.setCell,Array.getElem?_modify]
 rw [if_neg h]
theorem heap_alloc_old {w:World} {o:Obj} {b:Nat} {x:Obj} (h:w.heap[b]? = some x):(w.alloc o).drew.heap[b]? = some x:=by
 have hl:b<w.heap.size:=(Array.getElem?_eq_some_iff.1 h).1
 show (w.heap.push o)[b]? = some x
 rw [Array.getElem?_push,if_neg (by omega),h]
theorem ztA {w:World} {b2 b3 b4:Nat} {z0 z1 z2 z3 z4 z5 z6 z7 x3 x4:Value} (at' why:Int) (n23:b2≠b3) (n24:b2≠b4) (n34:b3≠b4) (h2:w.heap[b2]? = some (.cells #[z0,z1,z2,z3,z4,z5,z6,z7] 61 (0,0))) (h3:w.heap[b3]? = some (.cells #[x3] 3 (0,0))) (h4:w.heap[b4]? = some (.cells #[x4] 25 (0,0))) :
  (zih w b2 b3 b4 at' why).heap[b2]? = some (.cells #[.int .i64 0, .int .u64 0, .int .u64 0, .int .u64 0, .int .u64 0, .int .i64 0, .int .i64 0, .slice none 0 0] 61 (0,0))∧(zih w b2 b3 b4 at' why).heap[b3]? = some (.cells #[.int .i64 at'] 3 (0,0))∧(zih w b2 b3 b4 at' why).heap[b4]? = some (.cells #[.int .i64 why] 25 (0,0)):=by
 unfold zih
 have s0:=zaT (k:=0) #[.int .i64 0,z1,z2,z3,z4,z5,z6,z7] (.int .i64 0) h2 rfl
 have s1:=zaT (k:=1) #[.int .i64 0, .int .u64 0,z2,z3,z4,z5,z6,z7] (.int .u64 0) s0 rfl
 have s2:=zaT (k:=2) #[.int .i64 0, .int .u64 0, .int .u64 0,z3,z4,z5,z6,z7] (.int .u64 0) s1 rfl
 have s3:=zaT (k:=3) #[.int .i64 0, .int .u64 0, .int .u64 0, .int .u64 0,z4,z5,z6,z7] (.int .u64 0) s2 rfl
 have s4:=zaT (k:=4) #[.int .i64 0, .int .u64 0, .int .u64 0, .int .u64 0, .int .u64 0,z5,z6,z7] (.int .u64 0) s3 rfl
 have s5:=zaT (k:=5) #[.int .i64 0, .int .u64 0, .int .u64 0, .int .u64 0, .int .u64 0, .int .i64 0,z6,z7] (.int .i64 0) s4 rfl
 have s6:=zaT (k:=6) #[.int .i64 0, .int .u64 0, .int .u64 0, .int .u64 0, .int .u64 0, .int .i64 0, .int .i64 0,z7] (.int .i64 0) s5 rfl
 have s7:=zaT (k:=7) #[.int .i64 0, .int .u64 0, .int .u64 0, .int .u64 0, .int .u64 0, .int .i64 0, .int .i64 0, .slice none 0 0] (.slice none 0 0) s6 rfl
 have t0:=(zar (w:=w) (k:=0) (.int .i64 0) n23).trans h3
 have r0:=(zar (w:=w) (k:=0) (.int .i64 0) n24).trans h4
 have t1:=(zar (w:=(w.setCell ⟨b2,0,none⟩ (.int .i64 0))) (k:=1) (.int .u64 0) n23).trans t0
 have r1:=(zar (w:=(w.setCell ⟨b2,0,none⟩ (.int .i64 0))) (k:=1) (.int .u64 0) n24).trans r0
 have t2:=(zar (w:=((w.setCell ⟨b2,0,none⟩ (.int .i64 0)).setCell ⟨b2,1,none⟩ (.int .u64 0))) (k:=2) (.int .u64 0) n23).trans t1
 have r2:=(zar (w:=((w.setCell ⟨b2,0,none⟩ (.int .i64 0)).setCell ⟨b2,1,none⟩ (.int .u64 0))) (k:=2) (.int .u64 0) n24).trans r1
 have t3:=(zar (w:=(((w.setCell ⟨b2,0,none⟩ (.int .i64 0)).setCell ⟨b2,1,none⟩ (.int .u64 0)).setCell ⟨b2,2,none⟩ (.int .u64 0))) (k:=3) (.int .u64 0) n23).trans t2
 have r3:=(zar (w:=(((w.setCell ⟨b2,0,none⟩ (.int .i64 0)).setCell ⟨b2,1,none⟩ (.int .u64 0)).setCell ⟨b2,2,none⟩ (.int .u64 0))) (k:=3) (.int .u64 0) n24).trans r2
 have t4:=(zar (w:=((((w.setCell ⟨b2,0,none⟩ (.int .i64 0)).setCell ⟨b2,1,none⟩ (.int .u64 0)).setCell ⟨b2,2,none⟩ (.int .u64 0)).setCell ⟨b2,3,none⟩ (.int .u64 0))) (k:=4) (.int .u64 0) n23).trans t3
 have r4:=(zar (w:=((((w.setCell ⟨b2,0,none⟩ (.int .i64 0)).setCell ⟨b2,1,none⟩ (.int .u64 0)).setCell ⟨b2,2,none⟩ (.int .u64 0)).setCell ⟨b2,3,none⟩ (.int .u64 0))) (k:=4) (.int .u64 0) n24).trans r3
 have t5:=(zar (w:=(((((w.setCell ⟨b2,0,none⟩ (.int .i64 0)).setCell ⟨b2,1,none⟩ (.int .u64 0)).setCell ⟨b2,2,none⟩ (.int .u64 0)).setCell ⟨b2,3,none⟩ (.int .u64 0)).setCell ⟨b2,4,none⟩ (.int .u64 0))) (k:=5) (.int .i64 0) n23).trans t4
 have r5:=(zar (w:=(((((w.setCell ⟨b2,0,none⟩ (.int .i64 0)).setCell ⟨b2,1,none⟩ (.int .u64 0)).setCell ⟨b2,2,none⟩ (.int .u64 0)).setCell ⟨b2,3,none⟩ (.int .u64 0)).setCell ⟨b2,4,none⟩ (.int .u64 0))) (k:=5) (.int .i64 0) n24).trans r4
 have t6:=(zar (w:=((((((w.setCell ⟨b2,0,none⟩ (.int .i64 0)).setCell ⟨b2,1,none⟩ (.int .u64 0)).setCell ⟨b2,2,none⟩ (.int .u64 0)).setCell ⟨b2,3,none⟩ (.int .u64 0)).setCell ⟨b2,4,none⟩ (.int .u64 0)).setCell ⟨b2,5,none⟩ (.int .i64 0))) (k:=6) (.int .i64 0) n23).trans t5
 have r6:=(zar (w:=((((((w.setCell ⟨b2,0,none⟩ (.int .i64 0)).setCell ⟨b2,1,none⟩ (.int .u64 0)).setCell ⟨b2,2,none⟩ (.int .u64 0)).setCell ⟨b2,3,none⟩ (.int .u64 0)).setCell ⟨b2,4,none⟩ (.int .u64 0)).setCell ⟨b2,5,none⟩ (.int .i64 0))) (k:=6) (.int .i64 0) n24).trans r5
 have t7:=(zar (w:=(((((((w.setCell ⟨b2,0,none⟩ (.int .i64 0)).setCell ⟨b2,1,none⟩ (.int .u64 0)).setCell ⟨b2,2,none⟩ (.int .u64 0)).setCell ⟨b2,3,none⟩ (.int .u64 0)).setCell ⟨b2,4,none⟩ (.int .u64 0)).setCell ⟨b2,5,none⟩ (.int .i64 0)).setCell ⟨b2,6,none⟩ (.int .i64 0))) (k:=7) (.slice none 0 0) n23).trans t6
 have r7:=(zar (w:=(((((((w.setCell ⟨b2,0,none⟩ (.int .i64 0)).setCell ⟨b2,1,none⟩ (.int .u64 0)).setCell ⟨b2,2,none⟩ (.int .u64 0)).setCell ⟨b2,3,none⟩ (.int .u64 0)).setCell ⟨b2,4,none⟩ (.int .u64 0)).setCell ⟨b2,5,none⟩ (.int .i64 0)).setCell ⟨b2,6,none⟩ (.int .i64 0))) (k:=7) (.slice none 0 0) n24).trans r6
 have s8:=(zar (k:=0) (.int .i64 at') (Ne.symm n23)).trans s7
 have t8:=zaT (k:=0) #[.int .i64 at'] (.int .i64 at') t7 rfl
 have r8:=(zar (k:=0) (.int .i64 at') n34).trans r7
 have s9:=(zar (k:=0) (.int .i64 why) (Ne.symm n24)).trans s8
 have t9:=(zar (k:=0) (.int .i64 why) (Ne.symm n34)).trans t8
 have r9:=zaT (k:=0) #[.int .i64 why] (.int .i64 why) r8 rfl
 exact ⟨heap_alloc_old s9,heap_alloc_old t9,heap_alloc_old r9⟩
set_option maxHeartbeats 4000000 in
set_option maxRecDepth 100000 in
theorem zv9 (s:ByteArray) (w:World) (hs:s.size≤400) (R:Ending→World→Prop)
  (hcall:Calls Tryz.prog 81 #[.pointer (some ⟨w.heap.size+1+1+1,0,none⟩), .int .i64 0] (zgx w s) fun e w'=>Laid w w'∧match e with
   | .returned v=> ∃ c0 c1 c2 c3 c4 c5 c6 c7,v= .agg #[c0,c1,c2,c3,c4,c5,c6,c7]∧(∀ c ∈ [c0,c1,c2,c3,c4,c5,c6,c7],c.oneCell'=true)∧R (.returned (.tuple #[.agg #[c0,c1,c2,c3,c4,c5,c6,c7], .int .i64 0, .int .i64 0])) (parsed w' w.heap.size c0 c1 c2 c3 c4 c5 c6 c7)
   | .panicked ch=> ∃ at' why,ch= [{ v:= .iface 119 (.agg #[.int .i64 at', .int .i64 why]),recovered:=false }]∧R (.returned (.tuple #[.agg zHD, .int .i64 at', .int .i64 why])) (zih w' w.heap.size (w.heap.size+1) (w.heap.size+1+1) at' why)
   | .outgrown=>False):Calls Tryz.prog 58 #[.string s] w R:=by
 have hmf: ∀ (fn:Fn) (first cap:Array Value) (w:World),(Instr.makeFunc fn first cap).run Tryz.prog w= .ok (.func fn first cap) w:=fun _ _ _ _=>rfl
 have mixed:Tryz.prog.follows .mixedOrders=true:=by kernel_rfl
 have e68: ∀ args w,(callFunc 81 args).run Tryz.prog w= .ok (.enter 81 args) w:=enters_of Tryz.func81 (by kernel_rfl) rfl
 go_enter_defers Tryz.func58,Tryz.ntmps58
 go_wp2_with (go_at_fn 81;fail)
 refine hcall.mono ?_
 rintro e w' ⟨⟨g2,g3,g4⟩,hk⟩
 obtain ⟨d0,d1,d2,d3,d4,d5,d6,d7,y0,y1,y2,y3,y4,y5,y6,y7⟩:=zDD g2
 obtain ⟨d30,y30⟩:=zu9 g3
 obtain ⟨d40,y40⟩:=zu9 g4
 cases e with
 | returned v =>
  obtain ⟨c0,c1,c2,c3,c4,c5,c6,c7,rfl,hone,hR⟩:=hk
  simp only [List.mem_cons,List.not_mem_nil,or_false,forall_eq_or_imp,forall_eq] at hone
  obtain ⟨q0,q1,q2,q3,q4,q5,q6,q7⟩:=hone
  have hs1: ∀ (W:World) (b k:Nat) (z c:Value),c.oneCell'=true→W.cell? ⟨b,k,none⟩=some z→W.frozen? ⟨b,k,none⟩=false→(store ⟨b,k,none⟩ c).run Tryz.prog W= .ok () (W.setCell ⟨b,k,none⟩ c):=fun W b k z c h1 h2 h3=>by
   rw [run_store Tryz.prog W _ c _ h1]
   simp [h2,h3]
  go_wp2
  refine leaves_cons (f:=80) (args:= #[.pointer (some ⟨w.heap.size,0,none⟩), .pointer (some ⟨w.heap.size+1,0,none⟩), .pointer (some ⟨w.heap.size+1+1,0,none⟩)]) (by simp) (by simp [go_sem]) ?_
  refine (zwI _ _ _ _).mono ?_
  rintro e u' w'' ⟨rfl,rfl,rfl⟩
  simp [Leaves,settle,results,Tryz.results58,go_sem,d0,d1,d2,d3,d4,d5,d6,d7,d30,d40]
  exact hR
 | panicked ch =>
  obtain ⟨at',why,rfl,hR⟩:=hk
  go_wp2
  have hl:w.heap.size+1+1<w'.heap.size:=(Array.getElem?_eq_some_iff.1 g4).1
  refine leaves_cons (f:=80) (args:= #[.pointer (some ⟨w.heap.size,0,none⟩), .pointer (some ⟨w.heap.size+1,0,none⟩), .pointer (some ⟨w.heap.size+1+1,0,none⟩)]) (by simp) (by simp [go_sem]) ?_
  refine (zmx w.heap.size (w.heap.size+1) (w.heap.size+1+1) _ _ _ _ _ _ _ _ _ _ at' why [] w' (by omega) (by omega) (by omega) (by omega) (by omega) hl g2 g3 g4).mono ?_
  rintro e u' w'' ⟨rfl,rfl,rfl⟩
  obtain ⟨i2,i3,i4⟩:=ztA at' why (by omega) (by omega) (by omega) g2 g3 g4
  generalize zih w' w.heap.size (w.heap.size+1) (w.heap.size+1+1) at' why=W2 at i2 i3 i4 hR
  obtain ⟨k0,k1,k2,k3,k4,k5,k6,k7,_,_,_,_,_,_,_,_⟩:=zDD i2
  obtain ⟨k30,_⟩:=zu9 i3
  obtain ⟨k40,_⟩:=zu9 i4
  simp [Leaves,settle,results,Tryz.results58,go_sem,k0,k1,k2,k3,k4,k5,k6,k7,k30,k40]
  exact hR
 | outgrown=>exact hk.elim
end Go.Proofs.YtfcgnpphabplbaaGreatDoor
namespace Go.Proofs.YtfcgnpphabplbaaGreatDoor
open Go.RowKit
def zFi (w:World):World:=((w.alloc (.cells #[.int .i64 0, .int .u64 0, .int .u64 0, .int .u64 0, .int .u64 0, .int .i64 0, .int .i64 0, .slice none 0 0] 61)).alloc (.cells #[.int .i64 0] 3)).alloc (.cells #[.int .i64 2] 25)
set_option maxHeartbeats 4000000 in
set_option maxRecDepth 100000 in
theorem zwa (s:ByteArray) (w:World) (hs:400<s.size) (R:Ending→World→Prop) (hR:R (.returned (.tuple #[.agg #[.int .i64 0, .int .u64 0, .int .u64 0, .int .u64 0, .int .u64 0, .int .i64 0, .int .i64 0, .slice none 0 0], .int .i64 0, .int .i64 2])) (zFi w)) :
  Calls Tryz.prog 58 #[.string s] w R:=by
 have mixed:Tryz.prog.follows .mixedOrders=true:=by kernel_rfl
 have hmf: ∀ (fn:Fn) (first cap:Array Value) (w:World),(Instr.makeFunc fn first cap).run Tryz.prog w= .ok (.func fn first cap) w:=fun _ _ _ _=>rfl
 go_enter_defers Tryz.func58,Tryz.ntmps58
 go_wp2
 simp [bodyPostD,Leaves,results,Tryz.results58,go_sem]
 exact hR
end Go.Proofs.YtfcgnpphabplbaaGreatDoor
namespace Go.Ak
def zut:AV:= .agg [.int .i64 0, .int .u64 0, .int .u64 0, .int .u64 0, .int .u64 0, .int .i64 0, .int .i64 0, .nils]
def zfl (runs:Nat→CallF) (xs:List AV) (H:Heap):Option (Out×Heap) :=
 match xs with
 | [.str s]=>bif Nat.ble s.length 400 then
   match runs 0 86 [.ptr 0 0, .int .i64 0] [some [.str s, .int .i64 0]] with
   | some (.ret v,H')=>match frz 0 H' v with
    | some (.agg [a0,a1,a2,a3,a4,a5,a6,a7])=>some (.ret (.tup [.agg [a0,a1,a2,a3,a4,a5,a6,a7], .int .i64 0, .int .i64 0]),H)
    | _=>none
   | some (.pan (.ifc 1 (.agg [.int .i64 a, .int .i64 b])),_)=>some (.ret (.tup [zut, .int .i64 a, .int .i64 b]),H)
   | _=>none
  else some (.ret (.tup [zut, .int .i64 0, .int .i64 2]),H)
 | _=>none
theorem zkT {c d:Nat→CallF} (h: ∀ b,CallF.le (c b) (d b)) (xs:List AV) (H:Heap) (r:Out×Heap) (e:zfl c xs H=some r):zfl d xs H=some r:=by
 unfold zfl at e ⊢
 split at e
 ·rename_i s
  cases hl:Nat.ble s.length 400 with
  | false=>simpa [hl] using e
  | true =>
   simp only [hl,cond_true] at e ⊢
   cases hr:c 0 86 [.ptr 0 0, .int .i64 0] [some [.str s, .int .i64 0]] with
   | none=>rw [hr] at e;cases e
   | some q=>rw [h 0 _ _ _ _ hr];rw [hr] at e;exact e
 ·cases e
end Go.Ak
namespace Go.Proofs.YtfcgnpphabplbaaGreatDoor
open Go.Ak
theorem zbv (w:World) (o:Obj):(w.alloc o).heap.size=w.heap.size+1:=by
 show (w.heap.push o).size=_
 simp
theorem alloc_at (w:World) (o:Obj) (b:Nat):(w.alloc o).heap[b]? = if b=w.heap.size then some o else w.heap[b]? := by
 show (w.heap.push o)[b]? = _
 rw [Array.getElem?_push]
theorem zc1 {n:Nat} {w W:World} (h:Grown n w W) (o:Obj):Grown n w (W.alloc o) where
 block b hb:=by
  have:=h.le
  rw [alloc_at,if_neg (by omega)]
  exact h.block b hb
 size:=h.size
 le:=by have:=h.le;rw [zbv];omega
 os:=h.os
 out:=h.out
theorem zoc (w:World):Grown w.heap.size w w:=⟨fun _ _=>rfl,rfl,Nat.le_refl _,rfl,rfl⟩
theorem zqU (w:World) (s:ByteArray):Grown w.heap.size w (zgx w s):=zc1 (zc1 (zc1 (zc1 (zoc w) _) _) _) _
theorem zsX (w:World) (s:ByteArray):(zgx w s).heap.size=w.heap.size+3+1:=by
 unfold zgx
 rw [zbv,zbv,zbv,zbv]
theorem zpf (w:World) (s:ByteArray):(zgx w s).heap[w.heap.size+3]? = some (.cells #[.string s, .int .i64 0] 123 (0,0)):=by
 unfold zgx
 rw [alloc_at,if_pos (by simp only [zbv])]
theorem zsY (w:World) (s:ByteArray):Laid w (zgx w s):=by
 unfold zgx Laid
 simp only [alloc_at,zbv]
 have e1: ¬ w.heap.size=w.heap.size+1+1+1:=by omega
 have e2: ¬ w.heap.size=w.heap.size+1+1:=by omega
 have e3: ¬ w.heap.size=w.heap.size+1:=by omega
 have e4: ¬ w.heap.size+1=w.heap.size+1+1+1:=by omega
 have e5: ¬ w.heap.size+1=w.heap.size+1+1:=by omega
 have e6: ¬ w.heap.size+1+1=w.heap.size+1+1+1:=by omega
 refine ⟨?_,?_,?_⟩<;>simp [e1,e2,e3,e4,e5,e6]
theorem zs1 (w:World) (n:Nat) (c0 c1 c2 c3 c4 c5 c6 c7:Value):Near n (n+3) w (parsed w n c0 c1 c2 c3 c4 c5 c6 c7):=by
 unfold parsed
 refine .trans (.trans (.trans (.trans (.trans (.trans (.trans (.trans (.trans (.setCell _ _ ?_ ?_) (.setCell _ _ ?_ ?_)) (.setCell _ _ ?_ ?_)) (.setCell _ _ ?_ ?_)) (.setCell _ _ ?_ ?_)) (.setCell _ _ ?_ ?_)) (.setCell _ _ ?_ ?_)) (.setCell _ _ ?_ ?_)) (.setCell _ _ ?_ ?_)) (.setCell _ _ ?_ ?_)<;>omega
theorem zs2 (w:World) (n:Nat) (at' why:Int):Near n (n+3) w (zih w n (n+1) (n+1+1) at' why):=by
 unfold zih
 refine .trans (.trans (.trans (.trans (.trans (.trans (.trans (.trans (.trans (.trans (.setCell _ _ ?_ ?_) (.setCell _ _ ?_ ?_)) (.setCell _ _ ?_ ?_)) (.setCell _ _ ?_ ?_)) (.setCell _ _ ?_ ?_)) (.setCell _ _ ?_ ?_)) (.setCell _ _ ?_ ?_)) (.setCell _ _ ?_ ?_)) (.setCell _ _ ?_ ?_)) (.setCell _ _ ?_ ?_)) (.alloc _ _ _ _)<;>omega
section
variable {G:Nat→Option Obj} {bar:Nat} {xs:List AV} {H H':Heap} {out:Out}
theorem zDg {T:Tr} {g:Gh} {w:World} {a b:Int}:SV T g w .res (.tup [zut, .int .i64 a, .int .i64 b]) (.tuple #[.agg zHD, .int .i64 a, .int .i64 b]):=by
 refine SV.of_V (.tup _ [_,_,_] (.cons _ _ _ _ (.agg _ [_,_,_,_,_,_,_,_] (.cons _ _ _ _ (.int _ _) (.cons _ _ _ _ (.int _ _) (.cons _ _ _ _ (.int _ _) (.cons _ _ _ _ (.int _ _) (.cons _ _ _ _ (.int _ _) (.cons _ _ _ _ (.int _ _) (.cons _ _ _ _ (.int _ _) (.cons _ _ _ _ .nils .nil)))))))) ?_) (.cons _ _ _ _ (.int _ _) (.cons _ _ _ _ (.int _ _) .nil))))
 simp [Value.oneCell']
theorem zq5 {n:Nat} {g g':Gh} {w w':World} {s:ByteArray} (he:Ext 0 (g.alone (w.heap.size+3)) (zgx w s) g' w'):Laid w w':=by
 obtain ⟨h1,h2,h3⟩:=zsY w s
 refine ⟨?_,?_,?_⟩
 ·rw [(he.kept _ (zfH (by omega))).2.2];exact h1
 ·rw [(he.kept _ (zfH (by omega))).2.2];exact h2
 ·rw [(he.kept _ (zfH (by omega))).2.2];exact h3
theorem zvO {runs:Nat→CallF} (hr:zdu (zah G) 0 (runs 0)) (he:zfl runs xs H=some (out,H')) {g:Gh} {w:World} {us:List Value} (hh:HeapR (zah G) g w H) (ha:ArgsV (zah G) g w 0 xs us) :
  Calls Tryz.prog 58 us.toArray w (za4 (zah G) bar g w out H'):=by
 unfold zfl at he
 split at he
 ·rename_i s
  obtain ⟨u,rfl,hu⟩:=zku ha
  have:=V.str_inv (show V (zah G) g w (.str s) u from hu)
  subst this
  cases hl:Nat.ble s.length 400 with
  | true =>
   simp only [hl,cond_true] at he
   have hsz:=Nat.le_of_ble_eq_true hl
   refine zv9 ⟨s.toArray⟩ w (by simpa [ByteArray.size] using hsz) _ ?_
   have hW:=zqU w ⟨s.toArray⟩
   have hs:=zsX w ⟨s.toArray⟩
   have hrd:=zpf w ⟨s.toArray⟩
   have hblk:blk (zgx w ⟨s.toArray⟩) (w.heap.size+3) #[.string ⟨s.toArray⟩, .int .i64 0]:=by
    refine ⟨⟨_,_,hrd⟩,fun k _=> ?_,?_⟩
    ·simp [World.frozen?,hrd]
    ·simp [Value.oneCell']
   have hA:HeapR (zah G) (g.alone (w.heap.size+3)) (zgx w ⟨s.toArray⟩) [some [.str s, .int .i64 0]] :=
    zwM hh hW (by omega) hs hblk (.cons _ _ _ _ (.str s) (.cons _ _ _ _ (.int _ _) .nil))
   have hargs:ArgsV (zah G) (g.alone (w.heap.size+3)) (zgx w ⟨s.toArray⟩) 0 [.ptr 0 0, .int .i64 0] [.pointer (some ⟨w.heap.size+3,0,none⟩), .int .i64 0] :=
    .cons _ _ _ _ _ (SV.of_V (.ptr 0 0 _ (by simp [Gh.alone]))) (.cons _ _ _ _ _ (SV.of_V (.int _ _)) (.nil _))
   split at he
   ·rename_i v H1 hrun
    split at he
    ·rename_i a0 a1 a2 a3 a4 a5 a6 a7 hfr
     simp only [Option.some.injEq,Prod.mk.injEq] at he
     obtain ⟨rfl,rfl⟩:=he
     refine ((hr _ _ _ _ _ hrun).2 _ _ _ hA hargs).mono fun e w' hq=> ?_
     cases e with
     | returned v' =>
      obtain ⟨g',a,ea,e1,e2,e3⟩:=hq
      simp only [Out.ret.injEq] at ea
      subst ea
      refine ⟨zq5 (n:=0) e1,?_⟩
      have hv:=zyq (T:=zah G) e2 e3 hfr
      obtain ⟨cs,hcs,hone,rfl⟩:=V.agg_inv (show V _ _ _ (.agg [a0,a1,a2,a3,a4,a5,a6,a7]) v' from hv)
      have hlen:=hcs.length
      match cs,hlen,hone,hcs with
      | [c0,c1,c2,c3,c4,c5,c6,c7],_,hone,hcs =>
       refine ⟨c0,c1,c2,c3,c4,c5,c6,c7,rfl,hone,?_⟩
       have hF:=zs1 w' w.heap.size c0 c1 c2 c3 c4 c5 c6 c7
       refine ⟨g.home g' w' w.heap.size (w.heap.size+3),_,rfl,zpm hh hW (by omega) hs e1 hF,zq6 hh hW (by omega) hs e1 e2 hF,SV.of_V ?_⟩
       have hvs:=Vs.mono (zHZ hh hW (by omega) hs e1 e2 hF) (hcs.reown _)
       exact .tup _ [_,_,_] (.cons _ _ _ _ (.agg _ _ hvs hone) (.cons _ _ _ _ (.int _ _) (.cons _ _ _ _ (.int _ _) .nil)))
     | panicked ch =>
      obtain ⟨_,_,_,_,h1,_⟩:=hq
      cases h1
     | outgrown=>exact hq.elim
    ·cases he
   ·rename_i a b H1 hrun
    simp only [Option.some.injEq,Prod.mk.injEq] at he
    obtain ⟨rfl,rfl⟩:=he
    refine ((hr _ _ _ _ _ hrun).2 _ _ _ hA hargs).mono fun e w' hq=> ?_
    cases e with
    | returned v' =>
     obtain ⟨_,_,h1,_⟩:=hq
     cases h1
    | panicked ch =>
     obtain ⟨g',p,v,rfl,ea,e1,e2,e3⟩:=hq
     simp only [Out.pan.injEq] at ea
     subst ea
     refine ⟨zq5 (n:=0) e1,?_⟩
     obtain ⟨u,hu2,rfl⟩:=V.ifc_inv e3
     obtain ⟨cs,hcs,hone,rfl⟩:=V.agg_inv hu2
     have hlen:=hcs.length
     match cs,hlen,hcs with
     | [c0,c1],_,hcs =>
      cases hcs with
      | cons _ _ _ _ k1 k2 =>
       cases k2 with
       | cons _ _ _ _ k3 k4 =>
        have:=V.int_inv k1
        subst this
        have:=V.int_inv k3
        subst this
        refine ⟨a,b,rfl,?_⟩
        have hF:=zs2 w' w.heap.size a b
        exact ⟨g.home g' w' w.heap.size (w.heap.size+3),_,rfl,zpm hh hW (by omega) hs e1 hF,zq6 hh hW (by omega) hs e1 e2 hF,zDg⟩
    | outgrown=>exact hq.elim
   ·cases he
  | false =>
   simp only [hl,cond_false,Option.some.injEq,Prod.mk.injEq] at he
   obtain ⟨rfl,rfl⟩:=he
   have hsz:400<s.length:=by
    rcases Nat.lt_or_ge 400 s.length with h | h
    ·exact h
    ·rw [Nat.ble_eq_true_of_le h] at hl;cases hl
   refine zwa ⟨s.toArray⟩ w (by simpa [ByteArray.size] using hsz) _ ?_
   have hW:Grown w.heap.size w (zFi w):=zc1 (zc1 (zc1 (zoc w) _) _) _
   have he:Ext bar g w g (zFi w):= {
    size:=hW.le
    S:=fun _=>Nat.le_refl _
    cell:=fun b o ho=>by
     have hb:b<w.heap.size:=by
      rcases Nat.lt_or_ge b w.heap.size with h | h
      ·exact h
      ·rw [(hh.fresh b h).2] at ho;omega
     simp only [World.cell?,hW.block b hb]
    ob:=fun _ _ h=>h
    shape:=fun b x hx=>by
     have hb:b<w.heap.size:=by
      rcases Nat.lt_or_ge b w.heap.size with h | h
      ·exact h
      ·simp [World.shape?,Array.getElem?_eq_none h] at hx
     simp only [World.shape?,hW.block b hb] at hx ⊢
     exact hx
    kept:=fun b hb=>by
     have hlt:b<w.heap.size:=by
      rcases Nat.lt_or_ge b w.heap.size with h | h
      ·exact h
      ·rw [(hh.fresh b h).1] at hb;cases hb
     exact ⟨hb,rfl,hW.block b hlt⟩
    low:=fun id b _ _ hb=>by
     have hlt:b<w.heap.size:=by
      rcases Nat.lt_or_ge b w.heap.size with h | h
      ·exact h
      ·rw [(hh.fresh b h).1] at hb;cases hb
     exact ⟨hb,rfl,hW.block b hlt⟩
    os:=rfl
    out:=rfl }
   refine ⟨g,_,rfl,he,?_,zDg⟩
   exact hh.frame he (fun b id hb=>⟨hb,rfl,hW.block b (zcS hh (by rw [hb];simp))⟩) rfl (fun b hb=>hh.fresh b (Nat.le_trans hW.le hb))
 ·cases he
end
end Go.Proofs.YtfcgnpphabplbaaGreatDoor
