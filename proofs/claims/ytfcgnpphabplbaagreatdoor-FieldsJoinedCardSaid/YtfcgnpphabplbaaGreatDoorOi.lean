/- What All does, a range over a function: its walk, the calls that find given. -/
import Derived.RangeFuncNested
import Derived.RangeFuncBound
import Derived.RangeFuncCalls
import Derived.RangeFuncLeaves
import Derived.RangeFuncBox
import Derived.Shelf.Abstract
import Derived.Shelf.RegionOpen
import Derived.WalkKit
import Derived.OwnWalkIn
import Derived.TacticsInMore
import Derived.LoopNIn
import Derived.LoopIn
import Derived.Maps.AppendAt
import Derived.Test.YtfcgnpphabplbaaGreatDoorProg
set_option linter.unusedVariables false
set_option linter.unusedSimpArgs false
namespace Go.Ak
def zbu (find:Int→Option (Int×Int×Bool)) (len:Int):Nat→Int→Int→Option (List (Int×Int))
 | 0,_,_=>none
 | n+1,at',last=>bif decide (at'≤len) then match find at' with
   | none=>none
   | some (f,t,b)=>bif b then (bif decide (f=t)&&decide (f=last) then zbu find len n (RowKit.wrap64 (f+1)) last else match zbu find len n t t with
     | none=>none
     | some l=>some ((f,t)::l))
    else some []
  else some []
end Go.Ak
namespace Go.Proofs.YtfcgnpphabplbaaGreatDoor
open Go.Ak (zbu)
open Go.RowKit Go.Shelf
attribute [local go_sem] Oper.semAt_some
def Finds (w:World) (pv:Value) (s:ByteArray) (find:Int→Option (Int×Int×Bool)):Prop :=
 ∀ W,Below w.heap.size w W→ ∀ at' f t b,find at'=some (f,t,b)→Calls Tryz.prog 96 #[pv, .string s, .int .i64 at'] W fun e W' =>
  e= .returned (.tuple #[.int .i64 f, .int .i64 t, .bool b])∧Below W.heap.size W W'
theorem zlI {p:Nat→Prop} (h: ∃ m,p m): ∃ m,p m∧ ∀ k,p k→m≤k:=by
 obtain ⟨m,hm⟩:=h
 induction m using Nat.strongRecOn with
 | ind m ih =>
  by_cases h: ∃ k,k<m∧p k
  ·obtain ⟨k,h1,h2⟩:=h;exact ih k h1 h2
  ·exact ⟨m,hm,fun k hk=>Nat.le_of_not_lt fun h'=>h ⟨k,h',hk⟩⟩
def zEN:Value→Int
 | .int _ n=>n
 | _=>0
open Classical in
noncomputable def zpb (find:Int→Option (Int×Int×Bool)) (len:Int) (last at':Value):Nat :=
 if h: ∃ m,(zbu find len m (zEN at') (zEN last)).isSome=true then Classical.choose (zlI h) else 0
theorem zkp {find:Int→Option (Int×Int×Bool)} {len last at':Int} {m:Nat} {l:List (Int×Int)} (h:zbu find len m at' last=some l) {last' at2:Int}
  (hn: ∀ m,(zbu find len (m+1) at' last).isSome=true→(zbu find len m at2 last').isSome=true):zpb find len (.int .i64 last') (.int .i64 at2)<zpb find len (.int .i64 last) (.int .i64 at'):=by
 have hex: ∃ m,(zbu find len m (zEN (.int .i64 at')) (zEN (.int .i64 last))).isSome=true:=⟨m,by simp [zEN,h]⟩
 unfold zpb
 rw [dif_pos hex]
 obtain ⟨h1,_⟩:=Classical.choose_spec (zlI hex)
 generalize Classical.choose (zlI hex)=k at h1
 cases k with
 | zero=>simp [zbu] at h1
 | succ k =>
  have h2:=hn k h1
  have hex2: ∃ m,(zbu find len m (zEN (.int .i64 at2)) (zEN (.int .i64 last'))).isSome=true:=⟨k,h2⟩
  rw [dif_pos hex2]
  have:=(Classical.choose_spec (zlI hex2)).2 k h2
  omega
def KpA (n:Nat) (W W':World):Prop:=Below n W W'∧W'.heap[n+1]? = W.heap[n+1]? ∧ W'.heap[n+2]? = W.heap[n+2]?
theorem KpA.t {n:Nat} {A B C:World} (h:KpA n A B) (k:KpA n B C):KpA n A C:=⟨h.1.trans k.1,k.2.1.trans h.2.1,k.2.2.trans h.2.2⟩
theorem KpA.b {n:Nat} {w:World} (hn:n+3≤w.heap.size) (W:World) (l:Nat) (o o':Obj) (hl:w.heap.size≤l) (h:W.heap[l]? = some o) (h1:o.isCells=false) (h2:o.isWalk=false):KpA n W (W.putObj l o'):=by
 have hb:=belowK_b (n₀:=n) (w:=w) (by omega) W l o o' hl h h1 h2
 have hb3:=belowK_b (n₀:=n+3) (w:=w) (by omega) W l o o' hl h h1 h2
 exact ⟨hb,hb3.block _ (by omega),hb3.block _ (by omega)⟩
set_option maxRecDepth 100000 in
set_option maxHeartbeats 4000000 in
theorem zBX (n l:Nat) (hn:1≤n) (w:World) (pv:Value) (s:ByteArray) (find:Int→Option (Int×Int×Bool)) (hfind:Finds w pv s find) (xs:List (Int×Int)) (m:Nat) (hxs:zbu find s.size m 0 (-1)=some xs) (J Jx:List (Int×Int)→World→Prop)
  (W:World) (hJ:AbidesFrom W.heap.size J) (hW:Below w.heap.size w W) (hsz:w.heap.size+3≤W.heap.size) (h1:W.heap[w.heap.size+1]? = some (.cells #[pv] 65 (0,0))) (h2:W.heap[w.heap.size+2]? = some (.cells #[.string s] 9 (0,0)))
  (hY: ∀ pre (x:Int×Int) W,J pre W→pre.length<xs.length→YieldAt Fence.wide (n-1) Tryz.prog l #[.agg #[.int .i64 x.1, .int .i64 x.2]] W fun e W' =>
   (e= .returned (.bool true)∧J (pre ++ [x]) W'∧KpA w.heap.size W W')∨(e= .returned (.bool false)∧Jx (pre ++ [x]) W'))
  (h0:J [] W) :
  CallsIn Fence.wide n Tryz.prog 95 #[.func (.yield l) #[] #[], .pointer (some ⟨w.heap.size+2,0,none⟩), .pointer (some ⟨w.heap.size+1,0,none⟩)] W fun e W'=>(∃ v,e= .returned v) ∧
   ((∃ ys,ys=xs∧J ys W')∨(∃ pre,pre <+: xs∧Jx pre W')):=by
 refine callsIn_of_wp Tryz.func95 rfl trivial ?_ rfl
 simp only [Tryz.ntmps95,List.size_toArray,List.length_cons,List.length_nil,Nat.reduceAdd,Nat.reduceSub,Array.replicate_succ,Array.replicate_zero,List.push_toArray,List.append_toArray,List.nil_append,List.cons_append]
 gi_wp2
 gi_loopw [4,5] (fun v4 v5 wr=> ∃ (pre rest:List (Int×Int)) (last at':Int) (k:Nat),v4= .int .i64 last∧v5= .int .i64 at'∧xs=pre++rest∧zbu find s.size k at' last=some rest∧J pre wr∧Below w.heap.size w wr ∧
   wr.heap[w.heap.size+1]? = some (.cells #[pv] 65 (0,0))∧wr.heap[w.heap.size+2]? = some (.cells #[.string s] 9 (0,0))∧W.heap.size≤wr.heap.size)
  (fun v4 v5 _=>zpb find s.size v4 v5)
 case atStart=>exact ⟨[],xs, -1,0,m,rfl,rfl,rfl,hxs,h0,hW,h1,h2,Nat.le_refl _⟩
 case round =>
  obtain ⟨pre,rest,last,at',k,rfl,rfl,hx,hp,hJ1,hB,g1,g2,hg⟩:=hrel
  have c1:wr.cell? ⟨w.heap.size+1,0,none⟩=some pv:=by simp [World.cell?,g1]
  have c2:wr.cell? ⟨w.heap.size+2,0,none⟩=some (.string s):=by simp [World.cell?,g2]
  cases k with
  | zero=>simp [zbu] at hp
  | succ k =>
  by_cases hle:at'≤(s.size:Int)
  ·have hd:decide (at'≤(s.size:Int))=true:=decide_eq_true hle
   have hp0:=hp
   simp only [zbu,hd,cond_true] at hp
   cases hf:find at' with
   | none=>simp [hf] at hp
   | some q =>
    obtain ⟨f,t,b⟩:=q
    simp only [hf] at hp
    have hcall:=hfind wr hB at' f t b hf
    have kept: ∀ {W':World},Below wr.heap.size wr W'→J pre W'∧Below w.heap.size w W'∧W'.heap[w.heap.size+1]? = some (.cells #[pv] 65 (0,0))∧W'.heap[w.heap.size+2]? = some (.cells #[.string s] 9 (0,0))∧W.heap.size≤W'.heap.size:=fun {W'} hb =>
     ⟨hJ pre wr W' none hJ1 ⟨hb.os,hb.tape,hb.output,hb.size,fun k hk _=>hb.block k hk⟩ (fun r e=>by cases e),hB.trans (hb.mono hB.size),(hb.block _ (by omega)).trans g1,(hb.block _ (by omega)).trans g2,Nat.le_trans hg hb.size⟩
    cases b with
    | false =>
     simp only [cond_false,Option.some.injEq] at hp
     subst hp
     gi_wp2_with (refine ⟨trivial,?_⟩;gi_at_call 96;refine (callsIn_wide.2 hcall).mono ?_;rintro e w' ⟨rfl,hb'⟩)
     refine bodyPost_ret (results_none rfl _ _ _) rfl ?_
     exact ⟨⟨_,rfl⟩, .inl ⟨pre,by simp [hx],(kept hb').1⟩⟩
    | true =>
     simp only [cond_true] at hp
     cases hsame:(decide (f=t)&&decide (f=last)) with
     | true =>
      simp only [hsame,cond_true] at hp
      simp only [Bool.and_eq_true,decide_eq_true_eq] at hsame
      obtain ⟨rfl,rfl⟩:=hsame
      have hd1:(f==f)=true:=by simp
      gi_wp2_with (refine ⟨trivial,?_⟩;gi_at_call 96;refine (callsIn_wide.2 hcall).mono ?_;rintro e w' ⟨rfl,hb'⟩)
      go_roundw
      case rel=>obtain ⟨k1,k2,k3,k4,k5⟩:=kept hb';exact ⟨pre,rest,f,_,k,rfl,rfl,hx,hp,k1,k2,k3,k4,k5⟩
      case measure=>exact zkp hp0 fun m hm=>by simpa [zbu,hd,hf] using hm
     | false =>
      simp only [hsame,cond_false] at hp
      cases hrest:zbu find s.size k t t with
      | none=>simp [hrest] at hp
      | some ys =>
       simp only [hrest,Option.some.injEq] at hp
       subst hp
       have lt:=fun (m:Nat) (hm:(zbu find s.size (m+1) at' last).isSome=true)=>(show (zbu find s.size m t t).isSome=true by
        simp only [zbu,hd,cond_true,hf,hsame,cond_false] at hm
        split at hm
        ·simp at hm
        ·rename_i e;rw [e];rfl)
       by_cases e1:f=t
       ·subst e1
        have e2: ¬ f=last:=by simpa using hsame
        gi_wp2_with (refine ⟨trivial,?_⟩;gi_at_call 96;refine (callsIn_wide.2 hcall).mono ?_;rintro e w' ⟨rfl,hb'⟩;obtain ⟨k1,k2,k3,k4,k5⟩:=kept hb';obtain ⟨fn,tmps,assign,body,hy,hR⟩:=hY pre (f,f) w' k1 (by simp [hx]))
        refine hR.mono ?_
        rintro e W3 (⟨rfl,hJ3,hk3⟩ | ⟨rfl,hJx3⟩)
        ·gi_wp2
         go_roundw
         case rel=>exact ⟨pre ++ [(f,f)],ys,f,f,k,rfl,rfl,by simp [hx],hrest,hJ3,k2.trans hk3.1,hk3.2.1.trans k3,hk3.2.2.trans k4,Nat.le_trans k5 hk3.1.size⟩
         case measure=>exact zkp hp0 lt
        ·gi_wp2
         refine bodyPost_ret (results_none rfl _ _ _) rfl ?_
         exact ⟨⟨_,rfl⟩, .inr ⟨pre ++ [(f,f)],⟨ys,by simp [hx]⟩,hJx3⟩⟩
       ·gi_wp2_with (refine ⟨trivial,?_⟩;gi_at_call 96;refine (callsIn_wide.2 hcall).mono ?_;rintro e w' ⟨rfl,hb'⟩;obtain ⟨k1,k2,k3,k4,k5⟩:=kept hb';obtain ⟨fn,tmps,assign,body,hy,hR⟩:=hY pre (f,t) w' k1 (by simp [hx]))
        refine hR.mono ?_
        rintro e W3 (⟨rfl,hJ3,hk3⟩ | ⟨rfl,hJx3⟩)
        ·gi_wp2
         go_roundw
         case rel=>exact ⟨pre ++ [(f,t)],ys,t,t,k,rfl,rfl,by simp [hx],hrest,hJ3,k2.trans hk3.1,hk3.2.1.trans k3,hk3.2.2.trans k4,Nat.le_trans k5 hk3.1.size⟩
         case measure=>exact zkp hp0 lt
        ·gi_wp2
         refine bodyPost_ret (results_none rfl _ _ _) rfl ?_
         exact ⟨⟨_,rfl⟩, .inr ⟨pre ++ [(f,t)],⟨ys,by simp [hx]⟩,hJx3⟩⟩
  ·have hd:decide (at'≤(s.size:Int))=false:=decide_eq_false hle
   simp only [zbu,hd,cond_false,Option.some.injEq] at hp
   subst hp
   have hlt:(s.size:Int)<at':=by omega
   gi_wp2
   go_end0
   exact ⟨⟨_,rfl⟩, .inl hJ1⟩
end Go.Proofs.YtfcgnpphabplbaaGreatDoor
namespace Go.Proofs.YtfcgnpphabplbaaGreatDoor
open Go.RowKit Go.Shelf
open Go.Ak (zbu)
attribute [local go_sem] Oper.semAt_some
set_option maxRecDepth 100000 in
set_option maxHeartbeats 2000000 in
theorem zGf (n:Nat) (p:Option Addr) (s:ByteArray) (w:World) :
  CallsIn Fence.wide n Tryz.prog 69 #[.pointer p, .string s] w fun e w'=>e= .returned (.func (.func 95) #[] #[.pointer (some ⟨w.heap.size+1,0,none⟩), .pointer (some ⟨w.heap.size,0,none⟩)]) ∧
   w'=(w.alloc (.cells #[.pointer p] 65)).alloc (.cells #[.string s] 9):=by
 have hmf: ∀ (fn:Fn) (first cap:Array Value) (w:World),(Instr.makeFunc fn first cap).run Tryz.prog w= .ok (.func fn first cap) w:=fun _ _ _ _=>rfl
 refine callsIn_of_wp Tryz.func69 rfl trivial ?_ rfl
 simp only [Tryz.ntmps69,List.size_toArray,List.length_cons,List.length_nil,Nat.reduceAdd,Nat.reduceSub,Array.replicate_succ,Array.replicate_zero,List.push_toArray,List.append_toArray,List.nil_append,List.cons_append]
 gi_wp2
 go_ret
 exact ⟨rfl,rfl⟩
theorem zxK (B:Nat) (o:Obj) (ho:o.isCells=true) {β:Type}:Own (fun (_:β) W=>W.heap[B]? = some o):=fun s X Y row hs hg hr=>by
 refine (hg.block B (Array.getElem?_eq_some_iff.1 hs).1 (fun e=> ?_)).trans hs
 have h:=hr B e.symm
 obtain ⟨o',h1,h2⟩:=h
 rw [hs] at h1;cases h1;rw [ho] at h2;cases h2
def zny (x:Int×Int):List Value:= [.int .i64 x.1, .int .i64 x.2]
theorem zHW:(Tryz.prog.info? 80).map (fun i=>(i.zero,i.size,i.bytes))=some (some (.agg #[.int .i64 0, .int .i64 0]),2,16):=by kernel_rfl
theorem zpE (w:World) (a b:Value) (t:TypeId): ∀ j u,[a,b][j]? = some u→(w.alloc (.cells #[a,b] t)).cell? ((⟨w.heap.size,0,none⟩:Addr).add j)=some u:=by
 intro j u hj
 match j,hj with
 | 0,hj =>
  simp at hj;subst hj
  have h:=World.alloc_heap_new w (.cells #[a,b] t)
  show (match (w.alloc (.cells #[a,b] t)).heap[w.heap.size]? with | some (.cells c _ _)=>_ | _=>none)=_
  rw [h];rfl
 | 1,hj =>
  simp at hj;subst hj
  have h:=World.alloc_heap_new w (.cells #[a,b] t)
  show (match (w.alloc (.cells #[a,b] t)).heap[w.heap.size]? with | some (.cells c _ _)=>_ | _=>none)=_
  rw [h];rfl
set_option maxRecDepth 100000 in
set_option maxHeartbeats 4000000 in
theorem all_in (n:Nat) (hn:5≤n) (p:Option Addr) (s:ByteArray) (w:World) (find:Int→Option (Int×Int×Bool)) (hfind:Finds w (.pointer p) s find) (xs:List (Int×Int)) (m:Nat) (hxs:zbu find s.size m 0 (-1)=some xs) (hlen:xs.length≤1000000) :
  CallsIn Fence.wide n Tryz.prog 45 #[.pointer p, .string s] w fun e W'=> ∃ v,e= .returned v∧W'.ownsRow w.heap.size 80 2 v xs.length (xs.flatMap zny)∧(v= .slice none 0 0↔xs= [])∧Below w.heap.size w W':=by
 have u41:Tryz.prog.underlying 77=some (.slice 80):=by kernel_rfl
 obtain ⟨i0,hi,hz0,hz1,hz2⟩:=info_parts zHW
 have hro:Fence.wide.round=none:=rfl
 have h1:1≤n:=by omega
 refine callsIn_of_wp_marks Tryz.func45 rfl trivial ?_ hro
 simp only [Tryz.ntmps45,List.size_toArray,List.length_cons,List.length_nil,Nat.reduceAdd,Nat.reduceSub,Array.replicate_succ,Array.replicate_zero,List.push_toArray,List.append_toArray,List.nil_append,List.cons_append]
 gi_wp2_with (refine ⟨trivial,?_⟩;gi_at_call 69;refine (zGf (n-1) _ _ _).mono ?_;rintro e w' ⟨rfl,rfl⟩)
 have bO:=((Boxed.new w 77 (.slice none 0 0)).alloc (.cells #[.pointer p] 65)).alloc (.cells #[.string s] 9)
 have bP:=(Boxed.new (w.alloc (.cells #[.slice none 0 0] 77)) 65 (.pointer p)).alloc (.cells #[.string s] 9)
 have bS:=Boxed.new ((w.alloc (.cells #[.slice none 0 0] 77)).alloc (.cells #[.pointer p] 65)) 9 (.string s)
 simp only [World.size_alloc] at bP bS
 have hB0:Below w.heap.size w (((w.alloc (.cells #[.slice none 0 0] 77)).alloc (.cells #[.pointer p] 65)).alloc (.cells #[.string s] 9)):=(((Below.refl _ w).alloc (Nat.le_refl _) _).alloc (by simp) _).alloc (by simp;omega) _
 have hsz:(((w.alloc (.cells #[.slice none 0 0] 77)).alloc (.cells #[.pointer p] 65)).alloc (.cells #[.string s] 9)).heap.size=w.heap.size+3:=by simp
 obtain ⟨W0,hW0⟩: ∃ W0,((w.alloc (.cells #[.slice none 0 0] 77)).alloc (.cells #[.pointer p] 65)).alloc (.cells #[.string s] 9)=W0:=⟨_,rfl⟩
 rw [hW0] at bO bP bS hB0 hsz ⊢
 clear hW0
 have hseq:SeqStopsK Fence.wide (n-1) Tryz.prog 95 #[.pointer (some ⟨w.heap.size+2,0,none⟩), .pointer (some ⟨w.heap.size+1,0,none⟩)] (fun x:Int×Int=> #[Value.agg #[.int .i64 x.1, .int .i64 x.2]]) (KpA w.heap.size) (fun ys=>ys=xs) (fun pre=>pre <+: xs) xs.length W0 :=
  fun l J Jx W hW hJ _ hY h0=>zBX (n-1) l (by omega) w (.pointer p) s find hfind xs m hxs J Jx W hJ (hB0.trans (hW.mono (by omega))) (by have:=hW.size;omega) ((hW.block _ (by omega)).trans bP) ((hW.block _ (by omega)).trans bS) hY h0
 refine wpIn_rangeFunc_ownH hro h1 (gf:=95) (lb:= #[.pointer (some ⟨w.heap.size+2,0,none⟩), .pointer (some ⟨w.heap.size+1,0,none⟩)]) rfl trivial (enters_of Tryz.func95 (by kernel_rfl) rfl)
  hseq KpA.t (KpA.b (w:=W0) (by omega)) (Below.refl _ _) (fun _=>rfl)
  (fun pre W=>((∃ v,Boxed W w.heap.size 77 v∧W.ownsRow w.heap.size 80 2 v pre.length (pre.flatMap zny)∧(v= .slice none 0 0↔pre= []))∧(Boxed W (w.heap.size+1) 65 (.pointer p)∧Boxed W (w.heap.size+2) 9 (.string s)))∧Below w.heap.size w W)
  (fun _ _ _=>False)
  (OwnFrom.and (OwnFrom.and (Own.from (holdsRow_own w.heap.size w.heap.size 77 80 2 (fun pre:List (Int×Int)=>pre.length) (fun pre=>pre.flatMap zny) (fun pre v=>v= .slice none 0 0↔pre= [])) _) (OwnFrom.and (Own.from (boxed_own _ _ _) _) (Own.from (boxed_own _ _ _) _))) (ownFrom_below (Nat.le_refl _) (by omega)))
  (fun _ _ _ _ _ hs _ _=>hs)
  ⟨⟨⟨_,bO,World.ownsRow_nil _ _ _ _,by simp⟩,bP,bS⟩,hB0⟩
  (fun x a' W=> ∃ Bx,w.heap.size+2<Bx∧W.heap[Bx]? = some (.cells #[.int .i64 x.1, .int .i64 x.2] 80 (0,0))∧a'= { tmps:= #[.pointer p, .string s,undef,undef, .slice none 0 0, .pointer (some ⟨w.heap.size,0,none⟩), .pointer (some ⟨Bx,0,none⟩), .pointer p, .string s, .func (.func 95) #[] #[.pointer (some ⟨w.heap.size+2,0,none⟩), .pointer (some ⟨w.heap.size+1,0,none⟩)], .agg #[.int .i64 x.1, .int .i64 x.2],undef,undef,undef,undef,undef],defers:= [] })
  (fun x a' _ X Y row hs hg hr=>by obtain ⟨Bx,h1,h2,h3⟩:=hs;exact ⟨Bx,h1,zxK Bx _ rfl () X Y row h2 hg (fun r e=>(hr r e).2),h3⟩)
  ?assign ?body ?done ?stop
 case assign =>
  rintro l pre x W K ⟨⟨⟨v,hv,hrow,hnil⟩,bP1,bS1⟩,hB1⟩ hK
  gi_wp2
  have hs1:=hB1.size
  have hold: ∀ k,k<W.heap.size→(W.alloc (.cells #[.int .i64 x.1, .int .i64 x.2] 80)).heap[k]? = W.heap[k]? := fun k hk=>Below.heap_alloc W _ k hk
  exact hK _ _ ((KeepsOthers.alloc _ _).from _) ⟨(Below.refl _ W).alloc hB1.size _,hold _ bP1.lt,hold _ bS1.lt⟩ ⟨⟨⟨v,hv.alloc _,hrow.alloc _,hnil⟩,bP1.alloc _,bS1.alloc _⟩,hB1.alloc hB1.size _⟩ ⟨W.heap.size,bS1.lt,World.alloc_heap_new W _,rfl⟩
 case body =>
  rintro l pre x a' W hl ⟨r,hr⟩ ⟨⟨⟨v,hv,hrow,hnil⟩,bP1,bS1⟩,hB1⟩ ⟨Bx,hBx,bX,rfl⟩ hlt
  have hc:=hv.cell
  have c0:W.cell? ⟨Bx,0,none⟩=some (.int .i64 x.1):=by simp [World.cell?,bX]
  have c1:W.cell? ⟨Bx,1,none⟩=some (.int .i64 x.2):=by simp [World.cell?,bX]
  have hs1:=hB1.size
  gi_wp2_with (gi_at_builtin;refine wpListIn_append_own _ rfl _ _ 77 rfl w.heap.size 80 i0 (.agg #[.int .i64 0, .int .i64 0]) 2 16 u41 hi hz0 hz1 hz2 rfl (by decide) _ _ _ rfl (hrow.alloc _) ⟨W.heap.size,0,none⟩ 1 1 [.int .i64 x.1, .int .i64 x.2] rfl rfl (zpE _ _ _ _) (by simp [Value.oneCell']) (by have:maxLen=9223372036854775807:=rfl;omega) (by omega) (by simp;omega) ?_;intro v' w1 hown' hgrow _;obtain ⟨g',cap',rfl⟩:=ownsRow_succ hown';obtain ⟨hv1,hv2,hr2,hk2,hb2⟩:=hv.appended (by decide) hrow hB1.size (Nat.le_refl _) hown' hgrow;have hc1:=hv1.cell;have hf1:=hv1.frozen)
  have kP:=((bP1.alloc _).kept hgrow (bP1.not_row (by decide) hrow)).other (B':=w.heap.size) (by omega) (.slice (some ⟨g',0,none⟩) (pre.length+1) cap')
  have kS:=((bS1.alloc _).kept hgrow (bS1.not_row (by decide) hrow)).other (B':=w.heap.size) (by omega) (.slice (some ⟨g',0,none⟩) (pre.length+1) cap')
  exact ⟨hk2.from _,⟨hb2,kP.trans bP1.symm,kS.trans bS1.symm⟩,⟨⟨_,hv2,by simpa [zny] using hr2,by simp⟩,kP,kS⟩,hB1.trans hb2⟩
 case done =>
  rintro D ys W hD rfl ⟨⟨⟨v,hv,hrow,hnil⟩,bP1,bS1⟩,hB1⟩ hK
  have hc:=hv.cell
  gi_wp2
  refine ⟨by simp, .inl ⟨_,_,rfl,run_takeDeferred hK,?_⟩⟩
  exact ⟨_,results_tmp rfl _ _ _,v,rfl,ownsRow_putObj hrow _ hK rfl,hnil,hB1.trans (belowK_b (w:=w) (Nat.le_refl _) W D _ _ (by omega) hK rfl rfl)⟩
 case stop =>
  rintro D c pre W _ _ h _
  exact h.elim
end Go.Proofs.YtfcgnpphabplbaaGreatDoor
