/- The claim SubstAt (its card): of any two texts the law SubstAt answers true, and each argument reads afterwards as before. No condition is laid on them but that the listed library tables hold what the program's text lays, which the card ties. -/
import Derived.Test.YtfcgnpphabplbaaGreatDoorMc
import Derived.Test.YtfcgnpphabplbaaGreatDoorMz
import Derived.Test.YtfcgnpphabplbaaGreatDoorRows
import Derived.HandedShaped
import Derived.LaidMore
import Derived.Lay
import Derived.SevenTiedAt
import Derived.Stop.Joined
import Derived.Test.YtfcgnpphabplbaaGreatDoorCards
import Derived.Test.YtfcgnpphabplbaaGreatDoorTie
import Derived.Shelf.Vars
set_option linter.unusedVariables false
set_option linter.unusedSimpArgs false

namespace Go.Proofs.YtfcgnpphabplbaaGreatDoor
open Go.ChangeShapes Go.WideShapes Go.ChangeAt Go.RowKit Go.Ak
open Go.ChangeMaps (open_string shut_string)

theorem Tryz.u9 : Tryz.prog.underlying 9 = some .string := by kernel_rfl
theorem Tryz.u4 : Tryz.prog.underlying 4 = some .bool := by kernel_rfl
theorem Tryz.u5 : Tryz.prog.underlying 5 = some (.int .u8) := by kernel_rfl
theorem Tryz.u3 : Tryz.prog.underlying 3 = some (.int .i64) := by kernel_rfl
theorem Tryz.own : ownKnob Tryz.prog.godebug = none := by kernel_rfl
theorem Tryz.mixed : (zaj fun _ => none).P.follows .mixedOrders = true := by kernel_rfl

/-- The one block that is kept: the library's variable MaxLen. -/
def zyv (w : World) : Nat → Option Obj := fun b => if b = Tryz.lays219_ren.g 1 then w.heap[b]? else none

theorem zB1 {w : World} (h : w.ShapedOpen Tryz.prog) : zfA (zyv w) := by
 obtain ⟨m, hm⟩ := Go.Proofs.cell_of_shapedOpen_int (zero := #[.int .i64 0]) (t := 3) (k := .i64) (g := Tryz.lays219_ren.g 1) h (of_decide_eq_true (by kernel_rfl)) (by kernel_rfl) rfl (by kernel_rfl) (by kernel_rfl) Tryz.underlying3
 simp only [World.cell?] at hm
 split at hm
 ·rename_i c ty fz hb
  exact ⟨m, c, ty, fz, by simp only [zyv, if_true]; exact hb, by simpa using hm⟩
 ·cases hm

theorem zwI (w : World) : ∀ b x, zyv w b = some x → w.heap[b]? = some x := fun b x h => by
 simp only [zyv] at h
 split at h
 ·exact h
 ·cases h

theorem zsM (a : ByteArray) (b : ByteArray) (w : World) (hsh : w.ShapedOpen Tryz.prog) : Calls Tryz.prog 3 #[.string a, .string b] w fun e w' => e = .returned (.bool true) ∧ Below w.heap.size w w' := by
 obtain ⟨o, H', hr, ho⟩ := zsN a.data.toList b.data.toList
 subst ho
 obtain ⟨m, hm⟩ := (zhh SA.mono).1 hr
 exact zn0 (T := zaj (zyv w)) (w := w) (zwI w) Tryz.mixed (zB4 _) (zIh (zB1 hsh)) hm (.cons _ _ _ _ (zIg _ a) (.cons _ _ _ _ (zIg _ b) .nil))

/-- The contract's wrap, the world's shape and what is laid handed on. -/
theorem zwO {H : Type} {enc : TypeId × Value → H} {a : Assume} {C : Checked} {os : Os} {f : FuncId} {fn : Func} {s : ChangeSpec} {conds : List PathCond} {apart fresh handsOn again : Bool} {X : World → Array Value → Prop}
  (own : ownKnob C.prog.godebug = none) (started : os.Started) (noInit : C.prog.inits.idxOf? f = none) (hfn : C.prog.funcs[f]? = some fn)
  (witness : ∃ (w : World) (tape : Tape) (i : Input), w.os = os ∧ (w.forCall tape i).Shaped C.prog ∧ i.vars = [] ∧ Input.okWide C.prog (w.forCall tape i) .any w.heap.size f i ∧
   ((s.pre enc C.prog fn conds apart (w.forCall tape i).memory i.args ∧ X (w.forCall tape i).memory i.args) ∧ sizedMet enc C.prog fn (OpenSpec.ofChange s) apart (w.forCall tape i).memory i.args) ∧ a.holds C.prog (lone (Frame.enter C.prog f i.args .normal) [] (w.forCall tape i)))
  (contract : ∀ (W : World) (base : Nat) (args : Array Value) (ds gs : List (DataW H)) (before : List MemPlace),
   (∀ (j : Nat) t v, fn.params[j]? = some t → args[j]? = some v → Value.okWide C.prog W .any base t v) →
   DataW.Whole enc C.prog fn.params.toList s.vars apart W args.toList ds gs before → W.ShapedOpen C.prog →
   Calls C.prog f args W fun e W' => ∃ v, e = .returned v ∧ s.post enc C.prog fn apart fresh handsOn again W args v W') :
  ReturnsInHanded a C os f .any (fun w args => (s.pre enc C.prog fn conds apart w args ∧ X w args) ∧ sizedMet enc C.prog fn (OpenSpec.ofChange s) apart w args) (s.post enc C.prog fn apart fresh handsOn again) := by
 refine returnsInHanded_of_calls own started noInit witness ?_
 intro w tape i _ hsh _ hok hpre _
 obtain ⟨_, _, _, fn', hfn', _, _, _, _, hval⟩ := hok
 have e : fn' = fn := Option.some.inj (hfn'.symm.trans hfn)
 subst e
 obtain ⟨⟨⟨ds, gs, before, hw, _⟩, _⟩, _⟩ := hpre
 have hw' := DataW.Whole.of_heap (w' := w.forCall tape i) (by rfl) hw
 refine (contract (w.forCall tape i) w.heap.size i.args ds gs before hval hw' hsh).mono fun e W' ⟨v, he, hp⟩ => ?_
 subst he
 exact ChangeSpec.post_blind hp

set_option maxRecDepth 100000 in
theorem znZ (os : Os) (started : os.Started) (H : Type) (enc : TypeId × Value → H) :
  ReturnsInHanded {} Tryz.checked os 3 .any (fun w args => (Rows.substAtSpec.pre enc Tryz.prog Tryz.f3 Rows.substAtRow.domain false w args ∧ laidMetH Tryz.prog Rows.substAtRow.laid w) ∧ sizedMet enc Tryz.prog Tryz.f3 (OpenSpec.ofChange Rows.substAtSpec) false w args)
   (Rows.substAtSpec.post enc Tryz.prog Tryz.f3 false true false false) := by
 refine zwO (C := Tryz.checked) (X := fun w _ => laidMetH Tryz.prog Rows.substAtRow.laid w) Tryz.own started (by kernel_rfl) Tryz.func3
  (ChangeSpec.witness_shaped (enc := enc) (C := Tryz.checked) (os := os) (X := fun w _ => laidMetH Tryz.prog Rows.substAtRow.laid w) false (World.laidAll Tryz.prog os Rows.substAtRow.laid) #[.string ⟨#[]⟩, .string ⟨#[]⟩] 8 (World.laidAll_os _ _ _)
   (World.shaped_of_ZipB (by kernel_rfl) (by kernel_rfl)) (by kernel_rfl) (by kernel_rfl) (by kernel_rfl)
   (by rw [MakeChecks.laidMetH_plain _ _ _ (by kernel_rfl)]; exact laidMet_laidAll _ (by kernel_rfl) (by kernel_rfl))) ?_
 intro W base args ds gs before hval0 hW hsh
 have hval : ∀ (j : Nat) t v, Tryz.f3.params[j]? = some t → args[j]? = some v → Value.okWide Tryz.prog W .any base t v := hval0
 have hW' := hW
 obtain ⟨p, q, hA0, hV, rfl, hfz, hnd⟩ := hW
 have hA : DataW.TrodAll enc Tryz.prog W 0 (fun _ => true) true Tryz.f3.params.toList args.toList ds p := hA0
 rw [Tryz.params3] at hA hval
 obtain ⟨v0, v1, d0, d1, p0, p1, rfl, rfl, rfl, h0, h1⟩ := trodAll_two hA
 obtain ⟨rfl, rfl⟩ := trodVars_none hV
 obtain ⟨a, rfl, rfl, rfl, w0⟩ := open_string Tryz.u9 (hval 0 9 v0 rfl rfl) h0
 obtain ⟨b, rfl, rfl, rfl, w1⟩ := open_string Tryz.u9 (hval 1 9 v1 rfl rfl) h1
 clear hA0 hval0
 simp only [List.append_nil] at hW'
 refine (zsM a b W hsh).mono fun e W' ⟨he, hw⟩ => ?_
 subst he
 exact ⟨_, rfl, zpy (pa := []) (pv := []) hW' (fun _ _ _ => trodAll_mk1 (shut_bool Tryz.u4 true)) (fun sp _ => trodAll_mk2 (shut_string Tryz.u9 w0) (shut_string Tryz.u9 w1)) (fun _ _ => rfl) rfl
  hw (ok_one (by kernel_rfl) rfl (okWide_bool_mk Tryz.u4 true))⟩

theorem zqL : Rows.SubstAtSaid :=
 OpenClaim.holds_of_wide 3 Tryz.f3 rfl rfl rfl rfl rfl rfl rfl ⟨rfl, rfl, rfl, rfl, rfl⟩ rfl rfl rfl rfl rfl (by kernel_rfl) Tryz.func3 (by kernel_rfl)
  (of_decide_eq_true (by kernel_rfl)) (by unfold Func.isWrapper; rw [if_neg (by decide +kernel)]; exact ⟨rfl, rfl⟩)
  (fun os started H enc _ => znZ os started H enc)

theorem substAt_card : Rows.SubstAtCardSaid :=
 Claim7.holds_tied_plain_at .later [] [.data, .pinned] true (true, "2f3acc57a7185d7fb7fb950f8d5f87ca403d6a98089d349c01e2c7db1fb18800") true zqL (fun _ h => by cases h) (by kernel_rfl) (fun _ h => by cases h) substAt_row_tie rfl ⟨rfl, rfl⟩ (by kernel_rfl) rfl
  (fun f fn hf hfn => by
   obtain rfl : f = 3 := Option.some.inj ((show Tryz.prog.funcNamed "auklet/aukletlaw08.SubstAt" = some 3 by kernel_rfl).symm.trans hf) |>.symm
   obtain rfl : fn = Tryz.f3 := (Option.some.inj (Tryz.func3.symm.trans hfn)).symm
   exact ⟨by kernel_rfl, fun j t ht => by
    rw [Tryz.params3] at ht
    have hm : t ∈ [9, 9] := by simpa using Array.mem_of_getElem? ht
    have hall : ([9, 9].all fun u => !Tryz.prog.wantsStandIn u) = true := by kernel_rfl
    exact (show Tryz.prog.wantsStandIn t = false by simpa using List.all_eq_true.1 hall t hm)⟩)
  (by kernel_rfl)

end Go.Proofs.YtfcgnpphabplbaaGreatDoor

