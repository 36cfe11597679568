/- The claim SubstJoins (its card): of any text and any byte the law SubstJoins answers true, and each argument reads afterwards as before. No condition is laid on them but that the listed library tables hold what the program's text lays, which the card ties. -/
import Derived.Test.YtfcgnpphabplbaaDoorWc
import Derived.Test.YtfcgnpphabplbaaDoorWl
import Derived.Test.YtfcgnpphabplbaaDoorRows
import Derived.HandedShaped
import Derived.LaidMore
import Derived.Lay
import Derived.SevenTiedAt
import Derived.Stop.Joined
import Derived.Test.YtfcgnpphabplbaaDoorCards
import Derived.Test.YtfcgnpphabplbaaDoorTie
import Derived.Shelf.Vars
set_option linter.unusedVariables false
set_option linter.unusedSimpArgs false

namespace Go.Proofs.YtfcgnpphabplbaaDoor
open Go.ChangeShapes Go.WideShapes Go.ChangeAt Go.RowKit Go.Ak
open Go.ChangeMaps (open_string shut_string)

theorem Tryd.u9 : Tryd.prog.underlying 9 = some .string := by kernel_rfl
theorem Tryd.u4 : Tryd.prog.underlying 4 = some .bool := by kernel_rfl
theorem Tryd.u5 : Tryd.prog.underlying 5 = some (.int .u8) := by kernel_rfl
theorem Tryd.u3 : Tryd.prog.underlying 3 = some (.int .i64) := by kernel_rfl
theorem Tryd.own : ownKnob Tryd.prog.godebug = none := by kernel_rfl
theorem Tryd.mixed : (zaa fun _ => none).P.follows .mixedOrders = true := by kernel_rfl

/-- The one block that is kept: the library's variable MaxLen. -/
def keptG (w : World) : Nat → Option Obj := fun b => if b = Tryd.lays219_ren.g 1 then w.heap[b]? else none

theorem keptG_ok {w : World} (h : w.ShapedOpen Tryd.prog) : GlobalOK (keptG w) := by
 obtain ⟨m, hm⟩ := Go.Proofs.cell_of_shapedOpen_int (zero := #[.int .i64 0]) (t := 3) (k := .i64) (g := Tryd.lays219_ren.g 1) h (of_decide_eq_true (by kernel_rfl)) (by kernel_rfl) rfl (by kernel_rfl) (by kernel_rfl) Tryd.underlying3
 simp only [World.cell?] at hm
 split at hm
 ·rename_i c ty fz hb
  exact ⟨m, c, ty, fz, by simp only [keptG, if_true]; exact hb, by simpa using hm⟩
 ·cases hm

theorem keptG_here (w : World) : ∀ b x, keptG w b = some x → w.heap[b]? = some x := fun b x h => by
 simp only [keptG] at h
 split at h
 ·exact h
 ·cases h

theorem substJoins_any (a : ByteArray) (b : UInt8) (w : World) (hsh : w.ShapedOpen Tryd.prog) : Calls Tryd.prog 3 #[.string a, .int .u8 b.toNat] w fun e w' => e = .returned (.bool true) ∧ Below w.heap.size w w' := by
 obtain ⟨o, H', hr, ho⟩ := substJoins_all a.data.toList b
 subst ho
 obtain ⟨m, hm⟩ := (Rn_iff SA.mono).1 hr
 exact run_calls_bool (T := zaa (keptG w)) (w := w) (keptG_here w) Tryd.mixed (fsOKTryd _) (spC_ok (keptG_ok hsh)) hm (.cons _ _ _ _ (str_V _ a) (.cons _ _ _ _ (.int _ _) .nil))

/-- The contract's wrap, the world's shape and what is laid handed on. -/
theorem handed_and {H : Type} {enc : TypeId × Value → H} {a : Assume} {C : Checked} {os : Os} {f : FuncId} {fn : Func} {s : ChangeSpec} {conds : List PathCond} {apart fresh handsOn again : Bool} {X : World → Array Value → Prop}
  (own : ownKnob C.prog.godebug = none) (started : os.Started) (noInit : C.prog.inits.idxOf? f = none) (hfn : C.prog.funcs[f]? = some fn)
  (witness : ∃ (w : World) (tape : Tape) (i : Input), w.os = os ∧ (w.forCall tape i).Shaped C.prog ∧ i.vars = [] ∧ Input.okWide C.prog (w.forCall tape i) .any w.heap.size f i ∧
   ((s.pre enc C.prog fn conds apart (w.forCall tape i).memory i.args ∧ X (w.forCall tape i).memory i.args) ∧ sizedMet enc C.prog fn (OpenSpec.ofChange s) apart (w.forCall tape i).memory i.args) ∧ a.holds C.prog (lone (Frame.enter C.prog f i.args .normal) [] (w.forCall tape i)))
  (contract : ∀ (W : World) (base : Nat) (args : Array Value) (ds gs : List (DataW H)) (before : List MemPlace),
   (∀ (j : Nat) t v, fn.params[j]? = some t → args[j]? = some v → Value.okWide C.prog W .any base t v) →
   DataW.Whole enc C.prog fn.params.toList s.vars apart W args.toList ds gs before → W.ShapedOpen C.prog →
   Calls C.prog f args W fun e W' => ∃ v, e = .returned v ∧ s.post enc C.prog fn apart fresh handsOn again W args v W') :
  ReturnsInHanded a C os f .any (fun w args => (s.pre enc C.prog fn conds apart w args ∧ X w args) ∧ sizedMet enc C.prog fn (OpenSpec.ofChange s) apart w args) (s.post enc C.prog fn apart fresh handsOn again) := by
 refine returnsInHanded_of_calls own started noInit witness ?_
 intro w tape i _ hsh _ hok hpre _
 obtain ⟨_, _, _, fn', hfn', _, _, _, _, hval⟩ := hok
 have e : fn' = fn := Option.some.inj (hfn'.symm.trans hfn)
 subst e
 obtain ⟨⟨⟨ds, gs, before, hw, _⟩, _⟩, _⟩ := hpre
 have hw' := DataW.Whole.of_heap (w' := w.forCall tape i) (by rfl) hw
 refine (contract (w.forCall tape i) w.heap.size i.args ds gs before hval hw' hsh).mono fun e W' ⟨v, he, hp⟩ => ?_
 subst he
 exact ChangeSpec.post_blind hp

set_option maxRecDepth 100000 in
theorem substJoins_lifted (os : Os) (started : os.Started) (H : Type) (enc : TypeId × Value → H) :
  ReturnsInHanded {} Tryd.checked os 3 .any (fun w args => (Rows.substJoinsSpec.pre enc Tryd.prog Tryd.f3 Rows.substJoinsRow.domain false w args ∧ laidMetH Tryd.prog Rows.substJoinsRow.laid w) ∧ sizedMet enc Tryd.prog Tryd.f3 (OpenSpec.ofChange Rows.substJoinsSpec) false w args)
   (Rows.substJoinsSpec.post enc Tryd.prog Tryd.f3 false true false false) := by
 refine handed_and (C := Tryd.checked) (X := fun w _ => laidMetH Tryd.prog Rows.substJoinsRow.laid w) Tryd.own started (by kernel_rfl) Tryd.func3
  (ChangeSpec.witness_shaped (enc := enc) (C := Tryd.checked) (os := os) (X := fun w _ => laidMetH Tryd.prog Rows.substJoinsRow.laid w) false (World.laidAll Tryd.prog os Rows.substJoinsRow.laid) #[.string ⟨#[]⟩, .int .u8 0] 8 (World.laidAll_os _ _ _)
   (World.shaped_of_ZipB (by kernel_rfl) (by kernel_rfl)) (by kernel_rfl) (by kernel_rfl) (by kernel_rfl)
   (by rw [MakeChecks.laidMetH_plain _ _ _ (by kernel_rfl)]; exact laidMet_laidAll _ (by kernel_rfl) (by kernel_rfl))) ?_
 intro W base args ds gs before hval0 hW hsh
 have hval : ∀ (j : Nat) t v, Tryd.f3.params[j]? = some t → args[j]? = some v → Value.okWide Tryd.prog W .any base t v := hval0
 have hW' := hW
 obtain ⟨p, q, hA0, hV, rfl, hfz, hnd⟩ := hW
 have hA : DataW.TrodAll enc Tryd.prog W 0 (fun _ => true) true Tryd.f3.params.toList args.toList ds p := hA0
 rw [Tryd.params3] at hA hval
 obtain ⟨v0, v1, d0, d1, p0, p1, rfl, rfl, rfl, h0, h1⟩ := trodAll_two hA
 obtain ⟨rfl, rfl⟩ := trodVars_none hV
 obtain ⟨a, rfl, rfl, rfl, w0⟩ := open_string Tryd.u9 (hval 0 9 v0 rfl rfl) h0
 obtain ⟨b, rfl, rfl, rfl, w1⟩ := open_int Tryd.u5 (hval 1 5 v1 rfl rfl) h1
 obtain ⟨b, rfl⟩ : ∃ k : UInt8, b = k.toNat := by
  have hr : 0 ≤ b ∧ b < 256 := by
   simp [Lit.wf, IntKind.min, IntKind.max, IntKind.bits, IntKind.signed] at w1
   omega
  exact ⟨UInt8.ofNat b.toNat, by simp; omega⟩
 clear hA0 hval0
 simp only [List.append_nil] at hW'
 refine (substJoins_any a b W hsh).mono fun e W' ⟨he, hw⟩ => ?_
 subst he
 exact ⟨_, rfl, post_of_below (pa := []) (pv := []) hW' (fun _ _ _ => trodAll_mk1 (shut_bool Tryd.u4 true)) (fun sp _ => trodAll_mk2 (shut_string Tryd.u9 w0) (shut_int Tryd.u5 w1)) (fun _ _ => rfl) rfl
  hw (ok_one (by kernel_rfl) rfl (okWide_bool_mk Tryd.u4 true))⟩

theorem substJoins_said : Rows.SubstJoinsSaid :=
 OpenClaim.holds_of_wide 3 Tryd.f3 rfl rfl rfl rfl rfl rfl rfl ⟨rfl, rfl, rfl, rfl, rfl⟩ rfl rfl rfl rfl rfl (by kernel_rfl) Tryd.func3 (by kernel_rfl)
  (of_decide_eq_true (by kernel_rfl)) (by unfold Func.isWrapper; rw [if_neg (by decide +kernel)]; exact ⟨rfl, rfl⟩)
  (fun os started H enc _ => substJoins_lifted os started H enc)

theorem substJoins_card : Rows.SubstJoinsCardSaid :=
 Claim7.holds_tied_plain_at .later [] [.data, .pinned] true (true, "913d558ceb03bba1f153b2625c0c9bfa86080e0427220751f9b9d48f507b5739") true substJoins_said (fun _ h => by cases h) (by kernel_rfl) (fun _ h => by cases h) substJoins_row_tie rfl ⟨rfl, rfl⟩ (by kernel_rfl) rfl
  (fun f fn hf hfn => by
   obtain rfl : f = 3 := Option.some.inj ((show Tryd.prog.funcNamed "auklet/aukletlaw08.SubstJoins" = some 3 by kernel_rfl).symm.trans hf) |>.symm
   obtain rfl : fn = Tryd.f3 := (Option.some.inj (Tryd.func3.symm.trans hfn)).symm
   exact ⟨by kernel_rfl, fun j t ht => by
    rw [Tryd.params3] at ht
    have hm : t ∈ [9, 5] := by simpa using Array.mem_of_getElem? ht
    have hall : ([9, 5].all fun u => !Tryd.prog.wantsStandIn u) = true := by kernel_rfl
    exact (show Tryd.prog.wantsStandIn t = false by simpa using List.all_eq_true.1 hall t hm)⟩)
  (by kernel_rfl)

end Go.Proofs.YtfcgnpphabplbaaDoor

