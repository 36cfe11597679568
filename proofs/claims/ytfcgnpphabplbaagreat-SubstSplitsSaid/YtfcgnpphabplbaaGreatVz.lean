/- The claim SubstSplits: of any two texts the law SubstSplits answers true, and each argument reads afterwards as before. No condition is laid on them. -/
import Derived.Test.YtfcgnpphabplbaaGreatUc
import Derived.Test.YtfcgnpphabplbaaGreatVy
import Derived.Test.YtfcgnpphabplbaaGreatRows
import Derived.HandedShaped
import Derived.Shelf.Vars
set_option linter.unusedVariables false
set_option linter.unusedSimpArgs false

namespace Go.Proofs.YtfcgnpphabplbaaGreat
open Go.ChangeShapes Go.WideShapes Go.ChangeAt Go.RowKit Go.Ak
open Go.ChangeMaps (open_string shut_string)

theorem Tryz.u9 : Tryz.prog.underlying 9 = some .string := by kernel_rfl
theorem Tryz.u4 : Tryz.prog.underlying 4 = some .bool := by kernel_rfl
theorem Tryz.u5 : Tryz.prog.underlying 5 = some (.int .u8) := by kernel_rfl
theorem Tryz.u3 : Tryz.prog.underlying 3 = some (.int .i64) := by kernel_rfl
theorem Tryz.own : ownKnob Tryz.prog.godebug = none := by kernel_rfl
theorem Tryz.mixed : (zal fun _ => none).P.follows .mixedOrders = true := by kernel_rfl

/-- The one block that is kept: the library's variable MaxLen. -/
def keptG (w : World) : Nat → Option Obj := fun b => if b = Tryz.lays219_ren.g 1 then w.heap[b]? else none

theorem keptG_ok {w : World} (h : w.ShapedOpen Tryz.prog) : GlobalOK (keptG w) := by
 obtain ⟨m, hm⟩ := Go.Proofs.cell_of_shapedOpen_int (zero := #[.int .i64 0]) (t := 3) (k := .i64) (g := Tryz.lays219_ren.g 1) h (of_decide_eq_true (by kernel_rfl)) (by kernel_rfl) rfl (by kernel_rfl) (by kernel_rfl) Tryz.underlying3
 simp only [World.cell?] at hm
 split at hm
 ·rename_i c ty fz hb
  exact ⟨m, c, ty, fz, by simp only [keptG, if_true]; exact hb, by simpa using hm⟩
 ·cases hm

theorem keptG_here (w : World) : ∀ b x, keptG w b = some x → w.heap[b]? = some x := fun b x h => by
 simp only [keptG] at h
 split at h
 ·exact h
 ·cases h

theorem substSplits_any (a : ByteArray) (b : ByteArray) (w : World) (hsh : w.ShapedOpen Tryz.prog) : Calls Tryz.prog 4 #[.string a, .string b] w fun e w' => e = .returned (.bool true) ∧ Below w.heap.size w w' := by
 obtain ⟨o, H', hr, ho⟩ := substSplits_all a.data.toList b.data.toList
 subst ho
 obtain ⟨m, hm⟩ := (zf4 SA.mono).1 hr
 exact run_calls_bool (T := zal (keptG w)) (w := w) (keptG_here w) Tryz.mixed (fsOKTryz _) (spB_ok (keptG_ok hsh)) hm (.cons _ _ _ _ (str_V _ a) (.cons _ _ _ _ (str_V _ b) .nil))

set_option maxRecDepth 100000 in
theorem substSplits_lifted (os : Os) (started : os.Started) (H : Type) (enc : TypeId × Value → H) :
  ReturnsInHanded {} Tryz.checked os 4 .any (Rows.substSplitsSpec.pre6 enc Tryz.prog Tryz.f4 Rows.substSplitsRow.domain false) (Rows.substSplitsSpec.post enc Tryz.prog Tryz.f4 false true false false) := by
 refine returnsInHanded_of_change_shaped (C := Tryz.checked) Tryz.own started (by kernel_rfl) Tryz.func4
  (ChangeSpec.witness6 (enc := enc) (C := Tryz.checked) false ⟨#[], #[.string ⟨#[]⟩, .string ⟨#[]⟩], []⟩ 8 (by kernel_rfl) (by kernel_rfl) (by kernel_rfl) (by kernel_rfl)) ?_
 intro W base args ds gs before hval0 hW hcnd _ hsh _
 have hval : ∀ (j : Nat) t v, Tryz.f4.params[j]? = some t → args[j]? = some v → Value.okWide Tryz.prog W .any base t v := hval0
 have hW' := hW
 obtain ⟨p, q, hA0, hV, rfl, hfz, hnd⟩ := hW
 have hA : DataW.TrodAll enc Tryz.prog W 0 (fun _ => true) true Tryz.f4.params.toList args.toList ds p := hA0
 rw [Tryz.params4] at hA hval
 obtain ⟨v0, v1, d0, d1, p0, p1, rfl, rfl, rfl, h0, h1⟩ := trodAll_two hA
 obtain ⟨rfl, rfl⟩ := trodVars_none hV
 obtain ⟨a, rfl, rfl, rfl, w0⟩ := open_string Tryz.u9 (hval 0 9 v0 rfl rfl) h0
 obtain ⟨b, rfl, rfl, rfl, w1⟩ := open_string Tryz.u9 (hval 1 9 v1 rfl rfl) h1
 clear hA0 hval0
 simp only [List.append_nil] at hW'
 refine (substSplits_any a b W hsh).mono fun e W' ⟨he, hw⟩ => ?_
 subst he
 exact ⟨_, rfl, post_of_below (pa := []) (pv := []) hW' (fun _ _ _ => trodAll_mk1 (shut_bool Tryz.u4 true)) (fun sp _ => trodAll_mk2 (shut_string Tryz.u9 w0) (shut_string Tryz.u9 w1)) (fun _ _ => rfl) rfl
  hw (ok_one (by kernel_rfl) rfl (okWide_bool_mk Tryz.u4 true))⟩

theorem substSplits_said : Rows.SubstSplitsSaid :=
 OpenClaim.holds_of_wide 4 Tryz.f4 rfl rfl rfl rfl rfl rfl rfl ⟨rfl, rfl, rfl, rfl, rfl⟩ rfl rfl rfl rfl rfl (by kernel_rfl) Tryz.func4 (by kernel_rfl)
  (of_decide_eq_true (by kernel_rfl)) (by unfold Func.isWrapper; rw [if_neg (by decide +kernel)]; exact ⟨rfl, rfl⟩)
  (fun os started H enc _ => substSplits_lifted os started H enc)

end Go.Proofs.YtfcgnpphabplbaaGreat

