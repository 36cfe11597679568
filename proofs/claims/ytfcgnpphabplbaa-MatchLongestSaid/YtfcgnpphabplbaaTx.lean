/- The claim MatchLongest: of any two texts and any number the law MatchLongest answers true, and each argument reads afterwards as before. No condition is laid on them. -/
import Derived.Test.YtfcgnpphabplbaaTc
import Derived.Test.YtfcgnpphabplbaaTw
import Derived.Test.YtfcgnpphabplbaaRows
import Derived.HandedShaped
import Derived.Shelf.Vars
set_option linter.unusedVariables false
set_option linter.unusedSimpArgs false

namespace Go.Proofs.Ytfcgnpphabplbaa
open Go.ChangeShapes Go.WideShapes Go.ChangeAt Go.RowKit Go.Ak
open Go.ChangeMaps (open_string shut_string)

theorem Try.u9 : Try.prog.underlying 9 = some .string := by kernel_rfl
theorem Try.u4 : Try.prog.underlying 4 = some .bool := by kernel_rfl
theorem Try.u5 : Try.prog.underlying 5 = some (.int .u8) := by kernel_rfl
theorem Try.u3 : Try.prog.underlying 3 = some (.int .i64) := by kernel_rfl
theorem Try.own : ownKnob Try.prog.godebug = none := by kernel_rfl
theorem Try.mixed : (zar fun _ => none).P.follows .mixedOrders = true := by kernel_rfl

/-- The one block that is kept: the library's variable MaxLen. -/
def keptG (w : World) : Nat → Option Obj := fun b => if b = Try.lays219_ren.g 1 then w.heap[b]? else none

theorem keptG_ok {w : World} (h : w.ShapedOpen Try.prog) : GlobalOK (keptG w) := by
 obtain ⟨m, hm⟩ := Go.Proofs.cell_of_shapedOpen_int (zero := #[.int .i64 0]) (t := 3) (k := .i64) (g := Try.lays219_ren.g 1) h (of_decide_eq_true (by kernel_rfl)) (by kernel_rfl) rfl (by kernel_rfl) (by kernel_rfl) Try.underlying3
 simp only [World.cell?] at hm
 split at hm
 ·rename_i c ty fz hb
  exact ⟨m, c, ty, fz, by simp only [keptG, if_true]; exact hb, by simpa using hm⟩
 ·cases hm

theorem keptG_here (w : World) : ∀ b x, keptG w b = some x → w.heap[b]? = some x := fun b x h => by
 simp only [keptG] at h
 split at h
 ·exact h
 ·cases h

theorem matchLongest_any (a : ByteArray) (b : ByteArray) (c : Int) (hc0 : -9223372036854775808 ≤ c) (hc1 : c ≤ 9223372036854775807) (w : World) (hsh : w.ShapedOpen Try.prog) : Calls Try.prog 5 #[.string a, .string b, .int .i64 c] w fun e w' => e = .returned (.bool true) ∧ Below w.heap.size w w' := by
 obtain ⟨o, H', hr, ho⟩ := matchLongest_run a.data.toList b.data.toList c hc0 hc1
 subst ho
 obtain ⟨m, hm⟩ := (Rn_iff SA.mono).1 hr
 exact run_calls_bool (T := zar (keptG w)) (w := w) (keptG_here w) Try.mixed (fsOKTry _) (spB_ok (keptG_ok hsh)) hm (.cons _ _ _ _ (str_V _ a) (.cons _ _ _ _ (str_V _ b) (.cons _ _ _ _ (.int _ _) .nil)))

set_option maxRecDepth 100000 in
theorem matchLongest_lifted (os : Os) (started : os.Started) (H : Type) (enc : TypeId × Value → H) :
  ReturnsInHanded {} Try.checked os 5 .any (Rows.matchLongestSpec.pre6 enc Try.prog Try.f5 Rows.matchLongestRow.domain false) (Rows.matchLongestSpec.post enc Try.prog Try.f5 false true false false) := by
 refine returnsInHanded_of_change_shaped (C := Try.checked) Try.own started (by kernel_rfl) Try.func5
  (ChangeSpec.witness6 (enc := enc) (C := Try.checked) false ⟨#[], #[.string ⟨#[]⟩, .string ⟨#[]⟩, .int .i64 0], []⟩ 8 (by kernel_rfl) (by kernel_rfl) (by kernel_rfl) (by kernel_rfl)) ?_
 intro W base args ds gs before hval0 hW hcnd _ hsh _
 have hval : ∀ (j : Nat) t v, Try.f5.params[j]? = some t → args[j]? = some v → Value.okWide Try.prog W .any base t v := hval0
 have hW' := hW
 obtain ⟨p, q, hA0, hV, rfl, hfz, hnd⟩ := hW
 have hA : DataW.TrodAll enc Try.prog W 0 (fun _ => true) true Try.f5.params.toList args.toList ds p := hA0
 rw [Try.params5] at hA hval
 obtain ⟨v0, v1, v2, d0, d1, d2, p0, p1, p2, rfl, rfl, rfl, h0, h1, h2⟩ := trodAll_three hA
 obtain ⟨rfl, rfl⟩ := trodVars_none hV
 obtain ⟨a, rfl, rfl, rfl, w0⟩ := open_string Try.u9 (hval 0 9 v0 rfl rfl) h0
 obtain ⟨b, rfl, rfl, rfl, w1⟩ := open_string Try.u9 (hval 1 9 v1 rfl rfl) h1
 obtain ⟨c, rfl, rfl, rfl, w2⟩ := open_int Try.u3 (hval 2 3 v2 rfl rfl) h2
 have r2 : -9223372036854775808 ≤ c ∧ c ≤ 9223372036854775807 := by
  simp [Lit.wf, IntKind.min, IntKind.max, IntKind.bits, IntKind.signed] at w2
  omega
 clear hA0 hval0
 simp only [List.append_nil] at hW'
 refine (matchLongest_any a b c r2.1 r2.2 W hsh).mono fun e W' ⟨he, hw⟩ => ?_
 subst he
 exact ⟨_, rfl, post_of_below (pa := []) (pv := []) hW' (fun _ _ _ => trodAll_mk1 (shut_bool Try.u4 true)) (fun sp _ => trodAll_mk3 (shut_string Try.u9 w0) (shut_string Try.u9 w1) (shut_int Try.u3 w2)) (fun _ _ => rfl) rfl
  hw (ok_one (by kernel_rfl) rfl (okWide_bool_mk Try.u4 true))⟩

theorem matchLongest_said : Rows.MatchLongestSaid :=
 OpenClaim.holds_of_wide 5 Try.f5 rfl rfl rfl rfl rfl rfl rfl ⟨rfl, rfl, rfl, rfl, rfl⟩ rfl rfl rfl rfl rfl (by kernel_rfl) Try.func5 (by kernel_rfl)
  (of_decide_eq_true (by kernel_rfl)) (by unfold Func.isWrapper; rw [if_neg (by decide +kernel)]; exact ⟨rfl, rfl⟩)
  (fun os started H enc _ => matchLongest_lifted os started H enc)

end Go.Proofs.Ytfcgnpphabplbaa

