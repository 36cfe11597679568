/- The claim NfaTexts: of any three texts the law NfaTexts answers true, and each argument reads afterwards as before. No condition is laid on them. -/
import Derived.Test.YtfcgnpphabplbaaKc
import Derived.Test.YtfcgnpphabplbaaKh
import Derived.Test.YtfcgnpphabplbaaRows
import Derived.Test.YtfcgnpphabplbaaKg
set_option linter.unusedVariables false
set_option linter.unusedSimpArgs false

namespace Go.Proofs.Ytfcgnpphabplbaa
open Go.ChangeShapes Go.WideShapes Go.ChangeAt Go.RowKit Go.Ak
open Go.ChangeMaps (open_string shut_string)

theorem Try.own : ownKnob Try.prog.godebug = none := by kernel_rfl
theorem Try.laidOut : laidOutB Try.prog = true := by kernel_rfl
theorem Try.mixed : trTry.P.follows .mixedOrders = true := by kernel_rfl

theorem nfaTexts_any (hrun : ∀ a b c : List UInt8, ∃ n H', run fsT sp0 n 0 1 [.str a, .str b, .str c] [] = some (.ret (.bool true), H')) (a b c : ByteArray) (w : World) :
    Calls Try.prog 3 #[.string a, .string b, .string c] w fun e w' => e = .returned (.bool true) ∧ Below w.heap.size w w' := by
  obtain ⟨n, H', h⟩ := hrun a.data.toList b.data.toList c.data.toList
  exact run_calls_bool (T := trTry) (w := w) Try.mixed fsOKTry sp0_ok h (.cons _ _ _ _ (str_V _ a) (.cons _ _ _ _ (str_V _ b) (.cons _ _ _ _ (str_V _ c) .nil)))

set_option maxRecDepth 100000 in
theorem nfaTexts_lifted (hrun : ∀ a b c : List UInt8, ∃ n H', run fsT sp0 n 0 1 [.str a, .str b, .str c] [] = some (.ret (.bool true), H')) (os : Os) (started : os.Started) (H : Type) (enc : TypeId × Value → H) :
    ReturnsInHanded {} Try.checked os 3 .any (Rows.nfaTextsSpec.pre6 enc Try.prog Try.f3 Rows.nfaTextsRow.domain false) (Rows.nfaTextsSpec.post enc Try.prog Try.f3 false true false false) := by
  refine returnsInHanded_of_change (C := Try.checked) Try.own started (by kernel_rfl) Try.func3
    (ChangeSpec.witness6 (enc := enc) (C := Try.checked) false ⟨#[], #[.string ⟨#[]⟩, .string ⟨#[]⟩, .string ⟨#[]⟩], []⟩ 8 (by kernel_rfl) (by kernel_rfl) (by kernel_rfl) (by kernel_rfl)) ?_
  intro W base args ds gs before hval0 hW hcnd _
  have hval : ∀ (j : Nat) t v, Try.f3.params[j]? = some t → args[j]? = some v → Value.okWide Try.prog W .any base t v := hval0
  have hW' := hW
  obtain ⟨p, q, hA0, hV, rfl, hfz, hnd⟩ := hW
  have hA : DataW.TrodAll enc Try.prog W 0 (fun _ => true) true Try.f3.params.toList args.toList ds p := hA0
  rw [Try.params3] at hA hval
  obtain ⟨v0, v1, v2, d0, d1, d2, p0, p1, p2, rfl, rfl, rfl, h0, h1, h2⟩ := trodAll_three hA
  obtain ⟨rfl, rfl⟩ := trodVars_none hV
  obtain ⟨a, rfl, rfl, rfl, wa⟩ := open_string Try.underlying9 (hval 0 9 v0 rfl rfl) h0
  obtain ⟨b, rfl, rfl, rfl, wb⟩ := open_string Try.underlying9 (hval 1 9 v1 rfl rfl) h1
  obtain ⟨c, rfl, rfl, rfl, wc⟩ := open_string Try.underlying9 (hval 2 9 v2 rfl rfl) h2
  clear hA0 hval0
  simp only [List.append_nil] at hW'
  refine (nfaTexts_any hrun a b c W).mono fun e W' ⟨he, hw⟩ => ?_
  subst he
  exact ⟨_, rfl, post_of_below (pa := []) (pv := []) hW' (fun _ _ _ => trodAll_mk1 (shut_bool Try.underlying4 true)) (fun sp _ => trodAll_mk3 (shut_string Try.underlying9 wa) (shut_string Try.underlying9 wb) (shut_string Try.underlying9 wc)) (fun _ _ => rfl) rfl
    hw (ok_one (by kernel_rfl) rfl (okWide_bool_mk Try.underlying4 true))⟩

theorem nfaTexts_holds (hrun : ∀ a b c : List UInt8, ∃ n H', run fsT sp0 n 0 1 [.str a, .str b, .str c] [] = some (.ret (.bool true), H')) : Rows.NfaTextsSaid :=
  OpenClaim.holds_of_wide 3 Try.f3 rfl rfl rfl rfl rfl rfl rfl ⟨rfl, rfl, rfl, rfl, rfl⟩ rfl rfl rfl rfl rfl (by kernel_rfl) Try.func3 (by kernel_rfl)
    (of_decide_eq_true (by kernel_rfl)) (by unfold Func.isWrapper; rw [if_neg (by decide +kernel)]; exact ⟨rfl, rfl⟩)
    (fun os started H enc _ => nfaTexts_lifted hrun os started H enc)

end Go.Proofs.Ytfcgnpphabplbaa

namespace Go.Proofs.Ytfcgnpphabplbaa
open Go.Ak

theorem Try.lives06 : run fsT S0.sp 400 0 2 [] [] = some (.ret (.bool true), []) := by kernel_rfl

/-- Of any three texts NfaTexts answers true. -/
theorem nfaTexts_said : Rows.NfaTextsSaid := nfaTexts_holds fun a b c => by
  have hl : ∀ (bar : Nat) (H : Heap), Rn fsT S0.sp bar 2 [] H = some (.ret (.bool true), H) := fun bar H => pure_any S0.mono fsT_2 rfl rfl Try.lives06 bar H
  obtain ⟨n, hn⟩ := (Rn_iff S0.mono).1 (nfaTexts_run (S := S0) (bar := 0) hl a b c [])
  exact ⟨n, [], hn⟩

end Go.Proofs.Ytfcgnpphabplbaa

