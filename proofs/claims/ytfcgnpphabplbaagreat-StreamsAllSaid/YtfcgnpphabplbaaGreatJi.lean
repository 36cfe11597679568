/- The claim StreamsAll: of any text and any byte the law StreamsAll answers true, and each argument reads afterwards as before. No condition is laid on them. -/
import Derived.Test.YtfcgnpphabplbaaGreatJc
import Derived.Test.YtfcgnpphabplbaaGreatJh
import Derived.Test.YtfcgnpphabplbaaGreatRows
set_option linter.unusedVariables false
set_option linter.unusedSimpArgs false

namespace Go.Proofs.YtfcgnpphabplbaaGreat
open Go.ChangeShapes Go.WideShapes Go.ChangeAt Go.RowKit Go.Ak
open Go.ChangeMaps (open_string shut_string)

theorem Tryz.u9 : Tryz.prog.underlying 9 = some .string := by kernel_rfl
theorem Tryz.u4 : Tryz.prog.underlying 4 = some .bool := by kernel_rfl
theorem Tryz.u5 : Tryz.prog.underlying 5 = some (.int .u8) := by kernel_rfl
theorem Tryz.own : ownKnob Tryz.prog.godebug = none := by kernel_rfl
theorem Tryz.laidOut : laidOutB Tryz.prog = true := by kernel_rfl
theorem Tryz.mixed : (trTryz fun _ => none).P.follows .mixedOrders = true := by kernel_rfl

theorem all_any (a : ByteArray) (n : Int) (h0 : 0 ≤ n) (h1 : n < 256) (w : World) : Calls Tryz.prog 5 #[.string a, .int .u8 n] w fun e w' => e = .returned (.bool true) ∧ Below w.heap.size w w' := by
  obtain ⟨k, rfl⟩ : ∃ k : Nat, n = k := ⟨n.toNat, by omega⟩
  have hk : (UInt8.ofNat k).toNat = k := by simp; omega
  obtain ⟨H', hr⟩ := all_run (main := a.data.toList) (c := UInt8.ofNat k)
  rw [hk] at hr
  obtain ⟨m, hm⟩ := (Rn_iff SA.mono).1 hr
  exact run_calls_bool (T := trTryz fun _ => none) (w := w) (fun _ _ h => by cases h) Tryz.mixed (fsOKTryz _) spA_ok hm (.cons _ _ _ _ (str_V _ a) (.cons _ _ _ _ (.int _ _) .nil))

set_option maxRecDepth 100000 in
theorem streamsAll_lifted (os : Os) (started : os.Started) (H : Type) (enc : TypeId × Value → H) :
    ReturnsInHanded {} Tryz.checked os 5 .any (Rows.streamsAllSpec.pre6 enc Tryz.prog Tryz.f5 Rows.streamsAllRow.domain false) (Rows.streamsAllSpec.post enc Tryz.prog Tryz.f5 false true false false) := by
  refine returnsInHanded_of_change (C := Tryz.checked) Tryz.own started (by kernel_rfl) Tryz.func5
    (ChangeSpec.witness6 (enc := enc) (C := Tryz.checked) false ⟨#[], #[.string ⟨#[]⟩, .int .u8 0], []⟩ 8 (by kernel_rfl) (by kernel_rfl) (by kernel_rfl) (by kernel_rfl)) ?_
  intro W base args ds gs before hval0 hW hcnd _
  have hval : ∀ (j : Nat) t v, Tryz.f5.params[j]? = some t → args[j]? = some v → Value.okWide Tryz.prog W .any base t v := hval0
  have hW' := hW
  obtain ⟨p, q, hA0, hV, rfl, hfz, hnd⟩ := hW
  have hA : DataW.TrodAll enc Tryz.prog W 0 (fun _ => true) true Tryz.f5.params.toList args.toList ds p := hA0
  rw [Tryz.params5] at hA hval
  obtain ⟨v0, v1, d0, d1, p0, p1, rfl, rfl, rfl, h0, h1⟩ := trodAll_two hA
  obtain ⟨rfl, rfl⟩ := trodVars_none hV
  obtain ⟨a, rfl, rfl, rfl, wa⟩ := open_string Tryz.u9 (hval 0 9 v0 rfl rfl) h0
  have h1k := h1
  obtain ⟨n, rfl, rfl, rfl, wn⟩ := open_int Tryz.u5 (hval 1 5 v1 rfl rfl) h1
  clear hA0 hval0
  simp only [List.append_nil] at hW'
  have hr : 0 ≤ n ∧ n < 256 := by
    simp [Lit.wf, IntKind.min, IntKind.max, IntKind.bits, IntKind.signed] at wn
    omega
  refine (all_any a n hr.1 hr.2 W).mono fun e W' ⟨he, hw⟩ => ?_
  subst he
  exact ⟨_, rfl, post_of_below (pa := []) (pv := []) hW' (fun _ _ _ => trodAll_mk1 (shut_bool Tryz.u4 true)) (fun sp _ => trodAll_mk2 (shut_string Tryz.u9 wa) (shut_int Tryz.u5 wn)) (fun _ _ => rfl) rfl
    hw (ok_one (by kernel_rfl) rfl (okWide_bool_mk Tryz.u4 true))⟩

theorem streamsAll_said : Rows.StreamsAllSaid :=
  OpenClaim.holds_of_wide 5 Tryz.f5 rfl rfl rfl rfl rfl rfl rfl ⟨rfl, rfl, rfl, rfl, rfl⟩ rfl rfl rfl rfl rfl (by kernel_rfl) Tryz.func5 (by kernel_rfl)
    (of_decide_eq_true (by kernel_rfl)) (by unfold Func.isWrapper; rw [if_neg (by decide +kernel)]; exact ⟨rfl, rfl⟩)
    (fun os started H enc _ => streamsAll_lifted os started H enc)

end Go.Proofs.YtfcgnpphabplbaaGreat

