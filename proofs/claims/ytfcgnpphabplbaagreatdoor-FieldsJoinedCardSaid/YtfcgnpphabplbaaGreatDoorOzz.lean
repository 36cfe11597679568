/- The claim FieldsJoined (its card): of any two texts and any act the law FieldsJoined answers true, and each argument reads afterwards as before. No condition is laid on them but that the listed library tables hold what the program's text lays, which the card ties. -/
import Derived.Test.YtfcgnpphabplbaaGreatDoorOc
import Derived.Test.YtfcgnpphabplbaaGreatDoorOz
import Derived.Test.YtfcgnpphabplbaaGreatDoorRows
import Derived.HandedShaped
import Derived.LaidMore
import Derived.Lay
import Derived.SevenTiedAt
import Derived.Stop.Joined
import Derived.Test.YtfcgnpphabplbaaGreatDoorCards
import Derived.Test.YtfcgnpphabplbaaGreatDoorTie
import Derived.Shelf.Vars
set_option linter.unusedVariables false
set_option linter.unusedSimpArgs false

namespace Go.Proofs.YtfcgnpphabplbaaGreatDoor
open Go.ChangeShapes Go.WideShapes Go.ChangeAt Go.RowKit Go.Ak
open Go.ChangeMaps (open_string shut_string)

theorem Tryz.u9 : Tryz.prog.underlying 9 = some .string := by kernel_rfl
theorem Tryz.u4 : Tryz.prog.underlying 4 = some .bool := by kernel_rfl
theorem Tryz.u3 : Tryz.prog.underlying 3 = some (.int .i64) := by kernel_rfl
theorem Tryz.own : ownKnob Tryz.prog.godebug = none := by kernel_rfl
theorem Tryz.laidOut : laidOutB Tryz.prog = true := by kernel_rfl
theorem Tryz.mixed : (zah fun _ => none).P.follows .mixedOrders = true := by kernel_rfl

/-- The one block that is kept: the library's variable MaxLen. -/
def zyb (w : World) : Nat → Option Obj := fun b => if b = Tryz.lays219_ren.g 1 then w.heap[b]? else none

theorem zBG {w : World} (h : w.ShapedOpen Tryz.prog) : zeA (zyb w) := by
 obtain ⟨m, hm⟩ := Go.Proofs.cell_of_shapedOpen_int (zero := #[.int .i64 0]) (t := 3) (k := .i64) (g := Tryz.lays219_ren.g 1) h (of_decide_eq_true (by kernel_rfl)) (by kernel_rfl) rfl (by kernel_rfl) (by kernel_rfl) Tryz.underlying3
 simp only [World.cell?] at hm
 split at hm
 ·rename_i c ty fz hb
  exact ⟨m, c, ty, fz, by simp only [zyb, if_true]; exact hb, by simpa using hm⟩
 ·cases hm

theorem zwn (w : World) : ∀ b x, zyb w b = some x → w.heap[b]? = some x := fun b x h => by
 simp only [zyb] at h
 split at h
 ·exact h
 ·cases h

theorem Tryz.kAct : (match Tryz.prog.underlying 36 with | some (.struct fs) => fs.toList.map fun f => (f.type, f.offset) | _ => []) = [(3, 0), (3, 1), (9, 2), (9, 3)] := by kernel_rfl
theorem Tryz.cAct : Tryz.prog.cellsOf 36 = 4 := by kernel_rfl
theorem Tryz.c9 : Tryz.prog.cellsOf 9 = 1 := by kernel_rfl
theorem Tryz.c3 : Tryz.prog.cellsOf 3 = 1 := by kernel_rfl

theorem Tryz.sAct : ∃ f0 f1 f2 f3, Tryz.prog.underlying 36 = some (.struct #[f0, f1, f2, f3]) ∧ (f0.type = 3 ∧ f0.offset = 0) ∧ (f1.type = 3 ∧ f1.offset = 1) ∧ (f2.type = 9 ∧ f2.offset = 2) ∧ f3.type = 9 ∧ f3.offset = 3 := by
 have h := Tryz.kAct
 generalize Tryz.prog.underlying 36 = u at h ⊢
 split at h
 ·rename_i fs
  obtain ⟨l⟩ := fs
  have hl : l.length = 4 := by simpa using congrArg List.length h
  match l, hl, h with
  | [f0, f1, f2, f3], _, h =>
   simp only [List.map_cons, List.map_nil, List.cons.injEq, Prod.mk.injEq, and_true] at h
   exact ⟨f0, f1, f2, f3, rfl, h.1, h.2.1, h.2.2.1, h.2.2.2⟩
 ·cases h

set_option maxRecDepth 100000 in
/-- The cells of an act. -/
theorem zy0 {H : Type} {enc : TypeId × Value → H} {W : World} {sp : Nat → Bool} {b : Bool} {fuel : Nat} {cs : List Value} {x : DataW H × List MemPlace} (h : DataW.trod enc Tryz.prog W 0 sp b fuel 36 cs = some x) :
  ∃ (k i : Int) (s t : ByteArray), cs = [.int .i64 k, .int .i64 i, .string s, .string t] ∧ (-9223372036854775808 ≤ i ∧ i ≤ 9223372036854775807) := by
 obtain ⟨f0, f1, f2, f3, hs, ⟨t0, o0⟩, ⟨t1, o1⟩, ⟨t2, o2⟩, t3, o3⟩ := Tryz.sAct
 obtain ⟨xs, n, _, _, hl, hxl, hfd⟩ := DataW.trod_struct hs h
 rw [Tryz.cAct] at hl
 match xs, hxl, cs, hl with
 | [y0, y1, y2, y3], _, [v0, v1, v2, v3], _ =>
  have g0 := hfd 0 f0 rfl
  have g1 := hfd 1 f1 rfl
  have g2 := hfd 2 f2 rfl
  have g3 := hfd 3 f3 rfl
  simp [t0, o0, t1, o1, t2, o2, t3, o3, Tryz.c9, Tryz.c3] at g0 g1 g2 g3
  obtain ⟨k0, e0, _⟩ := DataW.trod_int Tryz.u3 g0
  obtain ⟨k1, e1, _, w1⟩ := DataW.trod_int Tryz.u3 g1
  obtain ⟨s2, e2, _⟩ := DataW.trod_string Tryz.u9 g2
  obtain ⟨s3, e3, _⟩ := DataW.trod_string Tryz.u9 g3
  simp only [List.cons.injEq, and_true] at e0 e1 e2 e3
  subst e0; subst e1; subst e2; subst e3
  refine ⟨k0, k1, s2, s3, rfl, ?_⟩
  simp [Lit.wf, IntKind.min, IntKind.max, IntKind.bits, IntKind.signed] at w1
  omega

theorem zlk (a b : ByteArray) (k i : Int) (s t : ByteArray) (w : World) (hsh : w.ShapedOpen Tryz.prog) : Calls Tryz.prog 7 #[.string a, .string b, .agg #[.int .i64 k, .int .i64 i, .string s, .string t]] w fun e w' => e = .returned (.bool true) ∧ Below w.heap.size w w' := by
 obtain ⟨o, H', hr, ho⟩ := zll a.data.toList b.data.toList k i s.data.toList t.data.toList
 subst ho
 obtain ⟨m, hm⟩ := (zgR SA.mono).1 hr
 exact znx (T := zah (zyb w)) (w := w) (zwn w) Tryz.mixed (zBL _) (zHF (zBG hsh)) hm (.cons _ _ _ _ (zAX _ a) (.cons _ _ _ _ (zAX _ b) (.cons _ _ _ _ (.agg _ _ (.cons _ _ _ _ (.int _ _) (.cons _ _ _ _ (.int _ _) (.cons _ _ _ _ (zAX _ s) (.cons _ _ _ _ (zAX _ t) .nil)))) (fun v hv => by
  simp only [List.mem_cons, List.not_mem_nil, or_false] at hv
  rcases hv with rfl | rfl | rfl | rfl <;> rfl)) .nil)))

/-- The contract's wrap, the world's shape and what is laid handed on. -/
theorem zws {H : Type} {enc : TypeId × Value → H} {a : Assume} {C : Checked} {os : Os} {f : FuncId} {fn : Func} {s : ChangeSpec} {conds : List PathCond} {apart fresh handsOn again : Bool} {X : World → Array Value → Prop}
  (own : ownKnob C.prog.godebug = none) (started : os.Started) (noInit : C.prog.inits.idxOf? f = none) (hfn : C.prog.funcs[f]? = some fn)
  (witness : ∃ (w : World) (tape : Tape) (i : Input), w.os = os ∧ (w.forCall tape i).Shaped C.prog ∧ i.vars = [] ∧ Input.okWide C.prog (w.forCall tape i) .any w.heap.size f i ∧
   ((s.pre enc C.prog fn conds apart (w.forCall tape i).memory i.args ∧ X (w.forCall tape i).memory i.args) ∧ sizedMet enc C.prog fn (OpenSpec.ofChange s) apart (w.forCall tape i).memory i.args) ∧ a.holds C.prog (lone (Frame.enter C.prog f i.args .normal) [] (w.forCall tape i)))
  (contract : ∀ (W : World) (base : Nat) (args : Array Value) (ds gs : List (DataW H)) (before : List MemPlace),
   (∀ (j : Nat) t v, fn.params[j]? = some t → args[j]? = some v → Value.okWide C.prog W .any base t v) →
   DataW.Whole enc C.prog fn.params.toList s.vars apart W args.toList ds gs before → W.ShapedOpen C.prog →
   Calls C.prog f args W fun e W' => ∃ v, e = .returned v ∧ s.post enc C.prog fn apart fresh handsOn again W args v W') :
  ReturnsInHanded a C os f .any (fun w args => (s.pre enc C.prog fn conds apart w args ∧ X w args) ∧ sizedMet enc C.prog fn (OpenSpec.ofChange s) apart w args) (s.post enc C.prog fn apart fresh handsOn again) := by
 refine returnsInHanded_of_calls own started noInit witness ?_
 intro w tape i _ hsh _ hok hpre _
 obtain ⟨_, _, _, fn', hfn', _, _, _, _, hval⟩ := hok
 have e : fn' = fn := Option.some.inj (hfn'.symm.trans hfn)
 subst e
 obtain ⟨⟨⟨ds, gs, before, hw, _⟩, _⟩, _⟩ := hpre
 have hw' := DataW.Whole.of_heap (w' := w.forCall tape i) (by rfl) hw
 refine (contract (w.forCall tape i) w.heap.size i.args ds gs before hval hw' hsh).mono fun e W' ⟨v, he, hp⟩ => ?_
 subst he
 exact ChangeSpec.post_blind hp

set_option maxRecDepth 100000 in
theorem ziy (os : Os) (started : os.Started) (H : Type) (enc : TypeId × Value → H) :
  ReturnsInHanded {} Tryz.checked os 7 .any (fun w args => (Rows.fieldsJoinedSpec.pre enc Tryz.prog Tryz.f7 Rows.fieldsJoinedRow.domain false w args ∧ laidMetH Tryz.prog Rows.fieldsJoinedRow.laid w) ∧ sizedMet enc Tryz.prog Tryz.f7 (OpenSpec.ofChange Rows.fieldsJoinedSpec) false w args)
   (Rows.fieldsJoinedSpec.post enc Tryz.prog Tryz.f7 false true false false) := by
 refine zws (C := Tryz.checked) (X := fun w _ => laidMetH Tryz.prog Rows.fieldsJoinedRow.laid w) Tryz.own started (by kernel_rfl) Tryz.func7
  (ChangeSpec.witness_shaped (enc := enc) (C := Tryz.checked) (os := os) (X := fun w _ => laidMetH Tryz.prog Rows.fieldsJoinedRow.laid w) false (World.laidAll Tryz.prog os Rows.fieldsJoinedRow.laid) #[.string ⟨#[]⟩, .string ⟨#[]⟩, .agg #[.int .i64 0, .int .i64 0, .string ⟨#[]⟩, .string ⟨#[]⟩]] 8 (World.laidAll_os _ _ _)
   (World.shaped_of_ZipB (by kernel_rfl) (by kernel_rfl)) (by kernel_rfl) (by kernel_rfl) (by kernel_rfl)
   (by rw [MakeChecks.laidMetH_plain _ _ _ (by kernel_rfl)]; exact laidMet_laidAll _ (by kernel_rfl) (by kernel_rfl))) ?_
 intro W base args ds gs before hval0 hW hsh
 have hval : ∀ (j : Nat) t v, Tryz.f7.params[j]? = some t → args[j]? = some v → Value.okWide Tryz.prog W .any base t v := hval0
 have hW' := hW
 obtain ⟨p, q, hA0, hV, rfl, hfz, hnd⟩ := hW
 have hA : DataW.TrodAll enc Tryz.prog W 0 (fun _ => true) true Tryz.f7.params.toList args.toList ds p := hA0
 rw [Tryz.params7] at hA hval
 obtain ⟨v0, v1, v2, d0, d1, d2, p0, p1, p2, rfl, rfl, rfl, h0, h1, h2⟩ := trodAll_three hA
 obtain ⟨rfl, rfl⟩ := trodVars_none hV
 obtain ⟨a, rfl, rfl, rfl, w0⟩ := open_string Tryz.u9 (hval 0 9 v0 rfl rfl) h0
 obtain ⟨b, rfl, rfl, rfl, w1⟩ := open_string Tryz.u9 (hval 1 9 v1 rfl rfl) h1
 obtain ⟨f0, f1, f2, f3, hs, _⟩ := Tryz.sAct
 obtain ⟨cs, rfl, _⟩ := okWide_struct hs (hval 2 36 v2 rfl rfl)
 obtain ⟨fuel, hf⟩ := id h2
 obtain ⟨k, i, s, t, hcs, hi⟩ := zy0 hf
 have hcs2 : cs = #[.int .i64 k, .int .i64 i, .string s, .string t] := by
  have : cs.toList = [.int .i64 k, .int .i64 i, .string s, .string t] := hcs
  rw [← Array.toArray_toList (xs := cs), this]
 subst hcs2
 clear hA0 hval0
 simp only [List.append_nil, List.nil_append] at hW'
 have hlt : ∀ x ∈ p2, x.block < W.heap.size := fun x hx => by simpa using hW'.lt x hx
 refine (zlk a b k i s t W hsh).mono fun e W' ⟨he, hw⟩ => ?_
 subst he
 exact ⟨_, rfl, zpd (pa := p2) (pv := []) hW' (fun _ _ _ => trodAll_mk1 (shut_bool Tryz.u4 true)) (fun sp hsp => trodAll_mk3 (shut_string Tryz.u9 w0) (shut_string Tryz.u9 w1) (WideElems.Trod_stays Tryz.laidOut (by kernel_rfl) (of_decide_eq_true (by kernel_rfl)) h2 (fun x hx => hw.same (hlt x hx)) (fun x hx => hsp x (by simp [hx])))) (fun _ _ => rfl) (by simp)
  hw (ok_one (by kernel_rfl) rfl (okWide_bool_mk Tryz.u4 true))⟩

theorem zkz : Rows.FieldsJoinedSaid :=
 OpenClaim.holds_of_wide 7 Tryz.f7 rfl rfl rfl rfl rfl rfl rfl ⟨rfl, rfl, rfl, rfl, rfl⟩ rfl rfl rfl rfl rfl (by kernel_rfl) Tryz.func7 (by kernel_rfl)
  (of_decide_eq_true (by kernel_rfl)) (by unfold Func.isWrapper; rw [if_neg (by decide +kernel)]; exact ⟨rfl, rfl⟩)
  (fun os started H enc _ => ziy os started H enc)

theorem fieldsJoined_card : Rows.FieldsJoinedCardSaid :=
 Claim7.holds_tied_plain_at .later [] [.data, .pinned] true (true, "2f3acc57a7185d7fb7fb950f8d5f87ca403d6a98089d349c01e2c7db1fb18800") true zkz (fun _ h => by cases h) (by kernel_rfl) (fun _ h => by cases h) fieldsJoined_row_tie rfl ⟨rfl, rfl⟩ (by kernel_rfl) rfl
  (fun f fn hf hfn => by
   obtain rfl : f = 7 := Option.some.inj ((show Tryz.prog.funcNamed "auklet/aukletlaw09.FieldsJoined" = some 7 by kernel_rfl).symm.trans hf) |>.symm
   obtain rfl : fn = Tryz.f7 := (Option.some.inj (Tryz.func7.symm.trans hfn)).symm
   exact ⟨by kernel_rfl, fun j t ht => by
    rw [Tryz.params7] at ht
    have hm : t ∈ [9, 9, 36] := by simpa using Array.mem_of_getElem? ht
    have hall : ([9, 9, 36].all fun u => !Tryz.prog.wantsStandIn u) = true := by kernel_rfl
    exact (show Tryz.prog.wantsStandIn t = false by simpa using List.all_eq_true.1 hall t hm)⟩)
  (by kernel_rfl)

end Go.Proofs.YtfcgnpphabplbaaGreatDoor

