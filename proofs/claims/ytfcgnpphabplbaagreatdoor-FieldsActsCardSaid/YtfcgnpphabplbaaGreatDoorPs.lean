/- The claim FieldsActs (its card): of any acts and any number the law FieldsActs answers true, and each argument reads afterwards as before. No condition is laid on them but that the listed library tables hold what the program's text lays, which the card ties. -/
import Derived.Test.YtfcgnpphabplbaaGreatDoorPc
import Derived.Test.YtfcgnpphabplbaaGreatDoorPr
import Derived.Test.YtfcgnpphabplbaaGreatDoorRows
import Derived.HandedShaped
import Derived.LaidMore
import Derived.Lay
import Derived.SevenTiedAt
import Derived.Stop.Joined
import Derived.Test.YtfcgnpphabplbaaGreatDoorCards
import Derived.Test.YtfcgnpphabplbaaGreatDoorTie
import Derived.Shelf.Vars
import Derived.Deep.Slices
set_option linter.unusedVariables false
set_option linter.unusedSimpArgs false

namespace Go.Ak
section
variable {T : Tr} {w : World}

theorem zrT {b k : Nat} {v : Value} (h : w.cell? ⟨b, k, none⟩ = some v) : k < (nN w).S b := by
 simp only [World.cell?] at h
 split at h
 ·rename_i c t fz hb
  have aB : b < w.heap.size := (Array.getElem?_eq_some_iff.1 hb).1
  simp only [nN, aB, if_true, Np, hb]
  exact (Array.getElem?_eq_some_iff.1 (by simpa using h)).1
 ·cases h

/-- A row in the world as a slice's value. -/
theorem slc_V {b ai st cap : Nat} (dx : 0 < st) (C : Nat → List Value) (f : Nat → AV) (len : Nat) (hl : len ≤ cap)
  (h : ∀ i, i < len → (C i).length = st ∧ Vs T (nN w) w (f i).cells (C i) ∧ (∀ u ∈ C i, u.oneCell' = true) ∧ ∀ (j : Nat) (v : Value), (C i)[j]? = some v → w.cell? ⟨b, ai + i * st + j, none⟩ = some v) :
  V T (nN w) w (.slc .ro ((List.range len).map f)) (.slice (some ⟨b, ai, none⟩) len cap) := by
 have hu : ∀ e ∈ (List.range len).map f, e.cells.length = st := fun e he => by
  obtain ⟨i, hi, rfl⟩ := List.mem_map.1 he
  obtain ⟨h1, h2, _⟩ := h i (List.mem_range.1 hi)
  rw [h2.length, h1]
 have dw : ∀ n, n ≤ len → Vs T (nN w) w (cz ((List.range n).map f)) ((List.range n).flatMap C) ∧ ((List.range n).flatMap C).length = n * st ∧
   ∀ (k : Nat) (v : Value), ((List.range n).flatMap C)[k]? = some v → w.cell? ⟨b, ai + k, none⟩ = some v ∧ v.oneCell' = true := by
  intro n
  induction n with
  | zero => intro _; exact ⟨by simpa [cz] using .nil, by simp, fun k v hk => by simp at hk⟩
  | succ n ih =>
   intro hn
   obtain ⟨i1, i2, i3⟩ := ih (by omega)
   obtain ⟨h1, h2, h3, h4⟩ := h n (by omega)
   have e1 : (List.range (n + 1)).flatMap C = (List.range n).flatMap C ++ C n := by simp [List.range_succ]
   have e2 : cz ((List.range (n + 1)).map f) = cz ((List.range n).map f) ++ (f n).cells := by simp [List.range_succ, cz]
   rw [e1, e2]
   refine ⟨i1.append h2, by rw [List.length_append, i2, h1, Nat.succ_mul], fun k v hk => ?_⟩
   by_cases hk2 : k < ((List.range n).flatMap C).length
   ·rw [List.getElem?_append_left hk2] at hk
    exact i3 k v hk
   ·rw [List.getElem?_append_right (by omega), i2] at hk
    have := h4 _ v hk
    rw [show ai + n * st + (k - n * st) = ai + k by omega] at this
    exact ⟨this, h3 v (List.mem_of_getElem? hk)⟩
 obtain ⟨k1, k2, k3⟩ := dw len (Nat.le_refl _)
 have := V.slc (T := T) (g := nN w) (w := w) ((List.range len).map f) b ai ((List.range len).flatMap C) st cap (fun k v hk => ⟨zrT (k3 k v hk).1, (k3 k v hk).1, (k3 k v hk).2⟩) k1 hu dx (by simpa using hl)
 simpa using this

end
end Go.Ak

namespace Go.Proofs.YtfcgnpphabplbaaGreatDoor
open Go.ChangeShapes Go.WideShapes Go.ChangeAt Go.RowKit Go.Ak Go.Deep
open Go.ChangeMaps (open_string shut_string)

theorem Tryz.u9 : Tryz.prog.underlying 9 = some .string := by kernel_rfl
theorem Tryz.u4 : Tryz.prog.underlying 4 = some .bool := by kernel_rfl
theorem Tryz.u3 : Tryz.prog.underlying 3 = some (.int .i64) := by kernel_rfl
theorem Tryz.own : ownKnob Tryz.prog.godebug = none := by kernel_rfl
theorem Tryz.laidOut : laidOutB Tryz.prog = true := by kernel_rfl
theorem Tryz.mixed : (cZ fun _ => none).P.follows .mixedOrders = true := by kernel_rfl

/-- The one block that is kept: the library's variable MaxLen. -/
def Gy (w : World) : Nat → Option Obj := fun b => if b = Tryz.lays219_ren.g 1 then w.heap[b]? else none

theorem znX {w : World} (h : w.ShapedOpen Tryz.prog) : Bh (Gy w) := by
 obtain ⟨m, hm⟩ := Go.Proofs.cell_of_shapedOpen_int (zero := #[.int .i64 0]) (t := 3) (k := .i64) (g := Tryz.lays219_ren.g 1) h (of_decide_eq_true (by kernel_rfl)) (by kernel_rfl) rfl (by kernel_rfl) (by kernel_rfl) Tryz.underlying3
 simp only [World.cell?] at hm
 split at hm
 ·rename_i c ty fz hb
  exact ⟨m, c, ty, fz, by simp only [Gy, if_true]; exact hb, by simpa using hm⟩
 ·cases hm

theorem znY (w : World) : ∀ b x, Gy w b = some x → w.heap[b]? = some x := fun b x h => by
 simp only [Gy] at h
 split at h
 ·exact h
 ·cases h

theorem Tryz.kAct : (match Tryz.prog.underlying 36 with | some (.struct fs) => fs.toList.map fun f => (f.type, f.offset) | _ => []) = [(3, 0), (3, 1), (9, 2), (9, 3)] := by kernel_rfl
theorem Tryz.cAct : Tryz.prog.cellsOf 36 = 4 := by kernel_rfl
theorem Tryz.c9 : Tryz.prog.cellsOf 9 = 1 := by kernel_rfl
theorem Tryz.c3 : Tryz.prog.cellsOf 3 = 1 := by kernel_rfl

theorem Tryz.sAct : ∃ f0 f1 f2 f3, Tryz.prog.underlying 36 = some (.struct #[f0, f1, f2, f3]) ∧ (f0.type = 3 ∧ f0.offset = 0) ∧ (f1.type = 3 ∧ f1.offset = 1) ∧ (f2.type = 9 ∧ f2.offset = 2) ∧ f3.type = 9 ∧ f3.offset = 3 := by
 have h := Tryz.kAct
 generalize Tryz.prog.underlying 36 = u at h ⊢
 split at h
 ·rename_i fs
  obtain ⟨l⟩ := fs
  have hl : l.length = 4 := by simpa using congrArg List.length h
  match l, hl, h with
  | [f0, f1, f2, f3], _, h =>
   simp only [List.map_cons, List.map_nil, List.cons.injEq, Prod.mk.injEq, and_true] at h
   exact ⟨f0, f1, f2, f3, rfl, h.1, h.2.1, h.2.2.1, h.2.2.2⟩
 ·cases h

set_option maxRecDepth 100000 in
/-- The cells of an act. -/
theorem zrz {H : Type} {enc : TypeId × Value → H} {W : World} {sp : Nat → Bool} {b : Bool} {qP : Nat} {cs : List Value} {x : DataW H × List MemPlace} (h : DataW.trod enc Tryz.prog W 0 sp b qP 36 cs = some x) :
  ∃ (k i : Int) (s t : ByteArray), cs = [.int .i64 k, .int .i64 i, .string s, .string t] ∧ (-9223372036854775808 ≤ i ∧ i ≤ 9223372036854775807) := by
 obtain ⟨f0, f1, f2, f3, hs, ⟨t0, o0⟩, ⟨t1, o1⟩, ⟨t2, o2⟩, t3, o3⟩ := Tryz.sAct
 obtain ⟨xs, n, _, _, hl, hxl, hfd⟩ := DataW.trod_struct hs h
 rw [Tryz.cAct] at hl
 match xs, hxl, cs, hl with
 | [y0, y1, y2, y3], _, [v0, v1, v2, v3], _ =>
  have g0 := hfd 0 f0 rfl
  have g1 := hfd 1 f1 rfl
  have g2 := hfd 2 f2 rfl
  have g3 := hfd 3 f3 rfl
  simp [t0, o0, t1, o1, t2, o2, t3, o3, Tryz.c9, Tryz.c3] at g0 g1 g2 g3
  obtain ⟨k0, e0, _⟩ := DataW.trod_int Tryz.u3 g0
  obtain ⟨k1, e1, _, w1⟩ := DataW.trod_int Tryz.u3 g1
  obtain ⟨s2, e2, _⟩ := DataW.trod_string Tryz.u9 g2
  obtain ⟨s3, e3, _⟩ := DataW.trod_string Tryz.u9 g3
  simp only [List.cons.injEq, and_true] at e0 e1 e2 e3
  subst e0; subst e1; subst e2; subst e3
  refine ⟨k0, k1, s2, s3, rfl, ?_⟩
  simp [Lit.wf, IntKind.min, IntKind.max, IntKind.bits, IntKind.signed] at w1
  omega

theorem Tryz.uActs : Tryz.prog.underlying 49 = some (.slice 36) := by kernel_rfl

set_option maxRecDepth 100000 in
theorem zkw {t e : TypeId} {W : World} {fE len cap : Nat} {a : Addr} (ht : Tryz.prog.underlying t = some (.slice e)) (h : Value.okWide Tryz.prog W .any fE t (.slice (some a) len cap)) : a.spot = none := by
 simp only [Value.okWide, ht, Cell.okWide, Cell.ok] at h
 exact h.2.2.2.1

set_option maxRecDepth 100000 in
theorem zrw {H : Type} {enc : TypeId × Value → H} {W : World} {fE : Nat} {v : Value} {d : DataW H} {p : List MemPlace} {T : Tr} (hval : Value.okWide Tryz.prog W .any fE 49 v) (h : DataW.Trod enc Tryz.prog W 0 (fun _ => true) true 49 v d p) :
  ∃ (al : List (Int × Int × List UInt8 × List UInt8)) (A : AV), RG A al ∧ V T (nN W) W A v := by
 obtain ⟨qP, hf⟩ := h
 obtain ⟨a0, len, cap, rfl⟩ := okWide_slice Tryz.uActs hval
 rcases open_slice Tryz.uActs hf with ⟨aH, _⟩ | ⟨a, len', iN, m, n, D, Pl, aH, _, hl, _, hm, _, hx⟩
 ·simp [Value.cells] at aH
  obtain ⟨rfl, rfl, rfl⟩ := aH
  exact ⟨[], .nils, .inr ⟨rfl, rfl⟩, .nils⟩
 ·simp [Value.cells] at aH
  obtain ⟨rfl, rfl, rfl⟩ := aH
  have jw := zkw Tryz.uActs hval
  obtain ⟨b, ai, sp⟩ := a
  simp only at jw; subst jw
  simp only [if_true] at hm
  have each : ∀ i, i < len → ∃ q : (Int × Int × List UInt8 × List UInt8) × List Value, q.2.length = 4 ∧ Vs T (nN W) W (yt q.1).cells q.2 ∧ (∀ u ∈ q.2, u.oneCell' = true) ∧ ∀ (j : Nat) (v : Value), q.2[j]? = some v → W.cell? ⟨b, ai + i * 4 + j, none⟩ = some v := fun i hi => by
   obtain ⟨cs', h1, h2⟩ := hx i (by omega)
   rw [Tryz.cAct] at h1
   obtain ⟨_, bq, sQ⟩ := World.cells?_some h1
   obtain ⟨k, j, s, t, rfl, _⟩ := zrz h2
   refine ⟨((k, j, s.data.toList, t.data.toList), [.int .i64 k, .int .i64 j, .string s, .string t]), rfl,
    .cons _ _ _ _ (.int _ _) (.cons _ _ _ _ (.int _ _) (.cons _ _ _ _ (zb2 _ s) (.cons _ _ _ _ (zb2 _ t) .nil))), by simp [Value.oneCell'], fun j v hj => ?_⟩
   have hj4 : j < 4 := (List.getElem?_eq_some_iff.1 hj).1
   have := sQ j hj4
   rw [Addr.add_lit, Addr.add_lit, hj] at this
   exact this
  obtain ⟨q, hq⟩ := choose_lt each
  refine ⟨(List.range len).map fun i => (q i).1, _, .inl rfl, ?_⟩
  rw [List.map_map]
  exact slc_V (by omega) (fun i => (q i).2) (yt ∘ fun i => (q i).1) len hl fun i hi => hq i hi

theorem zoT {al : List (Int × Int × List UInt8 × List UInt8)} {A : AV} (hA : RG A al) (i : Int) (v : Value) (w : World) (hV : V (cZ (Gy w)) (nN w) w A v) (hsh : w.ShapedOpen Tryz.prog) : Calls Tryz.prog 8 #[v, .int .i64 i] w fun e w' => e = .returned (.bool true) ∧ Below w.heap.size w w' := by
 obtain ⟨o, H', hr, ho⟩ := zoU hA i
 subst ho
 obtain ⟨m, hm⟩ := (vR SA.mono).1 hr
 exact zkL (T := cZ (Gy w)) (w := w) (znY w) Tryz.mixed (zos _) (zke (znX hsh)) hm (.cons _ _ _ _ hV (.cons _ _ _ _ (.int _ _) .nil))

/-- The contract's wrap, the world's shape and what is laid handed on. -/
theorem zoq {H : Type} {enc : TypeId × Value → H} {a : Assume} {C : Checked} {os : Os} {f : FuncId} {fn : Func} {s : ChangeSpec} {conds : List PathCond} {apart fresh handsOn again : Bool} {X : World → Array Value → Prop}
  (own : ownKnob C.prog.godebug = none) (Me : os.Started) (noInit : C.prog.inits.idxOf? f = none) (hfn : C.prog.funcs[f]? = some fn)
  (witness : ∃ (w : World) (tape : Tape) (i : Input), w.os = os ∧ (w.forCall tape i).Shaped C.prog ∧ i.vars = [] ∧ Input.okWide C.prog (w.forCall tape i) .any w.heap.size f i ∧
   ((s.pre enc C.prog fn conds apart (w.forCall tape i).memory i.args ∧ X (w.forCall tape i).memory i.args) ∧ sizedMet enc C.prog fn (OpenSpec.ofChange s) apart (w.forCall tape i).memory i.args) ∧ a.holds C.prog (lone (Frame.enter C.prog f i.args .normal) [] (w.forCall tape i)))
  (contract : ∀ (W : World) (fE : Nat) (args : Array Value) (ds gs : List (DataW H)) (uD : List MemPlace),
   (∀ (j : Nat) t v, fn.params[j]? = some t → args[j]? = some v → Value.okWide C.prog W .any fE t v) →
   DataW.Whole enc C.prog fn.params.toList s.vars apart W args.toList ds gs uD → W.ShapedOpen C.prog →
   Calls C.prog f args W fun e W' => ∃ v, e = .returned v ∧ s.post enc C.prog fn apart fresh handsOn again W args v W') :
  ReturnsInHanded a C os f .any (fun w args => (s.pre enc C.prog fn conds apart w args ∧ X w args) ∧ sizedMet enc C.prog fn (OpenSpec.ofChange s) apart w args) (s.post enc C.prog fn apart fresh handsOn again) := by
 refine returnsInHanded_of_calls own Me noInit witness ?_
 intro w tape i _ hsh _ bF hpre _
 obtain ⟨_, _, _, fn', hfn', _, _, _, _, hval⟩ := bF
 have e : fn' = fn := Option.some.inj (hfn'.symm.trans hfn)
 subst e
 obtain ⟨⟨⟨ds, gs, uD, hw, _⟩, _⟩, _⟩ := hpre
 have hw' := DataW.Whole.of_heap (w' := w.forCall tape i) (by rfl) hw
 refine (contract (w.forCall tape i) w.heap.size i.args ds gs uD hval hw' hsh).mono fun e W' ⟨v, he, hp⟩ => ?_
 subst he
 exact ChangeSpec.post_blind hp

set_option maxRecDepth 100000 in
theorem zoS (os : Os) (Me : os.Started) (H : Type) (enc : TypeId × Value → H) :
  ReturnsInHanded {} Tryz.checked os 8 .any (fun w args => (Rows.fieldsActsSpec.pre enc Tryz.prog Tryz.f8 Rows.fieldsActsRow.domain false w args ∧ laidMetH Tryz.prog Rows.fieldsActsRow.laid w) ∧ sizedMet enc Tryz.prog Tryz.f8 (OpenSpec.ofChange Rows.fieldsActsSpec) false w args)
   (Rows.fieldsActsSpec.post enc Tryz.prog Tryz.f8 false true false false) := by
 refine zoq (C := Tryz.checked) (X := fun w _ => laidMetH Tryz.prog Rows.fieldsActsRow.laid w) Tryz.own Me (by kernel_rfl) Tryz.func8
  (ChangeSpec.witness_shaped (enc := enc) (C := Tryz.checked) (os := os) (X := fun w _ => laidMetH Tryz.prog Rows.fieldsActsRow.laid w) false (World.laidAll Tryz.prog os Rows.fieldsActsRow.laid) #[.slice none 0 0, .int .i64 0] 8 (World.laidAll_os _ _ _)
   (World.shaped_of_ZipB (by kernel_rfl) (by kernel_rfl)) (by kernel_rfl) (by kernel_rfl) (by kernel_rfl)
   (by rw [MakeChecks.laidMetH_plain _ _ _ (by kernel_rfl)]; exact laidMet_laidAll _ (by kernel_rfl) (by kernel_rfl))) ?_
 intro W fE args ds gs uD hval0 hW hsh
 have hval : ∀ (j : Nat) t v, Tryz.f8.params[j]? = some t → args[j]? = some v → Value.okWide Tryz.prog W .any fE t v := hval0
 have hW' := hW
 obtain ⟨p, q, hA0, hV, rfl, hfz, hnd⟩ := hW
 have hA : DataW.TrodAll enc Tryz.prog W 0 (fun _ => true) true Tryz.f8.params.toList args.toList ds p := hA0
 rw [Tryz.params8] at hA hval
 obtain ⟨v0, v1, d0, d1, p0, p1, rfl, rfl, rfl, h0, h1⟩ := trodAll_two hA
 obtain ⟨rfl, rfl⟩ := trodVars_none hV
 obtain ⟨al, R, hR, hRV⟩ := zrw (T := cZ (Gy W)) (hval 0 49 v0 rfl rfl) h0
 obtain ⟨b, rfl, rfl, rfl, w1⟩ := open_int Tryz.u3 (hval 1 3 v1 rfl rfl) h1
 clear hA0 hval0
 simp only [List.append_nil] at hW'
 have aB : ∀ x ∈ p0, x.block < W.heap.size := fun x hx => by simpa using hW'.lt x hx
 refine (zoT hR b v0 W hRV hsh).mono fun e W' ⟨he, hw⟩ => ?_
 subst he
 exact ⟨_, rfl, zlR (pa := p0 ++ []) (pv := []) hW' (fun _ _ _ => trodAll_mk1 (shut_bool Tryz.u4 true)) (fun sp jw => trodAll_mk2 (WideElems.Trod_stays Tryz.laidOut (by kernel_rfl) (of_decide_eq_true (by kernel_rfl)) h0 (fun x hx => hw.same (aB x hx)) (fun x hx => jw x (by simp [hx]))) (shut_int Tryz.u3 w1)) (fun _ _ => rfl) (by simp)
  hw (ok_one (by kernel_rfl) rfl (okWide_bool_mk Tryz.u4 true))⟩

theorem zoR : Rows.FieldsActsSaid :=
 OpenClaim.holds_of_wide 8 Tryz.f8 rfl rfl rfl rfl rfl rfl rfl ⟨rfl, rfl, rfl, rfl, rfl⟩ rfl rfl rfl rfl rfl (by kernel_rfl) Tryz.func8 (by kernel_rfl)
  (of_decide_eq_true (by kernel_rfl)) (by unfold Func.isWrapper; rw [if_neg (by decide +kernel)]; exact ⟨rfl, rfl⟩)
  (fun os Me H enc _ => zoS os Me H enc)

theorem fieldsActs_card : Rows.FieldsActsCardSaid :=
 Claim7.holds_tied_plain_at .later [] [.data, .pinned] true (true, "2f3acc57a7185d7fb7fb950f8d5f87ca403d6a98089d349c01e2c7db1fb18800") true zoR (fun _ h => by cases h) (by kernel_rfl) (fun _ h => by cases h) fieldsActs_row_tie rfl ⟨rfl, rfl⟩ (by kernel_rfl) rfl
  (fun f fn hf hfn => by
   obtain rfl : f = 8 := Option.some.inj ((show Tryz.prog.funcNamed "auklet/aukletlaw09.FieldsActs" = some 8 by kernel_rfl).symm.trans hf) |>.symm
   obtain rfl : fn = Tryz.f8 := (Option.some.inj (Tryz.func8.symm.trans hfn)).symm
   exact ⟨by kernel_rfl, fun j t ht => by
    rw [Tryz.params8] at ht
    have hm : t ∈ [49, 3] := by simpa using Array.mem_of_getElem? ht
    have jg : ([49, 3].all fun u => !Tryz.prog.wantsStandIn u) = true := by kernel_rfl
    exact (show Tryz.prog.wantsStandIn t = false by simpa using List.all_eq_true.1 jg t hm)⟩)
  (by kernel_rfl)

end Go.Proofs.YtfcgnpphabplbaaGreatDoor


