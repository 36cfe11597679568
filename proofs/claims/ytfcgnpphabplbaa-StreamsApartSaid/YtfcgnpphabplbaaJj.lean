/- The claim StreamsApart: of any files, any acts, any name the law StreamsApart answers true, and each argument reads afterwards as before. No condition is laid on them. -/
import Derived.Test.YtfcgnpphabplbaaJc
import Derived.Test.YtfcgnpphabplbaaJi
import Derived.Test.YtfcgnpphabplbaaRows
import Derived.Deep.Slices
set_option linter.unusedVariables false
set_option linter.unusedSimpArgs false

namespace Go.Ak
section
variable {T : Tr} {w : World}

theorem S0_cell {b k : Nat} {v : Value} (h : w.cell? ⟨b, k, none⟩ = some v) : k < (gh0 w).S b := by
  simp only [World.cell?] at h
  split at h
  · rename_i c t fz hb
    have hlt : b < w.heap.size := (Array.getElem?_eq_some_iff.1 hb).1
    simp only [gh0, hlt, if_true, arrOf, hb]
    exact (Array.getElem?_eq_some_iff.1 (by simpa using h)).1
  · cases h

/-- A row in the world as a slice's value. -/
theorem slc_V {b off st cap : Nat} (hst : 0 < st) (C : Nat → List Value) (f : Nat → AV) (len : Nat) (hl : len ≤ cap)
    (h : ∀ i, i < len → (C i).length = st ∧ Vs T (gh0 w) w (f i).cells (C i) ∧ (∀ u ∈ C i, u.oneCell' = true) ∧ ∀ (j : Nat) (v : Value), (C i)[j]? = some v → w.cell? ⟨b, off + i * st + j, none⟩ = some v) :
    V T (gh0 w) w (.slc .ro ((List.range len).map f)) (.slice (some ⟨b, off, none⟩) len cap) := by
  have hu : ∀ e ∈ (List.range len).map f, e.cells.length = st := fun e he => by
    obtain ⟨i, hi, rfl⟩ := List.mem_map.1 he
    obtain ⟨h1, h2, _⟩ := h i (List.mem_range.1 hi)
    rw [h2.length, h1]
  have key : ∀ n, n ≤ len → Vs T (gh0 w) w (flat ((List.range n).map f)) ((List.range n).flatMap C) ∧ ((List.range n).flatMap C).length = n * st ∧
      ∀ (k : Nat) (v : Value), ((List.range n).flatMap C)[k]? = some v → w.cell? ⟨b, off + k, none⟩ = some v ∧ v.oneCell' = true := by
    intro n
    induction n with
    | zero => intro _; exact ⟨by simpa [flat] using .nil, by simp, fun k v hk => by simp at hk⟩
    | succ n ih =>
      intro hn
      obtain ⟨i1, i2, i3⟩ := ih (by omega)
      obtain ⟨h1, h2, h3, h4⟩ := h n (by omega)
      have e1 : (List.range (n + 1)).flatMap C = (List.range n).flatMap C ++ C n := by simp [List.range_succ]
      have e2 : flat ((List.range (n + 1)).map f) = flat ((List.range n).map f) ++ (f n).cells := by simp [List.range_succ, flat]
      rw [e1, e2]
      refine ⟨i1.append h2, by rw [List.length_append, i2, h1, Nat.succ_mul], fun k v hk => ?_⟩
      by_cases hk2 : k < ((List.range n).flatMap C).length
      · rw [List.getElem?_append_left hk2] at hk
        exact i3 k v hk
      · rw [List.getElem?_append_right (by omega), i2] at hk
        have := h4 _ v hk
        rw [show off + n * st + (k - n * st) = off + k by omega] at this
        exact ⟨this, h3 v (List.mem_of_getElem? hk)⟩
  obtain ⟨k1, k2, k3⟩ := key len (Nat.le_refl _)
  have := V.slc (T := T) (g := gh0 w) (w := w) ((List.range len).map f) b off ((List.range len).flatMap C) st cap (fun k v hk => ⟨S0_cell (k3 k v hk).1, (k3 k v hk).1, (k3 k v hk).2⟩) k1 hu hst (by simpa using hl)
  simpa using this

end
end Go.Ak

namespace Go.Proofs.Ytfcgnpphabplbaa
open Go.ChangeShapes Go.WideShapes Go.ChangeAt Go.RowKit Go.Ak Go.Deep
open Go.ChangeMaps (open_string shut_string)

theorem Try.u54 : Try.prog.underlying 54 = some (.slice 86) := by kernel_rfl
theorem Try.u55 : Try.prog.underlying 55 = some (.slice 60) := by kernel_rfl
theorem Try.u9 : Try.prog.underlying 9 = some .string := by kernel_rfl
theorem Try.u4 : Try.prog.underlying 4 = some .bool := by kernel_rfl
theorem Try.u3 : Try.prog.underlying 3 = some (.int .i64) := by kernel_rfl
theorem Try.u5 : Try.prog.underlying 5 = some (.int .u8) := by kernel_rfl
theorem Try.c86 : Try.prog.cellsOf 86 = 2 := by kernel_rfl
theorem Try.c60 : Try.prog.cellsOf 60 = 5 := by kernel_rfl
theorem Try.c9 : Try.prog.cellsOf 9 = 1 := by kernel_rfl
theorem Try.c4 : Try.prog.cellsOf 4 = 1 := by kernel_rfl
theorem Try.c3 : Try.prog.cellsOf 3 = 1 := by kernel_rfl
theorem Try.c5 : Try.prog.cellsOf 5 = 1 := by kernel_rfl
theorem Try.k86 : (match Try.prog.underlying 86 with | some (.struct fs) => fs.toList.map fun f => (f.type, f.offset) | _ => []) = [(9, 0), (9, 1)] := by kernel_rfl
theorem Try.k60 : (match Try.prog.underlying 60 with | some (.struct fs) => fs.toList.map fun f => (f.type, f.offset) | _ => []) = [(3, 0), (9, 1), (9, 2), (4, 3), (5, 4)] := by kernel_rfl

theorem Try.s86 : ∃ f0 f1, Try.prog.underlying 86 = some (.struct #[f0, f1]) ∧ f0.type = 9 ∧ f0.offset = 0 ∧ f1.type = 9 ∧ f1.offset = 1 := by
  have h := Try.k86
  generalize Try.prog.underlying 86 = u at h ⊢
  split at h
  · rename_i fs
    obtain ⟨l⟩ := fs
    have hl : l.length = 2 := by simpa using congrArg List.length h
    match l, hl, h with
    | [f0, f1], _, h =>
      simp only [List.map_cons, List.map_nil, List.cons.injEq, Prod.mk.injEq, and_true] at h
      exact ⟨f0, f1, rfl, h.1.1, h.1.2, h.2.1, h.2.2⟩
  · cases h
theorem Try.s60 : ∃ f0 f1 f2 f3 f4, Try.prog.underlying 60 = some (.struct #[f0, f1, f2, f3, f4]) ∧ (f0.type = 3 ∧ f0.offset = 0) ∧ (f1.type = 9 ∧ f1.offset = 1) ∧ (f2.type = 9 ∧ f2.offset = 2) ∧ (f3.type = 4 ∧ f3.offset = 3) ∧ f4.type = 5 ∧ f4.offset = 4 := by
  have h := Try.k60
  generalize Try.prog.underlying 60 = u at h ⊢
  split at h
  · rename_i fs
    obtain ⟨l⟩ := fs
    have hl : l.length = 5 := by simpa using congrArg List.length h
    match l, hl, h with
    | [f0, f1, f2, f3, f4], _, h =>
      simp only [List.map_cons, List.map_nil, List.cons.injEq, Prod.mk.injEq, and_true] at h
      exact ⟨f0, f1, f2, f3, f4, rfl, h.1, h.2.1, h.2.2.1, h.2.2.2.1, h.2.2.2.2⟩
  · cases h

set_option maxRecDepth 100000 in
theorem slice_spot {t e : TypeId} {W : World} {base len cap : Nat} {a : Addr} (ht : Try.prog.underlying t = some (.slice e)) (h : Value.okWide Try.prog W .any base t (.slice (some a) len cap)) : a.spot = none := by
  simp only [Value.okWide, ht, Cell.okWide, Cell.ok] at h
  exact h.2.2.2.1

variable {H : Type} {enc : TypeId × Value → H} {W : World} {base : Nat} {v : Value} {d : DataW H} {p : List MemPlace} {T : Tr}

theorem str_V' (s : ByteArray) : V T (gh0 W) W (.str s.data.toList) (.string s) := str_V _ s

set_option maxRecDepth 100000 in
theorem files_open (hval : Value.okWide Try.prog W .any base 54 v) (h : DataW.Trod enc Try.prog W 0 (fun _ => true) true 54 v d p) : ∃ (fl : List (List UInt8 × List UInt8)) (A : AV), isRow A (fl.map fA) ∧ V T (gh0 W) W A v := by
  obtain ⟨fuel, hf⟩ := h
  obtain ⟨a0, len, cap, rfl⟩ := okWide_slice Try.u54 hval
  rcases open_slice Try.u54 hf with ⟨hcs, _⟩ | ⟨a, len', cap', m, n, D, Pl, hcs, _, hl, _, hm, _, hx⟩
  · simp [Value.cells] at hcs
    obtain ⟨rfl, rfl, rfl⟩ := hcs
    exact ⟨[], .nils, .inr ⟨rfl, rfl⟩, .nils⟩
  · simp [Value.cells] at hcs
    obtain ⟨rfl, rfl, rfl⟩ := hcs
    have hsp := slice_spot Try.u54 hval
    obtain ⟨b, off, sp⟩ := a
    simp only at hsp; subst hsp
    simp only [if_true] at hm
    obtain ⟨f0, f1, hs, t0, o0, t1, o1⟩ := Try.s86
    have each : ∀ i, i < len → ∃ q : (List UInt8 × List UInt8) × List Value, q.2.length = 2 ∧ Vs T (gh0 W) W (fA q.1).cells q.2 ∧ (∀ u ∈ q.2, u.oneCell' = true) ∧ ∀ (j : Nat) (v : Value), q.2[j]? = some v → W.cell? ⟨b, off + i * 2 + j, none⟩ = some v := fun i hi => by
      obtain ⟨cs', h1, h2⟩ := hx i (by omega)
      rw [Try.c86] at h1
      obtain ⟨_, hlen, hcell⟩ := World.cells?_some h1
      obtain ⟨xs, k, hk, hxy, _, hxl, hfd⟩ := DataW.trod_struct hs h2
      match xs, hxl, cs', hlen with
      | [y0, y1], _, [v0, v1], _ =>
        have g0 := hfd 0 f0 rfl
        have g1 := hfd 1 f1 rfl
        simp [t0, o0, t1, o1, Try.c9] at g0 g1
        obtain ⟨s0, e0, _⟩ := DataW.trod_string Try.u9 g0
        obtain ⟨s1, e1, _⟩ := DataW.trod_string Try.u9 g1
        simp only [List.cons.injEq, and_true] at e0 e1
        subst e0; subst e1
        refine ⟨((s0.data.toList, s1.data.toList), [.string s0, .string s1]), rfl, .cons _ _ _ _ (str_V' s0) (.cons _ _ _ _ (str_V' s1) .nil), by simp [Value.oneCell'], fun j v hj => ?_⟩
        have hj2 : j < 2 := (List.getElem?_eq_some_iff.1 hj).1
        have := hcell j hj2
        rw [Addr.add_lit, Addr.add_lit, hj] at this
        exact this
    obtain ⟨q, hq⟩ := choose_lt each
    refine ⟨(List.range len).map fun i => (q i).1, _, .inl rfl, ?_⟩
    rw [List.map_map]
    exact slc_V (by omega) (fun i => (q i).2) (fA ∘ fun i => (q i).1) len hl fun i hi => hq i hi

instance : Inhabited Ak.Act := ⟨⟨0, [], [], false, 0, by omega⟩⟩

set_option maxRecDepth 100000 in
theorem acts_open (hval : Value.okWide Try.prog W .any base 55 v) (h : DataW.Trod enc Try.prog W 0 (fun _ => true) true 55 v d p) : ∃ (al : List Ak.Act) (A : AV), isRow A (al.map Ak.Act.av) ∧ V T (gh0 W) W A v := by
  obtain ⟨fuel, hf⟩ := h
  obtain ⟨a0, len, cap, rfl⟩ := okWide_slice Try.u55 hval
  rcases open_slice Try.u55 hf with ⟨hcs, _⟩ | ⟨a, len', cap', m, n, D, Pl, hcs, _, hl, _, hm, _, hx⟩
  · simp [Value.cells] at hcs
    obtain ⟨rfl, rfl, rfl⟩ := hcs
    exact ⟨[], .nils, .inr ⟨rfl, rfl⟩, .nils⟩
  · simp [Value.cells] at hcs
    obtain ⟨rfl, rfl, rfl⟩ := hcs
    have hsp := slice_spot Try.u55 hval
    obtain ⟨b, off, sp⟩ := a
    simp only at hsp; subst hsp
    simp only [if_true] at hm
    obtain ⟨f0, f1, f2, f3, f4, hs, ⟨t0, o0⟩, ⟨t1, o1⟩, ⟨t2, o2⟩, ⟨t3, o3⟩, t4, o4⟩ := Try.s60
    have each : ∀ i, i < len → ∃ q : Ak.Act × List Value, q.2.length = 5 ∧ Vs T (gh0 W) W q.1.av.cells q.2 ∧ (∀ u ∈ q.2, u.oneCell' = true) ∧ ∀ (j : Nat) (v : Value), q.2[j]? = some v → W.cell? ⟨b, off + i * 5 + j, none⟩ = some v := fun i hi => by
      obtain ⟨cs', h1, h2⟩ := hx i (by omega)
      rw [Try.c60] at h1
      obtain ⟨_, hlen, hcell⟩ := World.cells?_some h1
      obtain ⟨xs, k, hk, hxy, _, hxl, hfd⟩ := DataW.trod_struct hs h2
      match xs, hxl, cs', hlen with
      | [y0, y1, y2, y3, y4], _, [v0, v1, v2, v3, v4], _ =>
        have g0 := hfd 0 f0 rfl
        have g1 := hfd 1 f1 rfl
        have g2 := hfd 2 f2 rfl
        have g3 := hfd 3 f3 rfl
        have g4 := hfd 4 f4 rfl
        simp [t0, o0, t1, o1, t2, o2, t3, o3, t4, o4, Try.c9, Try.c3, Try.c4, Try.c5] at g0 g1 g2 g3 g4
        obtain ⟨k0, e0, _⟩ := DataW.trod_int Try.u3 g0
        obtain ⟨s1, e1, _⟩ := DataW.trod_string Try.u9 g1
        obtain ⟨s2, e2, _⟩ := DataW.trod_string Try.u9 g2
        obtain ⟨b3, e3, _⟩ := DataW.trod_bool Try.u4 g3
        obtain ⟨n4, e4, _, w4⟩ := DataW.trod_int Try.u5 g4
        simp only [List.cons.injEq, and_true] at e0 e1 e2 e3 e4
        subst e0; subst e1; subst e2; subst e3; subst e4
        have hr : 0 ≤ n4 ∧ n4 < 256 := by
          simp [Lit.wf, IntKind.min, IntKind.max, IntKind.bits, IntKind.signed] at w4
          omega
        obtain ⟨k4, rfl⟩ : ∃ k : Nat, n4 = k := ⟨n4.toNat, by omega⟩
        refine ⟨(⟨k0, s1.data.toList, s2.data.toList, b3, k4, by omega⟩, [.int .i64 k0, .string s1, .string s2, .bool b3, .int .u8 k4]), rfl,
          .cons _ _ _ _ (.int _ _) (.cons _ _ _ _ (str_V' s1) (.cons _ _ _ _ (str_V' s2) (.cons _ _ _ _ (.bool _) (.cons _ _ _ _ (.int _ _) .nil)))), by simp [Value.oneCell'], fun j v hj => ?_⟩
        have hj5 : j < 5 := (List.getElem?_eq_some_iff.1 hj).1
        have := hcell j hj5
        rw [Addr.add_lit, Addr.add_lit, hj] at this
        exact this
    obtain ⟨q, hq⟩ := choose_lt each
    refine ⟨(List.range len).map fun i => (q i).1, _, .inl rfl, ?_⟩
    rw [List.map_map]
    exact slc_V (by omega) (fun i => (q i).2) (Ak.Act.av ∘ fun i => (q i).1) len hl fun i hi => hq i hi

theorem Try.own : ownKnob Try.prog.godebug = none := by kernel_rfl
theorem Try.laidOut : laidOutB Try.prog = true := by kernel_rfl
theorem Try.mixed : (trTry fun _ => none).P.follows .mixedOrders = true := by kernel_rfl

theorem apart_any {W : World} {v0 v1 : Value} {c : ByteArray} {fl : List (List UInt8 × List UInt8)} {al : List Ak.Act} {A B : AV} (hA : isRow A (fl.map fA)) (hB : isRow B (al.map Ak.Act.av)) (h0 : V (trTry fun _ => none) (gh0 W) W A v0) (h1 : V (trTry fun _ => none) (gh0 W) W B v1) :
    Calls Try.prog 8 #[v0, v1, .string c] W fun e w' => e = .returned (.bool true) ∧ Below W.heap.size W w' := by
  obtain ⟨H', hr⟩ := apart_run (name := c.data.toList) hA hB
  obtain ⟨n, hn⟩ := (Rn_iff SA.mono).1 hr
  exact run_calls_bool (T := trTry fun _ => none) (w := W) (fun _ _ h => by cases h) Try.mixed (fsOKTry _) spA_ok hn (.cons _ _ _ _ h0 (.cons _ _ _ _ h1 (.cons _ _ _ _ (str_V _ c) .nil)))

set_option maxRecDepth 100000 in
theorem streamsApart_lifted (os : Os) (started : os.Started) (H : Type) (enc : TypeId × Value → H) :
    ReturnsInHanded {} Try.checked os 8 .any (Rows.streamsApartSpec.pre6 enc Try.prog Try.f8 Rows.streamsApartRow.domain false) (Rows.streamsApartSpec.post enc Try.prog Try.f8 false true false false) := by
  refine returnsInHanded_of_change (C := Try.checked) Try.own started (by kernel_rfl) Try.func8
    (ChangeSpec.witness6 (enc := enc) (C := Try.checked) false ⟨#[], #[.slice none 0 0, .slice none 0 0, .string ⟨#[]⟩], []⟩ 8 (by kernel_rfl) (by kernel_rfl) (by kernel_rfl) (by kernel_rfl)) ?_
  intro W base args ds gs before hval0 hW hcnd _
  have hval : ∀ (j : Nat) t v, Try.f8.params[j]? = some t → args[j]? = some v → Value.okWide Try.prog W .any base t v := hval0
  have hW' := hW
  obtain ⟨p, q, hA0, hV, rfl, hfz, hnd⟩ := hW
  have hA : DataW.TrodAll enc Try.prog W 0 (fun _ => true) true Try.f8.params.toList args.toList ds p := hA0
  rw [Try.params8] at hA hval
  obtain ⟨v0, v1, v2, d0, d1, d2, p0, p1, p2, rfl, rfl, rfl, h0, h1, h2⟩ := trodAll_three hA
  obtain ⟨rfl, rfl⟩ := trodVars_none hV
  obtain ⟨fl, A, hA1, hA2⟩ := files_open (T := trTry fun _ => none) (hval 0 54 v0 rfl rfl) h0
  obtain ⟨al, B, hB1, hB2⟩ := acts_open (T := trTry fun _ => none) (hval 1 55 v1 rfl rfl) h1
  obtain ⟨c, rfl, rfl, rfl, wc⟩ := open_string Try.u9 (hval 2 9 v2 rfl rfl) h2
  clear hA0 hval0
  simp only [List.append_nil] at hW'
  have hlt : ∀ x ∈ p0 ++ p1, x.block < W.heap.size := fun x hx => by simpa using hW'.lt x hx
  refine (apart_any hA1 hB1 hA2 hB2).mono fun e W' ⟨he, hw⟩ => ?_
  subst he
  refine ⟨_, rfl, post_of_below (pa := p0 ++ (p1 ++ [])) (pv := []) hW' (fun _ _ _ => trodAll_mk1 (shut_bool Try.u4 true)) (fun sp hsp => trodAll_mk3
      (WideElems.Trod_stays Try.laidOut (by kernel_rfl) (of_decide_eq_true (by kernel_rfl)) h0 (fun x hx => hw.same (hlt x (by simp [hx]))) (fun x hx => hsp x (by simp [hx])))
      (WideElems.Trod_stays Try.laidOut (by kernel_rfl) (of_decide_eq_true (by kernel_rfl)) h1 (fun x hx => hw.same (hlt x (by simp [hx]))) (fun x hx => hsp x (by simp [hx])))
      (shut_string Try.u9 wc)) (fun _ _ => rfl) (by simp)
    hw (ok_one (by kernel_rfl) rfl (okWide_bool_mk Try.u4 true))⟩

theorem streamsApart_said : Rows.StreamsApartSaid :=
  OpenClaim.holds_of_wide 8 Try.f8 rfl rfl rfl rfl rfl rfl rfl ⟨rfl, rfl, rfl, rfl, rfl⟩ rfl rfl rfl rfl rfl (by kernel_rfl) Try.func8 (by kernel_rfl)
    (of_decide_eq_true (by kernel_rfl)) (by unfold Func.isWrapper; rw [if_neg (by decide +kernel)]; exact ⟨rfl, rfl⟩)
    (fun os started H enc _ => streamsApart_lifted os started H enc)

end Go.Proofs.Ytfcgnpphabplbaa

