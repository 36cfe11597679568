/- What the functions of streams compute: new streams, Print, Write; the law's loops; that the law answers true. -/
import Derived.Test.YtfcgnpphabplbaaJh
set_option linter.unusedVariables false
set_option linter.unusedSimpArgs false

namespace Go.Ak
attribute [local simp] evI_skip Wp_skip Wp_exit Wp_ret Wp_some Ws_some andThen_norm andThen_ret andThen_exit andThen_pan outOf_norm outOf_ret outOf_pan outOf_exit fin_norm fin_ret fin_pan thaw_ret thaw_pan
  evSteps stepE wanted evOp opd opdL live look_mkE upd_mkE look_cons ver_cons st_at put slotty esc escs arg1 args drop1 nbeq nble nblt binA binI rd wr cellsN sub AV.cells pack one setCells resOf resV resAll roOf evPlan sameR beqE_refl beqH_refl fillA fillS newRow newObj step hdOk_nil hdOk_cons contents take flat look lim natOf bound sliceA remake eqS eqL eqA ver
  frz_bool frz_int frz_str frz_nils frz_nilp
  List.getElem?_cons_zero List.getElem?_cons_succ hget_eq hget_new hget_cons_zero hget_cons_succ hget_nil
attribute [-simp] getElem?_pos

theorem hget_behind (K l : Heap) (n j : Nat) (h : n = K.length + j) : hget (K ++ l) n = hget l j := by
  subst h
  simp only [hget]
  rw [List.getElem?_append_right (by omega)]
  congr 1; omega

/-- What may be read: each name once. -/
def addF (acc : List Src) (f : List UInt8 × List UInt8) : List Src := if ixN f.1 (acc.map Src.nm) 0 = -1 then acc ++ [⟨f.1, f.2, 0⟩] else acc

/-- Streams that are new, in the heap behind 'n0'. -/
structure NI (H0 H : Heap) (p : Nat) (fs : AV) (qs : List Nat) (acc : List Src) : Prop where
  ptr : ∃ m, hget H p = some (some [.ptr m 0, fs, .nilp, .nils, .str [], .nils, num 0])
  fr : FR H fs qs acc
  pge : H0.length ≤ p
  pq : p ∉ qs
  qge : ∀ q ∈ qs, H0.length ≤ q
  rge : ∀ r, fs = .msl 1 r 0 qs.length → H0.length ≤ r ∧ r ≠ p
  le : H0.length ≤ H.length
  old : ∀ i, i < H0.length → hget H i = hget H0 i

theorem NI.app {H0 H : Heap} {p : Nat} {fs : AV} {qs : List Nat} {acc : List Src} (h : NI H0 H p fs qs acc) (l : Heap) : NI H0 (H ++ l) p fs qs acc where
  ptr := by obtain ⟨m, e⟩ := h.ptr; exact ⟨m, (hget_app _ (hget_lt e)).trans e⟩
  fr := h.fr.stay (fun q hq => hget_app _ (h.fr.lt.1 q hq)) (fun r e => hget_app _ (h.fr.lt.2 r e))
  pge := h.pge
  pq := h.pq
  qge := h.qge
  rge := h.rge
  le := by have := h.le; simp; omega
  old i hi := (hget_app _ (by have := h.le; omega)).trans (h.old i hi)

theorem NI.add {H0 H H' : Heap} {p m : Nat} {fs : AV} {qs : List Nat} {acc : List Src} {f : Src} (h : NI H0 H p fs qs acc) (hl : H.length + 2 < H'.length) (h1 : hget H' p = some (some [.ptr m 0, .msl 1 (H.length + 2) 0 (qs.length + 1), .nilp, .nils, .str [], .nils, num 0]))
    (h2 : hget H' (H.length + 1) = some (some f.cells)) (h3 : hget H' (H.length + 2) = some (some (qs.map (fun q => AV.ptr q 0) ++ [.ptr (H.length + 1) 0]))) (h4 : ∀ i, i < H.length → i ≠ p → (∀ r, fs = .msl 1 r 0 qs.length → i ≠ r) → hget H' i = hget H i)
    (hq : qs.length + 1 ≤ 1000) (hf : f.s.length ≤ 1000000) : NI H0 H' p (.msl 1 (H.length + 2) 0 (qs.length + 1)) (qs ++ [H.length + 1]) (acc ++ [f]) where
  ptr := ⟨m, h1⟩
  fr := by
    obtain ⟨l1, l2⟩ := h.fr.lt
    refine ⟨by simp [h.fr.len], by simpa using hq, .inr ⟨H.length + 2, by simp, by simpa using h3, fun hm => ?_⟩, fun i q g a b => ?_, ?_, fun g hg => ?_⟩
    · rcases List.mem_append.1 hm with hm | hm
      · have := l1 _ hm; omega
      · simp at hm
    · by_cases hi : i < qs.length
      · rw [List.getElem?_append_left hi] at a
        rw [List.getElem?_append_left (by rw [h.fr.len]; exact hi)] at b
        have hm := List.mem_of_getElem? a
        rw [h4 q (l1 q hm) (fun e => h.pq (by rw [← e]; exact hm)) (fun r e e' => ?_)]
        · exact h.fr.cells i q g a b
        · subst e'
          rcases h.fr.row with ⟨_, k⟩ | ⟨r', k1, _, k3⟩
          · rw [k] at e; cases e
          · rw [k1] at e; cases e; exact k3 hm
      · rw [List.getElem?_append_right (by omega)] at a
        rw [List.getElem?_append_right (by rw [h.fr.len]; omega), h.fr.len] at b
        have hi0 : i - qs.length = 0 := by
          have := (List.getElem?_eq_some_iff.1 a).1
          simp at this; omega
        rw [hi0] at a b
        simp at a b
        subst a; subst b
        exact h2
    · rw [List.nodup_append]
      refine ⟨h.fr.nodup, by simp, fun a ha b hb => ?_⟩
      simp at hb
      subst hb
      have := l1 a ha; omega
    · rcases List.mem_append.1 hg with hg | hg
      · exact h.fr.short g hg
      · simp at hg; subst hg; exact hf
  pge := h.pge
  pq hm := by
    rcases List.mem_append.1 hm with hm | hm
    · exact h.pq hm
    · obtain ⟨m', e⟩ := h.ptr
      have := hget_lt e
      simp at hm; omega
  qge q hq := by
    rcases List.mem_append.1 hq with hq | hq
    · exact h.qge q hq
    · have := h.le; simp at hq; omega
  rge r e := by
    simp only [AV.msl.injEq] at e
    obtain ⟨m', e'⟩ := h.ptr
    have := hget_lt e'
    have := h.le
    omega
  le := by have := h.le; omega
  old i hi := by
    have hle := h.le
    have hp := h.pge
    rw [h4 i (by omega) (by omega) (fun r e => by have := (h.rge r e).1; omega)]
    exact h.old i hi

theorem new_loop {H0 : Heap} {fl : List (List UInt8 × List UInt8)} (hfl : fl.length ≤ 900) (hsh : ∀ f ∈ fl, f.2.length ≤ 1000000) {p : Nat} : ∀ (n i : Nat) (v : Nat → AV) (H : Heap) (fs : AV) (qs : List Nat), i + n = fl.length → NI H0 H p fs qs ((fl.take i).foldl addF []) → qs.length ≤ i →
    v 5 = .tptr 2 7 p 0 → v 13 = .slc .ro (fl.map fA) → v 14 = num fl.length → v 15 = num i →
      Wp (evI fsT SA.sp 0 (.loop a26l8) (mkE 8511667 v, H)) (fun e t => e = .exit 0 ∧ ∃ v' H' fs' qs', t = (mkE 8511667 v', H') ∧ v' 5 = .tptr 2 7 p 0 ∧ NI H0 H' p fs' qs' (fl.foldl addF [])) := by
  have hs := SA.mono
  intro n
  induction n with
  | zero =>
    intro i v H fs qs hi hN hq v5 v13 v14 v15
    have hi' : i = fl.length := by omega
    subst hi'
    rw [List.take_length] at hN
    rw [Wp_round hs a26l8.eq_1]
    simp [Wp_seq hs, Wp_region hs, Wp_block hs, Wp_cond hs, a26r3, v14, v15]
    exact ⟨_, _, ⟨rfl, rfl⟩, by simpa using v5, _, _, hN⟩
  | succ n ih =>
    intro i v H fs qs hi hN hq v5 v13 v14 v15
    have hlt : i < fl.length := by omega
    have hlI : (i : Int) < (fl.length : Int) := by omega
    have e1 : fl[i]? = some fl[i] := List.getElem?_eq_getElem hlt
    have e2 : (fl.map fA)[i]? = some (.agg [.str fl[i].1, .str fl[i].2]) := by rw [List.getElem?_map, e1]; rfl
    have htk : (fl.take (i + 1)).foldl addF [] = addF ((fl.take i).foldl addF []) fl[i] := by rw [List.take_add_one, e1, List.foldl_append]; rfl
    have hw : IntKind.i64.wrap ((i : Int) + 1) = ((i + 1 : Nat) : Int) := by rw [i64_id _ (by omega)]; omega
    have hfs := hsh _ (List.mem_of_getElem? e1)
    generalize fl[i] = f at e2 htk hfs
    obtain ⟨nm, s⟩ := f
    generalize hacc : (fl.take i).foldl addF [] = acc at hN htk
    obtain ⟨m, hp⟩ := hN.ptr
    have hpl := hget_lt hp
    simp only [addF] at htk
    rw [Wp_round hs a26l8.eq_1]
    rcases ixN_at nm (acc.map Src.nm) 0 with hx | ⟨k, hk, hx⟩
    · rw [if_pos hx] at htk
      have hfile := file_none hp hN.fr.row78 hx
      have hnew := fun H' h1 h2 h3 h4 h5 => NI.add (H' := H') (m := m) (f := ⟨nm, s, 0⟩) hN h1 h2 h3 h4 h5 (by omega) hfs
      have hgo : ∀ (v' : Nat → AV) (H' : Heap) (fs' : AV) (qs' : List Nat), NI H0 H' p fs' qs' (acc ++ [⟨nm, s, 0⟩]) → qs'.length ≤ i + 1 → v' 5 = .tptr 2 7 p 0 → v' 13 = .slc .ro (fl.map fA) → v' 14 = num fl.length → v' 15 = num (i + 1) →
          Wp (evI fsT SA.sp 0 (.loop a26l8) (mkE 8511667 v', H')) (fun e t => e = .exit 0 ∧ ∃ v' H' fs' qs', t = (mkE 8511667 v', H') ∧ v' 5 = .tptr 2 7 p 0 ∧ NI H0 H' p fs' qs' (fl.foldl addF [])) :=
        fun v' H' fs' qs' hN' hq' g5 g13 g14 g15 => ih (i + 1) v' H' fs' qs' (by omega) (by rw [htk]; exact hN') hq' g5 g13 g14 g15
      rcases hN.fr.row with ⟨rfl, rfl⟩ | ⟨r, rfl, hr, hrq⟩
      · simp [Wp_seq hs, Wp_region hs, Wp_draw hs, Wp_block hs, Wp_cond hs, a26, a26r0, a26r1, a26r2, a26r3, a26r4, a26r5, a26p6, a26r7, a26r9, v5, v13, v14, v15, hlI, e2, hfile, hw, hget_app, hpl, hp]
        refine (hgo _ _ (.msl 1 (H.length + 2) 0 1) [H.length + 1] (hnew _ ?_ ?_ ?_ ?_ ?_) (by simp) ?_ ?_ ?_ ?_).mono fun e t h => by simpa using h
        · simp
        · rw [hget_app _ (by simpa using hpl), hget_set_self _ hpl]; rfl
        · rw [hget_behind _ _ _ 1 (by simp)]; rfl
        · rw [hget_behind _ _ _ 2 (by simp)]; rfl
        · intro j hj hjp _
          rw [hget_app _ (by simpa using hj), hget_set_ne _ (Ne.symm hjp)]
        · simp [v5]
        · simp [v13]
        · simp [v14]
        · simp [hw]
      · have hrl := hget_lt hr
        have hpr : p ≠ r := Ne.symm (hN.rge r rfl).2
        have hrp : r ≠ p := (hN.rge r rfl).2
        have hk4 : qs.length + 1 ≤ 4294967296 := by omega
        have htkq : List.take qs.length (qs.map fun q => AV.ptr q 0) = qs.map fun q => AV.ptr q 0 := List.take_of_length_le (by simp)
        simp [Wp_seq hs, Wp_region hs, Wp_draw hs, Wp_block hs, Wp_cond hs, a26, a26r0, a26r1, a26r2, a26r3, a26r4, a26r5, a26p6, a26r7, a26r9, v5, v13, v14, v15, hlI, e2, hfile, hw, hget_app, hpl, hp, hrl, hr, hk4, htkq, hget_set_ne, hpr, hrp]
        refine (hgo _ _ (.msl 1 (H.length + 2) 0 (qs.length + 1)) (qs ++ [H.length + 1]) (hnew _ ?_ ?_ ?_ ?_ ?_) (by simp; omega) ?_ ?_ ?_ ?_).mono fun e t h => by simpa using h
        · simp
        · rw [hget_app _ (by simpa using hpl), hget_set_self _ (by simpa using hpl)]
        · rw [hget_behind _ _ _ 1 (by simp)]; rfl
        · rw [hget_behind _ _ _ 2 (by simp)]; rfl
        · intro j hj hjp hjr
          rw [hget_app _ (by simpa using hj), hget_set_ne _ (Ne.symm hjp), hget_set_ne _ (Ne.symm (hjr r rfl))]
        · simp [v5]
        · simp [v13]
        · simp [v14]
        · simp [hw]
    · rw [Nat.zero_add] at hx
      have hne : ¬ ((k : Int) = -1) := by omega
      rw [hx, if_neg hne] at htk
      simp only [List.length_map] at hk
      have hkq : k < qs.length := by rw [← hN.fr.len]; exact hk
      have hfile := file_some hp hN.fr.row78 hx (List.getElem?_eq_getElem hkq)
      simp [Wp_seq hs, Wp_region hs, Wp_block hs, Wp_cond hs, a26, a26r0, a26r1, a26r2, a26r3, a26r4, a26r5, a26p6, a26r7, a26r9, v5, v13, v14, v15, hlI, e2, hfile, hw]
      refine (ih (i + 1) _ _ fs qs (by omega) (by rw [htk]; exact hN.app _) (by omega) ?_ ?_ ?_ ?_).mono fun e t h => by simpa using h
      · simp [v5]
      · simp [v13]
      · simp [v14]
      · simp [hw]

theorem new_run {H : Heap} {main : List UInt8} {fl : List (List UInt8 × List UInt8)} (hfl : fl.length ≤ 900) (hsh : ∀ f ∈ fl, f.2.length ≤ 1000000) :
    ∃ H' p fs qs, Rn fsT SA.sp 0 26 [.str main, .slc .ro (fl.map fA)] H = some (.ret (.tptr 2 7 p 0), H') ∧ NI H H' p fs qs (fl.foldl addF []) := by
  have hs := SA.mono
  have h0 : NI H (H ++ [some [.str [], .str main, num 0]] ++ [some [.ptr H.length 0, .nils, .nilp, .nils, .str [], .nils, num 0]]) (H.length + 1) .nils [] [] := by
    refine ⟨⟨H.length, hget_new' _ _ _ (by simp)⟩, ⟨rfl, by simp, .inl ⟨rfl, rfl⟩, fun i q f h => by simp at h, by simp, by simp⟩, by omega, by simp, by simp, fun r e => by simp at e, by simp, fun i hi => ?_⟩
    rw [hget_app _ (by simp; omega), hget_app _ hi]
  have key : Wc (Rn fsT SA.sp 0 26 [.str main, .slc .ro (fl.map fA)] H) (fun o H' => ∃ p fs qs, o = .ret (.tptr 2 7 p 0) ∧ NI H H' p fs qs (fl.foldl addF [])) := by
    refine Wc_heap hs fsT_26 rfl rfl ?_
    rw [env26]
    simp [a26, a26r0, a26r1, a26r2, Wp_seq hs, Wp_region hs, Wp_block hs]
    refine (new_loop (H0 := H) hfl hsh (p := H.length + 1) fl.length 0 _ _ .nils [] (by omega) (by simp only [List.append_assoc, List.cons_append, List.nil_append] at h0; exact h0) (by simp) (by simp) (by simp) (by simp) (by simp)).mono fun e t ht => ?_
    obtain ⟨rfl, v', H', fs', qs', rfl, v5, hN⟩ := ht
    simp [a26r9, Wp_seq hs, Wp_region hs, v5]
    exact ⟨_, _, hN⟩
  obtain ⟨o, H', h1, p, fs, qs, rfl, h2⟩ := key
  exact ⟨H', p, fs, qs, h1, h2⟩

end Go.Ak

namespace Go.Ak
attribute [local simp] evI_skip Wp_skip Wp_exit Wp_ret Wp_some Ws_some andThen_norm andThen_ret andThen_exit andThen_pan outOf_norm outOf_ret outOf_pan outOf_exit fin_norm fin_ret fin_pan thaw_ret thaw_pan
  evSteps stepE wanted evOp opd opdL live look_mkE upd_mkE look_cons ver_cons st_at put slotty esc escs arg1 args drop1 nbeq nble nblt binA binI rd wr cellsN sub AV.cells pack one setCells resOf resV resAll roOf evPlan sameR beqE_refl beqH_refl fillA fillS newRow newObj step hdOk_nil hdOk_cons contents take flat look lim natOf bound sliceA remake eqS eqL eqA ver
  frz_bool frz_int frz_str frz_nils frz_nilp
  List.getElem?_cons_zero List.getElem?_cons_succ hget_eq hget_new hget_cons_zero hget_cons_succ hget_nil
attribute [-simp] getElem?_pos

/-- Sinks, in the heap. Whose an object is: 0: not the writer's; 1: the streams; 2: the sinks' row; 3: a sink; 10 + q: the bytes of the builder at q. -/
def Sk (H : Heap) (own : Nat → Nat) (size : Nat) (sk : AV) : Prop := ∃ qs nms, Row53 H sk qs nms ∧ qs.length ≤ 8 ∧ (∀ r, sk = .msl 1 r 0 qs.length → own r = 2) ∧
  ∀ (i q : Nat) (nm : List UInt8), qs[i]? = some q → nms[i]? = some nm → own q = 3 ∧ ∃ b0 b1, hget H q = some (some [b0, b1, .str nm]) ∧ Bd H own (.tptr 3 3 q 0) (10 + q) size b0 b1

/-- Streams that are written to, in the heap. -/
structure WS (H : Heap) (own : Nat → Nat) (p : Nat) (m fs : AV) (fq : List Nat) (fl : List Src) (size : Nat) : Prop where
  le : size ≤ 65536
  me : own p = 1
  ptr : ∃ b0 b1 sk, hget H p = some (some [m, fs, b0, b1, .str [], sk, num size]) ∧ Bd H own (.tptr 2 7 p 2) (10 + p) size b0 b1 ∧ Sk H own size sk
  fr : FR H fs fq fl
  fo : ∀ q ∈ fq, own q = 0
  ro : ∀ r, fs = .msl 1 r 0 fq.length → own r = 0

/-- What stays. -/
structure Kp (H : Heap) (own : Nat → Nat) (H' : Heap) (own' : Nat → Nat) : Prop where
  len : H.length ≤ H'.length
  whose : ∀ i, i < H.length → own' i = own i
  old : ∀ i, i < H.length → own i = 0 → hget H' i = hget H i

theorem Kp.refl (H : Heap) (own : Nat → Nat) : Kp H own H own := ⟨Nat.le_refl _, fun _ _ => rfl, fun _ _ _ => rfl⟩

theorem Kp.trans {H H' H'' : Heap} {own own' own'' : Nat → Nat} (h : Kp H own H' own') (k : Kp H' own' H'' own'') : Kp H own H'' own'' where
  len := Nat.le_trans h.len k.len
  whose i hi := (k.whose i (Nat.lt_of_lt_of_le hi h.len)).trans (h.whose i hi)
  old i hi ho := (k.old i (Nat.lt_of_lt_of_le hi h.len) ((h.whose i hi).trans ho)).trans (h.old i hi ho)

theorem Bd.mono {H H' : Heap} {own own' : Nat → Nat} {me b0 b1 : AV} {tag size size' : Nat} (h : Bd H own me tag size b0 b1) (ho : ∀ i, i < H.length → own' i = own i) (hk : ∀ i, i < H.length → own i = tag → hget H' i = hget H i) (hs : size ≤ size') : Bd H' own' me tag size' b0 b1 := by
  obtain ⟨h1, h2⟩ := h
  refine ⟨h1, ?_⟩
  rcases h2 with h2 | ⟨r, n, cs, e, hr, a, b, c⟩
  · exact .inl h2
  · exact .inr ⟨r, n, cs, e, by rw [hk r (hget_lt hr) c]; exact hr, a, Nat.le_trans b hs, by rw [ho r (hget_lt hr)]; exact c⟩

theorem Sk.mono {H H' : Heap} {own own' : Nat → Nat} {size size' : Nat} {sk : AV} (h : Sk H own size sk) (ho : ∀ i, i < H.length → own' i = own i) (hk : ∀ i, i < H.length → (own i = 2 ∨ own i = 3 ∨ ∃ q, q < H.length ∧ own q = 3 ∧ own i = 10 + q) → hget H' i = hget H i) (hs : size ≤ size') : Sk H' own' size' sk := by
  obtain ⟨qs, nms, ⟨r1, r2, r3, r4⟩, h8, hr, hq⟩ := h
  have hcell : ∀ (i q : Nat) (nm : List UInt8), qs[i]? = some q → nms[i]? = some nm → own' q = 3 ∧ ∃ b0 b1, hget H' q = some (some [b0, b1, .str nm]) ∧ Bd H' own' (.tptr 3 3 q 0) (10 + q) size' b0 b1 := fun i q nm a b => by
    obtain ⟨o3, b0, b1, hc, hb⟩ := hq i q nm a b
    have hl := hget_lt hc
    exact ⟨(ho q hl).trans o3, b0, b1, (hk q hl (.inr (.inl o3))).trans hc, hb.mono ho (fun j hj hj' => hk j hj (.inr (.inr ⟨q, hl, o3, hj'⟩))) hs⟩
  refine ⟨qs, nms, ⟨r1, r2, ?_, fun i q nm a b => ?_⟩, h8, fun r e => ?_, hcell⟩
  · rcases r3 with r3 | ⟨r, e, er⟩
    · exact .inl r3
    · exact .inr ⟨r, e, (hk r (hget_lt er) (.inl (hr r e))).trans er⟩
  · obtain ⟨_, b0, b1, hc, _⟩ := hcell i q nm a b
    exact ⟨b0, b1, hc⟩
  · rcases r3 with ⟨_, r3⟩ | ⟨r', e', er⟩
    · rw [r3] at e; cases e
    · rw [e'] at e; cases e
      exact (ho _ (hget_lt er)).trans (hr _ e')

theorem Sk.row {H : Heap} {own : Nat → Nat} {size : Nat} {sk : AV} (h : Sk H own size sk) : sk = .nils ∨ ∃ r n, sk = .msl 1 r 0 n := by
  obtain ⟨qs, nms, ⟨_, _, r3, _⟩, _⟩ := h
  rcases r3 with ⟨_, r3⟩ | ⟨r, e, _⟩
  · exact .inl r3
  · exact .inr ⟨r, _, e⟩

/-- New objects that nobody knows. -/
theorem WS.app {H : Heap} {own : Nat → Nat} {p : Nat} {m fs : AV} {fq : List Nat} {fl : List Src} {size : Nat} (h : WS H own p m fs fq fl size) (l : Heap) : WS (H ++ l) own p m fs fq fl size where
  le := h.le
  me := h.me
  ptr := by
    obtain ⟨b0, b1, sk, e, hb, hk⟩ := h.ptr
    exact ⟨b0, b1, sk, (hget_app _ (hget_lt e)).trans e, hb.mono (fun _ _ => rfl) (fun i hi _ => hget_app _ hi) (Nat.le_refl _), hk.mono (fun _ _ => rfl) (fun i hi _ => hget_app _ hi) (Nat.le_refl _)⟩
  fr := h.fr.stay (fun q hq => hget_app _ (h.fr.lt.1 q hq)) (fun r e => hget_app _ (h.fr.lt.2 r e))
  fo := h.fo
  ro := h.ro

theorem Kp.app (H l : Heap) (own : Nat → Nat) : Kp H own (H ++ l) own := ⟨by simp, fun _ _ => rfl, fun i hi _ => hget_app _ hi⟩

theorem WS.fr_of {H H' : Heap} {own own' : Nat → Nat} {p : Nat} {m fs : AV} {fq : List Nat} {fl : List Src} {size : Nat} (h : WS H own p m fs fq fl size) (k : Kp H own H' own') : FR H' fs fq fl ∧ (∀ q ∈ fq, own' q = 0) ∧ ∀ r, fs = .msl 1 r 0 fq.length → own' r = 0 := by
  obtain ⟨l1, l2⟩ := h.fr.lt
  exact ⟨h.fr.stay (fun q hq => k.old q (l1 q hq) (h.fo q hq)) (fun r e => k.old r (l2 r e) (h.ro r e)), fun q hq => (k.whose q (l1 q hq)).trans (h.fo q hq), fun r e => (k.whose r (l2 r e)).trans (h.ro r e)⟩

/-- What a call that writes comes to. -/
def WPost (H : Heap) (own : Nat → Nat) (p : Nat) (m fs : AV) (fq : List Nat) (fl : List Src) (o : Out) (H' : Heap) : Prop := ∃ e : Int, o = .ret (.int .i64 e) ∧ ∃ own' size', Kp H own H' own' ∧ WS H' own' p m fs fq fl size'

theorem print_run {H : Heap} {own : Nat → Nat} {p : Nat} {m fs : AV} {fq : List Nat} {fl : List Src} {size : Nat} {t : List UInt8} (h : WS H own p m fs fq fl size) :
    Wc (Rn fsT SA.sp 0 28 [.tptr 2 7 p 0, .str t] H) (WPost H own p m fs fq fl) := by
  have hs := SA.mono
  obtain ⟨b0, b1, sk, hp, hb, hk⟩ := h.ptr
  have hpl := hget_lt hp
  refine Wc_heap hs fsT_28 rfl rfl ?_
  rw [env28]
  by_cases hn : t.length ≤ 65536 - size
  · have hroom := room_ok hp h.le hn
    have hp1 : hget (H.set p (some [m, fs, b0, b1, .str [], sk, num (size + t.length)])) p = some (some [m, fs, b0, b1, .str [], sk, num (size + t.length)]) := hget_set_self _ hpl
    have hset : ∀ i, i ≠ p → hget (H.set p (some [m, fs, b0, b1, .str [], sk, num (size + t.length)])) i = hget H i := fun i hi => hget_set_ne _ (Ne.symm hi)
    have hme := h.me
    have hb1 : Bd (H.set p (some [m, fs, b0, b1, .str [], sk, num (size + t.length)])) own (.tptr 2 7 p 2) (10 + p) size b0 b1 := hb.mono (fun _ _ => rfl) (fun i hi ho => hset i (fun e => by subst e; omega)) (Nat.le_refl _)
    obtain ⟨_, H2, hw, rfl, own', x, w1, w2, w3, w4, w5⟩ := outWrite (q := p) hp1 hb1 (by omega) (t := t) (by omega) (by have := h.le; omega)
    have hlen : (H.set p (some [m, fs, b0, b1, .str [], sk, num (size + t.length)])).length = H.length := by simp
    rw [hlen] at w1 w2 w3
    have hk2 : Kp H own H2 own' := ⟨w1, w2, fun i hi ho => by rw [w3 i hi (fun e => by subst e; omega) (by omega)]; exact hset i (fun e => by subst e; omega)⟩
    have hpost : WPost H own p m fs fq fl (.ret (.int .i64 0)) H2 := by
      obtain ⟨f1, f2, f3⟩ := h.fr_of hk2
      refine ⟨0, rfl, own', size + t.length, hk2, ⟨by have := h.le; omega, (w2 p hpl).trans hme, ⟨_, x, sk, w4, w5, hk.mono w2 (fun i hi ho => ?_) (by omega)⟩, f1, f2, f3⟩⟩
      have hip : i ≠ p := fun e => by
        subst e
        rcases ho with ho | ho | ⟨q, _, _, ho⟩ <;> omega
      have hit : own i ≠ 10 + p := fun e => by
        rcases ho with ho | ho | ⟨q, _, hq, ho⟩
        · omega
        · omega
        · have : q = p := by omega
          subst this; omega
      rw [w3 i hi hip hit]
      exact hset i hip
    simp [a28, a28r0, a28r1, a28r2, a28r3, a28r4, Wp_seq hs, Wp_region hs, Wp_cond hs, hroom, hw]
    exact hpost
  · have hroom := room_no hp h.le hn
    simp [a28, a28r0, a28r1, a28r2, a28r3, a28r4, Wp_seq hs, Wp_region hs, Wp_cond hs, hroom]
    exact ⟨8, rfl, own, size, .refl _ _, h⟩

end Go.Ak

namespace Go.Ak
attribute [local simp] evI_skip Wp_skip Wp_exit Wp_ret Wp_some Ws_some andThen_norm andThen_ret andThen_exit andThen_pan outOf_norm outOf_ret outOf_pan outOf_exit fin_norm fin_ret fin_pan thaw_ret thaw_pan
  evSteps stepE wanted evOp opd opdL live look_mkE upd_mkE look_cons ver_cons st_at put slotty esc escs arg1 args drop1 nbeq nble nblt binA binI rd wr cellsN sub AV.cells pack one setCells resOf resV resAll roOf evPlan sameR beqE_refl beqH_refl fillA fillS newRow newObj step hdOk_nil hdOk_cons contents take flat look lim natOf bound sliceA remake eqS eqL eqA ver
  frz_bool frz_int frz_str frz_nils frz_nilp
  List.getElem?_cons_zero List.getElem?_cons_succ hget_eq hget_new hget_cons_zero hget_cons_succ hget_nil
attribute [-simp] getElem?_pos

section
variable {H HF : Heap} {own own' : Nat → Nat} {p : Nat} {m fs : AV} {fq : List Nat} {fl : List Src} {size n : Nat}

/-- A sink added. -/
theorem WS.add (h : WS H own p m fs fq fl size) {b0 b1 sk : AV} (hp : hget H p = some (some [m, fs, b0, b1, .str [], sk, num size])) (hb : Bd H own (.tptr 2 7 p 2) (10 + p) size b0 b1) {qs : List Nat} {nms : List (List UInt8)} (hrow : Row53 H sk qs nms)
    (hsr : ∀ r, sk = .msl 1 r 0 qs.length → own r = 2) (hsq : ∀ (i q : Nat) (nm : List UInt8), qs[i]? = some q → nms[i]? = some nm → own q = 3 ∧ ∃ b0 b1, hget H q = some (some [b0, b1, .str nm]) ∧ Bd H own (.tptr 3 3 q 0) (10 + q) size b0 b1)
    (h7 : qs.length < 8) {name : List UInt8} (hn : size + n ≤ 65536) {R : Nat} {x : AV} (hL : H.length < HF.length) (ho : ∀ i, i < H.length → own' i = own i) (hoL : own' H.length = 3) (hoR : own' R = 2)
    (hold : ∀ i, i < H.length → i ≠ p → (∀ r, sk = .msl 1 r 0 qs.length → i ≠ r) → own i ≠ 10 + H.length → hget HF i = hget H i)
    (hp' : hget HF p = some (some [m, fs, b0, b1, .str [], .msl 1 R 0 (qs.length + 1), num (size + n)])) (hq' : hget HF H.length = some (some [.tptr 3 3 H.length 0, x, .str name]))
    (hb' : Bd HF own' (.tptr 3 3 H.length 0) (10 + H.length) (size + n) (.tptr 3 3 H.length 0) x) (hr' : hget HF R = some (some (qs.map (fun q => AV.tptr 3 3 q 0) ++ [.tptr 3 3 H.length 0]))) :
    Kp H own HF own' ∧ WS HF own' p m fs fq fl (size + n) := by
  have hpl := hget_lt hp
  have hme := h.me
  have old : ∀ i, i < H.length → own i ≠ 1 → own i ≠ 2 → own i ≠ 10 + H.length → hget HF i = hget H i := fun i hi h1 h2 h3 =>
    hold i hi (fun e => h1 (by rw [e]; exact hme)) (fun r e e' => h2 (by rw [e']; exact hsr r e)) h3
  have hk : Kp H own HF own' := ⟨by omega, ho, fun i hi h0 => old i hi (by omega) (by omega) (by omega)⟩
  obtain ⟨f1, f2, f3⟩ := h.fr_of hk
  obtain ⟨r1, r2, r3, r4⟩ := hrow
  have hcell : ∀ (i q : Nat) (nm : List UInt8), (qs ++ [H.length])[i]? = some q → (nms ++ [name])[i]? = some nm → own' q = 3 ∧ ∃ b0 b1, hget HF q = some (some [b0, b1, .str nm]) ∧ Bd HF own' (.tptr 3 3 q 0) (10 + q) (size + n) b0 b1 := fun i q nm a b => by
    by_cases hi : i < qs.length
    · rw [List.getElem?_append_left hi] at a
      rw [List.getElem?_append_left (by omega)] at b
      obtain ⟨o3, c0, c1, hc, hbd⟩ := hsq i q nm a b
      have hl := hget_lt hc
      exact ⟨(ho q hl).trans o3, c0, c1, (old q hl (by omega) (by omega) (by omega)).trans hc, hbd.mono ho (fun j hj hj' => old j hj (by omega) (by omega) (by omega)) (by omega)⟩
    · rw [List.getElem?_append_right (by omega)] at a
      rw [List.getElem?_append_right (by omega), r1] at b
      have hi0 : i - qs.length = 0 := by
        have := (List.getElem?_eq_some_iff.1 a).1
        simp at this; omega
      rw [hi0] at a b
      simp at a b
      subst a; subst b
      exact ⟨hoL, _, _, hq', hb'⟩
  refine ⟨hk, ⟨hn, (ho p hpl).trans hme, ⟨b0, b1, _, hp', hb.mono ho (fun i hi hi' => old i hi (by omega) (by omega) (by omega)) (by omega), qs ++ [H.length], nms ++ [name], ⟨by simp [r1], by simp; omega, .inr ⟨R, by simp, by simpa using hr'⟩, fun i q nm a b => ?_⟩, by simp; omega, fun r e => ?_, hcell⟩, f1, f2, f3⟩⟩
  · obtain ⟨_, c0, c1, hc, _⟩ := hcell i q nm a b
    exact ⟨c0, c1, hc⟩
  · simp only [AV.msl.injEq] at e
    rw [← e.2.1]; exact hoR

/-- A sink written to. -/
theorem WS.sink (h : WS H own p m fs fq fl size) {b0 b1 sk : AV} (hp : hget H p = some (some [m, fs, b0, b1, .str [], sk, num size])) (hb : Bd H own (.tptr 2 7 p 2) (10 + p) size b0 b1) {qs : List Nat} {nms : List (List UInt8)} (hrow : Row53 H sk qs nms) (h8 : qs.length ≤ 8)
    (hsr : ∀ r, sk = .msl 1 r 0 qs.length → own r = 2) (hsq : ∀ (i q : Nat) (nm : List UInt8), qs[i]? = some q → nms[i]? = some nm → own q = 3 ∧ ∃ b0 b1, hget H q = some (some [b0, b1, .str nm]) ∧ Bd H own (.tptr 3 3 q 0) (10 + q) size b0 b1)
    {q k : Nat} {nm : List UInt8} (hq : qs[k]? = some q) (hnm : nms[k]? = some nm) (hn : size + n ≤ 65536)
    (hw : BWrote (H.set p (some [m, fs, b0, b1, .str [], sk, num (size + n)])) own q (10 + q) size n (.tptr 3 3 q 0) (fun x => [.tptr 3 3 q 0, x, .str nm]) HF) :
    ∃ own', Kp H own HF own' ∧ WS HF own' p m fs fq fl (size + n) := by
  obtain ⟨own', x, w1, w2, w3, w4, w5⟩ := hw
  have hlen : (H.set p (some [m, fs, b0, b1, .str [], sk, num (size + n)])).length = H.length := by simp
  rw [hlen] at w1 w2 w3
  have hpl := hget_lt hp
  have hme := h.me
  obtain ⟨oq, _, _, hqc, _⟩ := hsq k q nm hq hnm
  have hql := hget_lt hqc
  have old : ∀ i, i < H.length → i ≠ p → i ≠ q → own i ≠ 10 + q → hget HF i = hget H i := fun i hi h1 h2 h3 => by
    rw [w3 i hi h2 h3, hget_set_ne _ (Ne.symm h1)]
  have hk : Kp H own HF own' := ⟨w1, w2, fun i hi h0 => old i hi (fun e => by subst e; omega) (fun e => by subst e; omega) (by omega)⟩
  obtain ⟨f1, f2, f3⟩ := h.fr_of hk
  obtain ⟨r1, r2, r3, r4⟩ := hrow
  have hcell : ∀ (i q' : Nat) (nm' : List UInt8), qs[i]? = some q' → nms[i]? = some nm' → own' q' = 3 ∧ ∃ b0 b1, hget HF q' = some (some [b0, b1, .str nm']) ∧ Bd HF own' (.tptr 3 3 q' 0) (10 + q') (size + n) b0 b1 := fun i q' nm' a b => by
    obtain ⟨o3, c0, c1, hc, hbd⟩ := hsq i q' nm' a b
    have hl := hget_lt hc
    by_cases e : q' = q
    · subst e
      rw [hqc] at hc
      simp only [Option.some.injEq, List.cons.injEq, AV.str.injEq, and_true] at hc
      obtain ⟨_, _, rfl⟩ := hc
      exact ⟨(w2 _ hl).trans o3, _, _, w4, w5⟩
    · exact ⟨(w2 q' hl).trans o3, c0, c1, (old q' hl (fun e => by subst e; omega) e (by omega)).trans hc, hbd.mono w2 (fun j hj hj' => old j hj (fun e => by subst e; omega) (fun e => by subst e; omega) (by omega)) (by omega)⟩
  have hpF : hget HF p = some (some [m, fs, b0, b1, .str [], sk, num (size + n)]) := by
    rw [w3 p hpl (fun e => by subst e; omega) (by omega), hget_set_self _ hpl]
  refine ⟨own', hk, ⟨hn, (w2 p hpl).trans hme, ⟨b0, b1, sk, hpF, hb.mono w2 (fun i hi hi' => old i hi (fun e => by subst e; omega) (fun e => by subst e; omega) (fun e => ?_)) (by omega), qs, nms, ⟨r1, r2, ?_, fun i q nm a b => ?_⟩, h8, fun r e => ?_, hcell⟩, f1, f2, f3⟩⟩
  · have : p = q := by omega
    subst this; omega
  · rcases r3 with r3 | ⟨r, e, er⟩
    · exact .inl r3
    · have := hsr r e
      exact .inr ⟨r, e, (old r (hget_lt er) (fun e => by subst e; omega) (fun e => by subst e; omega) (by omega)).trans er⟩
  · obtain ⟨_, c0, c1, hc, _⟩ := hcell i q nm a b
    exact ⟨c0, c1, hc⟩
  · rcases r3 with ⟨_, r3⟩ | ⟨r', e', er⟩
    · rw [r3] at e; cases e
    · rw [e'] at e; cases e
      exact (w2 _ (hget_lt er)).trans (hsr _ e')
end

end Go.Ak

namespace Go.Ak
attribute [local simp] evI_skip Wp_skip Wp_exit Wp_ret Wp_some Ws_some andThen_norm andThen_ret andThen_exit andThen_pan outOf_norm outOf_ret outOf_pan outOf_exit fin_norm fin_ret fin_pan thaw_ret thaw_pan
  evSteps stepE wanted evOp opd opdL live look_mkE upd_mkE look_cons ver_cons st_at put slotty esc escs arg1 args drop1 nbeq nble nblt binA binI rd wr cellsN sub AV.cells pack one setCells resOf resV resAll roOf evPlan sameR beqE_refl beqH_refl fillA fillS newRow newObj step hdOk_nil hdOk_cons contents take flat look lim natOf bound sliceA remake eqS eqL eqA ver
  frz_bool frz_int frz_str frz_nils frz_nilp
  List.getElem?_cons_zero List.getElem?_cons_succ hget_eq hget_new hget_cons_zero hget_cons_succ hget_nil
attribute [-simp] getElem?_pos

theorem Row53.app {H : Heap} {sk : AV} {qs : List Nat} {nms : List (List UInt8)} (h : Row53 H sk qs nms) (l : Heap) : Row53 (H ++ l) sk qs nms := by
  obtain ⟨h1, h2, h3, h4⟩ := h
  refine ⟨h1, h2, ?_, fun i q nm a b => ?_⟩
  · rcases h3 with h | ⟨r, a, b⟩
    · exact .inl h
    · exact .inr ⟨r, a, (hget_app _ (hget_lt b)).trans b⟩
  · obtain ⟨x, y, e⟩ := h4 i q nm a b
    exact ⟨x, y, (hget_app _ (hget_lt e)).trans e⟩

section
variable {H : Heap} {own : Nat → Nat} {p : Nat} {m fs : AV} {fq : List Nat} {fl : List Src} {size : Nat}

/-- What a new sink comes to, from the heap behind which it is laid. -/
theorem sink_new (h : WS H own p m fs fq fl size) {b0 b1 sk : AV} (hp : hget H p = some (some [m, fs, b0, b1, .str [], sk, num size])) (hb : Bd H own (.tptr 2 7 p 2) (10 + p) size b0 b1) {qs : List Nat} {nms : List (List UInt8)} (hrow : Row53 H sk qs nms)
    (hsr : ∀ r, sk = .msl 1 r 0 qs.length → own r = 2) (hsq : ∀ (i q : Nat) (nm : List UInt8), qs[i]? = some q → nms[i]? = some nm → own q = 3 ∧ ∃ b0 b1, hget H q = some (some [b0, b1, .str nm]) ∧ Bd H own (.tptr 3 3 q 0) (10 + q) size b0 b1)
    (h7 : qs.length < 8) {name t : List UInt8} (hn : size + t.length ≤ 65536) :
    ∃ H3, Rn fsT SA.sp 0 51 [.tptr 3 3 H.length 0, .str t] (H.set p (some [m, fs, b0, b1, .str [], sk, num (size + t.length)]) ++ [some [.nilp, .nils, .str name]]) = some (.ret (.tup [num t.length, .nili]), H3) ∧
      hget H3 p = some (some [m, fs, b0, b1, .str [], sk, num (size + t.length)]) ∧ p < H3.length ∧
      (sk = .nils → ∀ o : Int, WPost H own p m fs fq fl (.ret (.int .i64 o)) (H3.set p (some [m, fs, b0, b1, .str [], .msl 1 H3.length 0 1, num (size + t.length)]) ++ [some [.tptr 3 3 H.length 0]])) ∧
      (∀ r, sk = .msl 1 r 0 qs.length → hget H3 r = some (some (qs.map fun q => AV.tptr 3 3 q 0)) ∧ r < H3.length ∧ r ≠ p ∧ ∀ o : Int,
        WPost H own p m fs fq fl (.ret (.int .i64 o)) ((H3.set r none).set p (some [m, fs, b0, b1, .str [], .msl 1 H3.length 0 (qs.length + 1), num (size + t.length)]) ++ [some ((qs.map fun q => AV.tptr 3 3 q 0) ++ [.tptr 3 3 H.length 0])])) := by
  have hpl := hget_lt hp
  have hme := h.me
  have hlen : (H.set p (some [m, fs, b0, b1, .str [], sk, num (size + t.length)])).length = H.length := by simp
  have hL : hget (H.set p (some [m, fs, b0, b1, .str [], sk, num (size + t.length)]) ++ [some [.nilp, .nils, .str name]]) H.length = some (some [.nilp, .nils, .str name]) := hget_new' _ _ _ hlen.symm
  obtain ⟨_, H3, hw, rfl, own', x, w1, w2, w3, w4, w5⟩ := sinkWrite (own := fun i => if i = H.length then 3 else own i) (tag := 10 + H.length) (size := size) (t := t) hL ⟨.inl rfl, .inl rfl⟩ (by simp <;> omega) (by omega) (by omega)
  simp only [List.length_append, List.length_set, List.length_cons, List.length_nil] at w1 w2 w3
  have w3' : ∀ i, i < H.length → i ≠ p → own i ≠ 10 + H.length → hget H3 i = hget H i := fun i hi h1 h2 => by
    rw [w3 i (by omega) (by omega) (by rw [if_neg (by omega)]; exact h2), hget_app _ (by simpa using hi), hget_set_ne _ (Ne.symm h1)]
  have w2' : ∀ i, i < H.length → own' i = own i := fun i hi => (w2 i (by omega)).trans (if_neg (by omega))
  have hpF : hget H3 p = some (some [m, fs, b0, b1, .str [], sk, num (size + t.length)]) := by
    rw [w3 p (by omega) (by omega) (by rw [if_neg (by omega)]; omega), hget_app _ (by simpa using hpl), hget_set_self _ hpl]
  have hown : ∀ (R : Nat), H3.length ≤ R → (∀ i, i < H.length → (fun i => if i = R then 2 else own' i) i = own i) ∧ (fun i => if i = R then 2 else own' i) H.length = 3 ∧ (fun i => if i = R then 2 else own' i) R = 2 := fun R hR => by
    refine ⟨fun i hi => ?_, ?_, if_pos rfl⟩
    · show (if i = R then 2 else own' i) = own i
      rw [if_neg (by omega)]; exact w2' i hi
    · show (if H.length = R then 2 else own' H.length) = 3
      rw [if_neg (by omega), w2 _ (by omega), if_pos rfl]
  have hbd : ∀ (HF : Heap) (R : Nat), H3.length ≤ R → (∀ i, i < H3.length → own' i = 10 + H.length → hget HF i = hget H3 i) → Bd HF (fun i => if i = R then 2 else own' i) (.tptr 3 3 H.length 0) (10 + H.length) (size + t.length) (.tptr 3 3 H.length 0) x := fun HF R hR hk =>
    w5.mono (fun i hi => if_neg (by omega)) hk (Nat.le_refl _)
  have hop : own' p = 1 := (w2' p hpl).trans hme
  refine ⟨H3, hw, hpF, by omega, fun e o => ?_, fun r e => ?_⟩
  · have hqs : qs = [] := by
      obtain ⟨_, _, h3, _⟩ := hrow
      rcases h3 with ⟨h3, _⟩ | ⟨r, h3, _⟩
      · exact h3
      · rw [e] at h3; cases h3
    subst hqs
    obtain ⟨a1, a2, a3⟩ := hown H3.length (Nat.le_refl _)
    obtain ⟨z1, z2⟩ := WS.add (HF := H3.set p (some [m, fs, b0, b1, .str [], .msl 1 H3.length 0 1, num (size + t.length)]) ++ [some [.tptr 3 3 H.length 0]]) (n := t.length) (R := H3.length) h hp hb hrow hsr hsq h7 (name := name) hn (by simp; omega) a1 a2 a3
      (fun i hi h1 _ h2 => by rw [hget_app _ (by simp; omega), hget_set_ne _ (Ne.symm h1)]; exact w3' i hi h1 h2)
      (by rw [hget_app _ (by simp; omega), hget_set_self _ (by omega)]; rfl)
      (by rw [hget_app _ (by simp; omega), hget_set_ne _ (by omega)]; exact w4)
      (hbd _ _ (Nat.le_refl _) fun i hi ho => by rw [hget_app _ (by simpa using hi), hget_set_ne _ (fun e => by subst e; omega)])
      (by rw [hget_new' _ _ _ (by simp)]; rfl)
    exact ⟨o, rfl, _, _, z1, z2⟩
  · have hro := hsr r e
    obtain ⟨k1, k2⟩ : hget H r = some (some (qs.map fun q => AV.tptr 3 3 q 0)) ∧ r < H.length := by
      obtain ⟨_, _, h3, _⟩ := hrow
      rcases h3 with ⟨_, h3⟩ | ⟨r', h3, h4⟩
      · rw [h3] at e; cases e
      · rw [h3] at e; cases e; exact ⟨h4, hget_lt h4⟩
    have hrp : r ≠ p := fun e => by subst e; omega
    have hr3 : hget H3 r = some (some (qs.map fun q => AV.tptr 3 3 q 0)) := (w3' r k2 hrp (by omega)).trans k1
    have hor : own' r = 2 := (w2' r k2).trans hro
    refine ⟨hr3, by omega, hrp, fun o => ?_⟩
    obtain ⟨a1, a2, a3⟩ := hown H3.length (Nat.le_refl _)
    obtain ⟨z1, z2⟩ := WS.add (HF := (H3.set r none).set p (some [m, fs, b0, b1, .str [], .msl 1 H3.length 0 (qs.length + 1), num (size + t.length)]) ++ [some ((qs.map fun q => AV.tptr 3 3 q 0) ++ [.tptr 3 3 H.length 0])]) (n := t.length) (R := H3.length) h hp hb hrow hsr hsq h7 (name := name) hn (by simp; omega) a1 a2 a3
      (fun i hi h1 hr h2 => by rw [hget_app _ (by simp; omega), hget_set_ne _ (Ne.symm h1), hget_set_ne _ (Ne.symm (hr r e))]; exact w3' i hi h1 h2)
      (by rw [hget_app _ (by simp; omega), hget_set_self _ (by simp; omega)])
      (by rw [hget_app _ (by simp; omega), hget_set_ne _ (by omega), hget_set_ne _ (by omega)]; exact w4)
      (hbd _ _ (Nat.le_refl _) fun i hi ho => by rw [hget_app _ (by simpa using hi), hget_set_ne _ (fun e => by subst e; omega), hget_set_ne _ (fun e => by subst e; omega)])
      (hget_new' _ _ _ (by simp))
    exact ⟨o, rfl, _, _, z1, z2⟩

theorem write_run (h : WS H own p m fs fq fl size) {name t : List UInt8} {more : Bool} (ht : t.length ≤ 1000000) : Wc (Rn fsT SA.sp 0 29 [.tptr 2 7 p 0, .str name, .str t, .bool more] H) (WPost H own p m fs fq fl) := by
  have hs := SA.mono
  have hA := h.app [some [.str name]]
  obtain ⟨b0, b1, sk, hp, hb, hk⟩ := hA.ptr
  have hp0 : hget H p = some (some [m, fs, b0, b1, .str [], sk, num size]) := by
    obtain ⟨_, _, _, e, _⟩ := h.ptr
    rw [← hp, hget_app _ (hget_lt e)]
  have hpl0 := hget_lt hp0
  have hpl := hget_lt hp
  have hKA := Kp.app H [some [.str name]] own
  have lift : ∀ {o : Out} {H' : Heap}, WPost (H ++ [some [.str name]]) own p m fs fq fl o H' → WPost H own p m fs fq fl o H' := fun ⟨e, h1, own', s', h2, h3⟩ => ⟨e, h1, own', s', hKA.trans h2, h3⟩
  obtain ⟨qs, nms, hrow, h8, hsr, hsq⟩ := hk
  refine Wc_heap hs fsT_29 rfl rfl ?_
  rw [env29]
  by_cases hne : name = []
  · subst hne
    simp [a29, a29r0, a29r1, a29r2, a29r3, a29r4, a29r5, a29r6, a29r7, a29r8, a29r9, a29r10, a29r11, a29r12, a29r13, a29r14, a29r15, a29r16, a29r17, a29r18, a29r19, Wp_seq hs, Wp_region hs, Wp_cond hs, binS_eql, beqS]
    exact lift ⟨1, rfl, own, size, .refl _ _, hA⟩
  · have hne' : beqS name [] = false := by cases name with | nil => exact absurd rfl hne | cons a l => rfl
    have hix := ix53_run (bar := 0) (nid := H.length) (name := name) hrow (hget_new _ _)
    obtain ⟨q1, q2, q3, q4⟩ := hrow
    rcases ixN_at name nms 0 with hx | ⟨k, hkl, hx⟩
    · rw [hx] at hix
      by_cases h7 : qs.length < 8
      · have hB := hA.app [some [.str name]]
        have hlift2 : ∀ {o : Out} {H' : Heap}, WPost (H ++ [some [.str name]] ++ [some [.str name]]) own p m fs fq fl o H' → WPost H own p m fs fq fl o H' := fun ⟨e, h1, own', s', h2, h3⟩ => lift ⟨e, h1, own', s', (Kp.app _ _ own).trans h2, h3⟩
        have lift2 : ∀ {o : Out} {H' : Heap}, WPost (H ++ [some [.str name]] ++ [some [.str name]]) own p m fs fq fl o H' → WPost H own p m fs fq fl o H' := hlift2
        have hpB : hget (H ++ [some [.str name]] ++ [some [.str name]]) p = some (some [m, fs, b0, b1, .str [], sk, num size]) := (hget_app _ hpl).trans hp
        have hbB : Bd (H ++ [some [.str name]] ++ [some [.str name]]) own (.tptr 2 7 p 2) (10 + p) size b0 b1 := hb.mono (fun _ _ => rfl) (fun i hi _ => hget_app _ hi) (Nat.le_refl _)
        have hrowB := Row53.app ⟨q1, q2, q3, q4⟩ [some [.str name]]
        have hsrB := hsr
        have hsqB : ∀ (i q : Nat) (nm : List UInt8), qs[i]? = some q → nms[i]? = some nm → own q = 3 ∧ ∃ b0 b1, hget (H ++ [some [.str name]] ++ [some [.str name]]) q = some (some [b0, b1, .str nm]) ∧ Bd (H ++ [some [.str name]] ++ [some [.str name]]) own (.tptr 3 3 q 0) (10 + q) size b0 b1 := fun i q nm a b => by
          obtain ⟨o3, c0, c1, hc, hbd⟩ := hsq i q nm a b
          exact ⟨o3, c0, c1, (hget_app _ (hget_lt hc)).trans hc, hbd.mono (fun _ _ => rfl) (fun i hi _ => hget_app _ hi) (Nat.le_refl _)⟩
        have hset : ∀ (X : Option (List AV)) (l : Heap), List.set (H ++ l) p X = H.set p X ++ l := fun X l => List.set_append_left _ _ hpl0
        have hnid : ∀ (X : Option (List AV)), hget (H.set p X ++ [some [.str name], some [.str name]]) H.length = some (some [.str name]) := fun X => by rw [hget_behind _ _ _ 0 (by simp)]; rfl
        rcases ixN_at name (fl.map Src.nm) 0 with hy | ⟨j, hjl, hy⟩
        · have hfile := file_none hp hA.fr.row78 hy
          simp only [List.append_assoc, List.cons_append, List.nil_append] at hfile
          cases more
          · by_cases hn : (t).length ≤ 65536 - size
            · have hroom := room_ok hpB h.le hn
              obtain ⟨H3, hw, hp3, hl3, w1, w2⟩ := sink_new hB hpB hbB hrowB hsrB hsqB h7 (name := name) (t := t) (by have := h.le; omega)
              simp only [List.append_assoc, List.cons_append, List.nil_append, List.length_append, List.length_cons, List.length_nil, Nat.zero_add, hset] at hroom hw w1 w2
              rcases q3 with ⟨rfl, rfl⟩ | ⟨r, rfl, hr⟩
              · have w1 := w1 rfl 0
                simp [a29, a29r0, a29r1, a29r2, a29r3, a29r4, a29r5, a29r6, a29r7, a29r8, a29r9, a29r10, a29r11, a29r12, a29r13, a29r14, a29r15, a29r16, a29r17, a29r18, a29r19, Wp_seq hs, Wp_region hs, Wp_cond hs, binS_eql, hne', hget_app, hget_set_self, hget_set_ne, hpl0, hp0, hix, hfile, hroom, hw, hp3, hl3, hnid]
                exact lift2 (by simp only [List.append_assoc, List.cons_append, List.nil_append]; exact w1)
              · obtain ⟨k1, k2, k3, k4⟩ := w2 r rfl
                have k4 := k4 0
                have k3' := Ne.symm k3
                have hk8 : qs.length + 1 ≤ 4294967296 := by omega
                have htk : List.take qs.length (qs.map fun q => AV.tptr 3 3 q 0) = qs.map fun q => AV.tptr 3 3 q 0 := List.take_of_length_le (by simp)
                have h7I : ((qs.length : Int) == 8) = false := by simp; omega
                have h7N : ¬ (qs.length = 8) := by omega
                simp [a29, a29r0, a29r1, a29r2, a29r3, a29r4, a29r5, a29r6, a29r7, a29r8, a29r9, a29r10, a29r11, a29r12, a29r13, a29r14, a29r15, a29r16, a29r17, a29r18, a29r19, Wp_seq hs, Wp_region hs, Wp_cond hs, binS_eql, hne', hget_app, hget_set_self, hget_set_ne, hpl0, hp0, hix, hfile, hroom, hw, hp3, hl3, hnid, k1, k2, k3, k3', hk8, htk, h7I, h7N]
                exact lift2 (by simp only [List.append_assoc, List.cons_append, List.nil_append]; exact k4)
            · have hroom := room_no hpB h.le hn
              simp only [List.append_assoc, List.cons_append, List.nil_append, List.length_append, List.length_cons, List.length_nil, Nat.zero_add, hset] at hroom
              have h7I : ((qs.length : Int) == 8) = false := by simp; omega
              have h7N : ¬ (qs.length = 8) := by omega
              have hp8 : WPost (H ++ [some [.str name]] ++ [some [.str name]]) own p m fs fq fl (.ret (.int .i64 8)) (H ++ [some [.str name]] ++ [some [.str name]]) := ⟨8, rfl, own, size, .refl _ _, hB⟩
              rcases q3 with ⟨rfl, rfl⟩ | ⟨r, rfl, hr⟩
              all_goals
                simp [a29, a29r0, a29r1, a29r2, a29r3, a29r4, a29r5, a29r6, a29r7, a29r8, a29r9, a29r10, a29r11, a29r12, a29r13, a29r14, a29r15, a29r16, a29r17, a29r18, a29r19, Wp_seq hs, Wp_region hs, Wp_cond hs, binS_eql, hne', hget_app, hget_set_self, hget_set_ne, hpl0, hp0, hix, hfile, hroom, h7I, h7N]
                exact lift2 (by simp only [List.append_assoc, List.cons_append, List.nil_append] at hp8 ⊢; exact hp8)
          · by_cases hn : (t).length ≤ 65536 - size
            · have hroom := room_ok hpB h.le hn
              obtain ⟨H3, hw, hp3, hl3, w1, w2⟩ := sink_new hB hpB hbB hrowB hsrB hsqB h7 (name := name) (t := t) (by have := h.le; omega)
              simp only [List.append_assoc, List.cons_append, List.nil_append, List.length_append, List.length_cons, List.length_nil, Nat.zero_add, hset] at hroom hw w1 w2
              rcases q3 with ⟨rfl, rfl⟩ | ⟨r, rfl, hr⟩
              · have w1 := w1 rfl 0
                simp [a29, a29r0, a29r1, a29r2, a29r3, a29r4, a29r5, a29r6, a29r7, a29r8, a29r9, a29r10, a29r11, a29r12, a29r13, a29r14, a29r15, a29r16, a29r17, a29r18, a29r19, Wp_seq hs, Wp_region hs, Wp_cond hs, binS_eql, hne', hget_app, hget_set_self, hget_set_ne, hpl0, hp0, hix, hfile, hroom, hw, hp3, hl3, hnid]
                exact lift2 (by simp only [List.append_assoc, List.cons_append, List.nil_append]; exact w1)
              · obtain ⟨k1, k2, k3, k4⟩ := w2 r rfl
                have k4 := k4 0
                have k3' := Ne.symm k3
                have hk8 : qs.length + 1 ≤ 4294967296 := by omega
                have htk : List.take qs.length (qs.map fun q => AV.tptr 3 3 q 0) = qs.map fun q => AV.tptr 3 3 q 0 := List.take_of_length_le (by simp)
                have h7I : ((qs.length : Int) == 8) = false := by simp; omega
                have h7N : ¬ (qs.length = 8) := by omega
                simp [a29, a29r0, a29r1, a29r2, a29r3, a29r4, a29r5, a29r6, a29r7, a29r8, a29r9, a29r10, a29r11, a29r12, a29r13, a29r14, a29r15, a29r16, a29r17, a29r18, a29r19, Wp_seq hs, Wp_region hs, Wp_cond hs, binS_eql, hne', hget_app, hget_set_self, hget_set_ne, hpl0, hp0, hix, hfile, hroom, hw, hp3, hl3, hnid, k1, k2, k3, k3', hk8, htk, h7I, h7N]
                exact lift2 (by simp only [List.append_assoc, List.cons_append, List.nil_append]; exact k4)
            · have hroom := room_no hpB h.le hn
              simp only [List.append_assoc, List.cons_append, List.nil_append, List.length_append, List.length_cons, List.length_nil, Nat.zero_add, hset] at hroom
              have h7I : ((qs.length : Int) == 8) = false := by simp; omega
              have h7N : ¬ (qs.length = 8) := by omega
              have hp8 : WPost (H ++ [some [.str name]] ++ [some [.str name]]) own p m fs fq fl (.ret (.int .i64 8)) (H ++ [some [.str name]] ++ [some [.str name]]) := ⟨8, rfl, own, size, .refl _ _, hB⟩
              rcases q3 with ⟨rfl, rfl⟩ | ⟨r, rfl, hr⟩
              all_goals
                simp [a29, a29r0, a29r1, a29r2, a29r3, a29r4, a29r5, a29r6, a29r7, a29r8, a29r9, a29r10, a29r11, a29r12, a29r13, a29r14, a29r15, a29r16, a29r17, a29r18, a29r19, Wp_seq hs, Wp_region hs, Wp_cond hs, binS_eql, hne', hget_app, hget_set_self, hget_set_ne, hpl0, hp0, hix, hfile, hroom, h7I, h7N]
                exact lift2 (by simp only [List.append_assoc, List.cons_append, List.nil_append] at hp8 ⊢; exact hp8)
        · rw [Nat.zero_add] at hy
          simp only [List.length_map] at hjl
          have hjq : j < fq.length := by rw [← hA.fr.len]; exact hjl
          have f1 : fl[j]? = some fl[j] := List.getElem?_eq_getElem hjl
          have f2 : fq[j]? = some fq[j] := List.getElem?_eq_getElem hjq
          have hfile := file_some hp hA.fr.row78 hy f2
          have hcell := hB.fr.cells j _ _ f2 f1
          have hsh := hA.fr.short _ (List.mem_of_getElem? f1)
          simp only [List.append_assoc, List.cons_append, List.nil_append, Src.cells] at hfile hcell
          cases more
          · by_cases hn : (t).length ≤ 65536 - size
            · have hroom := room_ok hpB h.le hn
              obtain ⟨H3, hw, hp3, hl3, w1, w2⟩ := sink_new hB hpB hbB hrowB hsrB hsqB h7 (name := name) (t := t) (by have := h.le; omega)
              simp only [List.append_assoc, List.cons_append, List.nil_append, List.length_append, List.length_cons, List.length_nil, Nat.zero_add, hset] at hroom hw w1 w2
              rcases q3 with ⟨rfl, rfl⟩ | ⟨r, rfl, hr⟩
              · have w1 := w1 rfl 0
                simp [a29, a29r0, a29r1, a29r2, a29r3, a29r4, a29r5, a29r6, a29r7, a29r8, a29r9, a29r10, a29r11, a29r12, a29r13, a29r14, a29r15, a29r16, a29r17, a29r18, a29r19, Wp_seq hs, Wp_region hs, Wp_cond hs, binS_eql, hne', hget_app, hget_set_self, hget_set_ne, hpl0, hp0, hix, hfile, hroom, hw, hp3, hl3, hnid]
                exact lift2 (by simp only [List.append_assoc, List.cons_append, List.nil_append]; exact w1)
              · obtain ⟨k1, k2, k3, k4⟩ := w2 r rfl
                have k4 := k4 0
                have k3' := Ne.symm k3
                have hk8 : qs.length + 1 ≤ 4294967296 := by omega
                have htk : List.take qs.length (qs.map fun q => AV.tptr 3 3 q 0) = qs.map fun q => AV.tptr 3 3 q 0 := List.take_of_length_le (by simp)
                have h7I : ((qs.length : Int) == 8) = false := by simp; omega
                have h7N : ¬ (qs.length = 8) := by omega
                simp [a29, a29r0, a29r1, a29r2, a29r3, a29r4, a29r5, a29r6, a29r7, a29r8, a29r9, a29r10, a29r11, a29r12, a29r13, a29r14, a29r15, a29r16, a29r17, a29r18, a29r19, Wp_seq hs, Wp_region hs, Wp_cond hs, binS_eql, hne', hget_app, hget_set_self, hget_set_ne, hpl0, hp0, hix, hfile, hroom, hw, hp3, hl3, hnid, k1, k2, k3, k3', hk8, htk, h7I, h7N]
                exact lift2 (by simp only [List.append_assoc, List.cons_append, List.nil_append]; exact k4)
            · have hroom := room_no hpB h.le hn
              simp only [List.append_assoc, List.cons_append, List.nil_append, List.length_append, List.length_cons, List.length_nil, Nat.zero_add, hset] at hroom
              have h7I : ((qs.length : Int) == 8) = false := by simp; omega
              have h7N : ¬ (qs.length = 8) := by omega
              have hp8 : WPost (H ++ [some [.str name]] ++ [some [.str name]]) own p m fs fq fl (.ret (.int .i64 8)) (H ++ [some [.str name]] ++ [some [.str name]]) := ⟨8, rfl, own, size, .refl _ _, hB⟩
              rcases q3 with ⟨rfl, rfl⟩ | ⟨r, rfl, hr⟩
              all_goals
                simp [a29, a29r0, a29r1, a29r2, a29r3, a29r4, a29r5, a29r6, a29r7, a29r8, a29r9, a29r10, a29r11, a29r12, a29r13, a29r14, a29r15, a29r16, a29r17, a29r18, a29r19, Wp_seq hs, Wp_region hs, Wp_cond hs, binS_eql, hne', hget_app, hget_set_self, hget_set_ne, hpl0, hp0, hix, hfile, hroom, h7I, h7N]
                exact lift2 (by simp only [List.append_assoc, List.cons_append, List.nil_append] at hp8 ⊢; exact hp8)
          · obtain ⟨t2, hadd⟩ : ∃ t2, binS .add fl[j].s t = some (.str t2) := by
              have : fl[j].s.length + t.length ≤ 4611686018427387904 := by omega
              exact ⟨fl[j].s ++ t, by simp [binS, nble, this]⟩
            by_cases hn : (t2).length ≤ 65536 - size
            · have hroom := room_ok hpB h.le hn
              obtain ⟨H3, hw, hp3, hl3, w1, w2⟩ := sink_new hB hpB hbB hrowB hsrB hsqB h7 (name := name) (t := t2) (by have := h.le; omega)
              simp only [List.append_assoc, List.cons_append, List.nil_append, List.length_append, List.length_cons, List.length_nil, Nat.zero_add, hset] at hroom hw w1 w2
              rcases q3 with ⟨rfl, rfl⟩ | ⟨r, rfl, hr⟩
              · have w1 := w1 rfl 0
                simp [a29, a29r0, a29r1, a29r2, a29r3, a29r4, a29r5, a29r6, a29r7, a29r8, a29r9, a29r10, a29r11, a29r12, a29r13, a29r14, a29r15, a29r16, a29r17, a29r18, a29r19, Wp_seq hs, Wp_region hs, Wp_cond hs, binS_eql, hne', hget_app, hget_set_self, hget_set_ne, hpl0, hp0, hix, hfile, hroom, hw, hp3, hl3, hnid, hcell, hadd]
                exact lift2 (by simp only [List.append_assoc, List.cons_append, List.nil_append]; exact w1)
              · obtain ⟨k1, k2, k3, k4⟩ := w2 r rfl
                have k4 := k4 0
                have k3' := Ne.symm k3
                have hk8 : qs.length + 1 ≤ 4294967296 := by omega
                have htk : List.take qs.length (qs.map fun q => AV.tptr 3 3 q 0) = qs.map fun q => AV.tptr 3 3 q 0 := List.take_of_length_le (by simp)
                have h7I : ((qs.length : Int) == 8) = false := by simp; omega
                have h7N : ¬ (qs.length = 8) := by omega
                simp [a29, a29r0, a29r1, a29r2, a29r3, a29r4, a29r5, a29r6, a29r7, a29r8, a29r9, a29r10, a29r11, a29r12, a29r13, a29r14, a29r15, a29r16, a29r17, a29r18, a29r19, Wp_seq hs, Wp_region hs, Wp_cond hs, binS_eql, hne', hget_app, hget_set_self, hget_set_ne, hpl0, hp0, hix, hfile, hroom, hw, hp3, hl3, hnid, k1, k2, k3, k3', hk8, htk, h7I, h7N, hcell, hadd]
                exact lift2 (by simp only [List.append_assoc, List.cons_append, List.nil_append]; exact k4)
            · have hroom := room_no hpB h.le hn
              simp only [List.append_assoc, List.cons_append, List.nil_append, List.length_append, List.length_cons, List.length_nil, Nat.zero_add, hset] at hroom
              have h7I : ((qs.length : Int) == 8) = false := by simp; omega
              have h7N : ¬ (qs.length = 8) := by omega
              have hp8 : WPost (H ++ [some [.str name]] ++ [some [.str name]]) own p m fs fq fl (.ret (.int .i64 8)) (H ++ [some [.str name]] ++ [some [.str name]]) := ⟨8, rfl, own, size, .refl _ _, hB⟩
              rcases q3 with ⟨rfl, rfl⟩ | ⟨r, rfl, hr⟩
              all_goals
                simp [a29, a29r0, a29r1, a29r2, a29r3, a29r4, a29r5, a29r6, a29r7, a29r8, a29r9, a29r10, a29r11, a29r12, a29r13, a29r14, a29r15, a29r16, a29r17, a29r18, a29r19, Wp_seq hs, Wp_region hs, Wp_cond hs, binS_eql, hne', hget_app, hget_set_self, hget_set_ne, hpl0, hp0, hix, hfile, hroom, h7I, h7N, hcell, hadd]
                exact lift2 (by simp only [List.append_assoc, List.cons_append, List.nil_append] at hp8 ⊢; exact hp8)
      · have h88 : qs.length = 8 := by omega
        rcases q3 with ⟨rfl, rfl⟩ | ⟨r, rfl, hr⟩
        · simp at h88
        · rw [h88] at hix
          simp [a29, a29r0, a29r1, a29r2, a29r3, a29r4, a29r5, a29r6, a29r7, a29r8, a29r9, a29r10, a29r11, a29r12, a29r13, a29r14, a29r15, a29r16, a29r17, a29r18, a29r19, Wp_seq hs, Wp_region hs, Wp_cond hs, binS_eql, hne', hget_app, hpl0, hp0, hix, h88]
          exact lift ⟨8, rfl, own, size, .refl _ _, hA⟩
    · rw [Nat.zero_add] at hx
      rw [hx] at hix
      have hkq : k < qs.length := by omega
      have hk0 : (0 : Int) ≤ (k : Int) := by omega
      have e1 : qs[k]? = some qs[k] := List.getElem?_eq_getElem hkq
      have e2 : nms[k]? = some nms[k] := List.getElem?_eq_getElem hkl
      obtain ⟨oq, c0, c1, hc, hbd⟩ := hsq k _ _ e1 e2
      have hql := hget_lt hc
      obtain ⟨m1, m2⟩ := map_at (f := fun q => AV.tptr 3 3 q 0) e1
      simp only [List.length_map] at m1
      rcases q3 with ⟨q3, _⟩ | ⟨r, rfl, hr⟩
      · subst q3; simp at hkq
      · have hrl := hget_lt hr
        have hro := hsr r rfl
        have hme := hA.me
        have hrp : r ≠ p := fun e => by subst e; omega
        have hqp : qs[k] ≠ p := fun e => by rw [e] at oq; omega
        by_cases hn : t.length ≤ 65536 - size
        · have hroom := room_ok hp h.le hn
          have hset : List.set (H ++ [some [AV.str name]]) p (some [m, fs, b0, b1, .str [], .msl 1 r 0 qs.length, num (size + t.length)]) = H.set p (some [m, fs, b0, b1, .str [], .msl 1 r 0 qs.length, num (size + t.length)]) ++ [some [.str name]] := List.set_append_left _ _ hpl0
          have hbd' : Bd (List.set (H ++ [some [AV.str name]]) p (some [m, fs, b0, b1, .str [], .msl 1 r 0 qs.length, num (size + t.length)])) own (.tptr 3 3 qs[k] 0) (10 + qs[k]) size c0 c1 := hbd.mono (fun _ _ => rfl) (fun i hi ho => hget_set_ne _ (fun e => by subst e; omega)) (Nat.le_refl _)
          have hc' : hget (List.set (H ++ [some [AV.str name]]) p (some [m, fs, b0, b1, .str [], .msl 1 r 0 qs.length, num (size + t.length)])) qs[k] = some (some [c0, c1, .str nms[k]]) := by rw [hget_set_ne _ (Ne.symm hqp)]; exact hc
          obtain ⟨_, H2, hw, rfl, hbw⟩ := sinkWrite (t := t) hc' hbd' (by omega) (by omega) (by have := h.le; omega)
          obtain ⟨own', z1, z2⟩ := WS.sink hA hp hb ⟨q1, q2, .inr ⟨r, rfl, hr⟩, q4⟩ h8 hsr hsq e1 e2 (by have := h.le; omega) hbw
          have hpost : WPost H own p m fs fq fl (.ret (.int .i64 0)) H2 := lift ⟨0, rfl, own', _, z1, z2⟩
          rw [hset] at hroom hw
          have hrr : hget (H.set p (some [m, fs, b0, b1, .str [], .msl 1 r 0 qs.length, num (size + t.length)]) ++ [some [.str name]]) r = some (some (qs.map fun q => AV.tptr 3 3 q 0)) := by rw [← hset, hget_set_ne _ (Ne.symm hrp)]; exact hr
          simp [a29, a29r0, a29r1, a29r2, a29r3, a29r4, a29r5, a29r6, a29r7, a29r8, a29r9, a29r10, a29r11, a29r12, a29r13, a29r14, a29r15, a29r16, a29r17, a29r18, a29r19, Wp_seq hs, Wp_region hs, Wp_cond hs, binS_eql, hne', hget_app, hget_set_self, hget_set_ne, hpl0, hp0, hix, hk0, hroom, hrr, hkq, m1, m2, hw]
          exact hpost
        · have hroom := room_no hp h.le hn
          simp [a29, a29r0, a29r1, a29r2, a29r3, a29r4, a29r5, a29r6, a29r7, a29r8, a29r9, a29r10, a29r11, a29r12, a29r13, a29r14, a29r15, a29r16, a29r17, a29r18, a29r19, Wp_seq hs, Wp_region hs, Wp_cond hs, binS_eql, hne', hget_app, hpl0, hp0, hix, hk0, hroom]
          exact lift ⟨8, rfl, own, size, .refl _ _, hA⟩
end

end Go.Ak

namespace Go.Ak
attribute [local simp] evI_skip Wp_skip Wp_exit Wp_ret Wp_some Ws_some andThen_norm andThen_ret andThen_exit andThen_pan outOf_norm outOf_ret outOf_pan outOf_exit fin_norm fin_ret fin_pan thaw_ret thaw_pan
  evSteps stepE wanted evOp opd opdL live look_mkE upd_mkE look_cons ver_cons st_at put slotty esc escs arg1 args drop1 nbeq nble nblt binA binI rd wr cellsN sub AV.cells pack one setCells resOf resV resAll roOf evPlan sameR beqE_refl beqH_refl fillA fillS newRow newObj step hdOk_nil hdOk_cons contents take flat look lim natOf bound sliceA remake eqS eqL eqA ver
  frz_bool frz_int frz_str frz_nils frz_nilp
  List.getElem?_cons_zero List.getElem?_cons_succ hget_eq hget_new hget_cons_zero hget_cons_succ hget_nil
attribute [-simp] getElem?_pos

structure Act where
  k : Int
  nm : List UInt8
  s : List UInt8
  more : Bool
  many : Nat
  small : many < 256

def Act.av (a : Act) : AV := .agg [.int .i64 a.k, .str a.nm, .str a.s, .bool a.more, .int .u8 a.many]

/-- Where streams lie that are read: 'lo' to 'hi'. -/
structure Lies (p : Nat) (fs : AV) (fq : List Nat) (lo hi : Nat) : Prop where
  p1 : lo ≤ p
  p2 : p < hi
  pq : p ∉ fq
  q : ∀ q ∈ fq, lo ≤ q ∧ q < hi
  r : ∀ r, fs = .msl 1 r 0 fq.length → lo ≤ r ∧ r < hi

/-- The streams that are not written to. -/
structure Other (H : Heap) (p m : Nat) (fs : AV) (fq : List Nat) (F : List Src) : Prop where
  ptr : hget H p = some (some [.ptr m 0, fs, .nilp, .nils, .str [], .nils, num 0])
  fr : FR H fs fq F

/-- What holds while the one is written to. -/
structure LI (H : Heap) (p1 m1 : Nat) (fs1 : AV) (fq1 : List Nat) (p2 m2 : Nat) (fs2 : AV) (fq2 : List Nat) (F : List Src) : Prop where
  w : ∃ own size, WS H own p1 (.ptr m1 0) fs1 fq1 F size ∧ own p2 = 0 ∧ (∀ q ∈ fq2, own q = 0) ∧ ∀ r, fs2 = .msl 1 r 0 fq2.length → own r = 0
  o : Other H p2 m2 fs2 fq2 F

theorem LI.after {H H' : Heap} {p1 m1 : Nat} {fs1 : AV} {fq1 : List Nat} {p2 m2 : Nat} {fs2 : AV} {fq2 : List Nat} {F : List Src} {own : Nat → Nat} {o : Out} (ho : Other H p2 m2 fs2 fq2 F) (h0 : own p2 = 0) (hq : ∀ q ∈ fq2, own q = 0) (hr : ∀ r, fs2 = .msl 1 r 0 fq2.length → own r = 0)
    (h : WPost H own p1 (.ptr m1 0) fs1 fq1 F o H') : (∃ e : Int, o = .ret (.int .i64 e)) ∧ LI H' p1 m1 fs1 fq1 p2 m2 fs2 fq2 F := by
  obtain ⟨e, rfl, own', size', k, w⟩ := h
  obtain ⟨l1, l2⟩ := ho.fr.lt
  have hpl := hget_lt ho.ptr
  exact ⟨⟨e, rfl⟩, ⟨own', size', w, (k.whose p2 hpl).trans h0, fun q hm => (k.whose q (l1 q hm)).trans (hq q hm), fun r e => (k.whose r (l2 r e)).trans (hr r e)⟩,
    ⟨(k.old p2 hpl h0).trans ho.ptr, ho.fr.stay (fun q hm => k.old q (l1 q hm) (hq q hm)) (fun r e => k.old r (l2 r e) (hr r e))⟩⟩

theorem acts_loop {p1 m1 : Nat} {fs1 : AV} {fq1 : List Nat} {p2 m2 : Nat} {fs2 : AV} {fq2 : List Nat} {F : List Src} {al : List Act} {name : List UInt8} {A : AV} (hA : isRow A (al.map Act.av)) : ∀ (n i : Nat) (v : Nat → AV) (H : Heap), i + n = min al.length 20 → LI H p1 m1 fs1 fq1 p2 m2 fs2 fq2 F →
    v 1 = A → v 2 = .str name → v 7 = .tptr 2 7 p1 0 → v 8 = .tptr 2 7 p2 0 → v 9 = num i →
      Wp (evI fsT SA.sp 0 (.loop a24l12) (mkE 2596148434103117165345412661510087 v, H)) (fun e t => e = .exit 0 ∧ ∃ v' H', t = (mkE 2596148434103117165345412661510087 v', H') ∧ LI H' p1 m1 fs1 fq1 p2 m2 fs2 fq2 F ∧ v' 2 = .str name ∧ v' 7 = .tptr 2 7 p1 0 ∧ v' 8 = .tptr 2 7 p2 0) := by
  have hs := SA.mono
  intro n
  induction n with
  | zero =>
    intro i v H hi hL v1 v2 v7 v8 v9
    rw [Wp_round hs a24l12.eq_1]
    rcases hA with rfl | ⟨rfl, hl⟩
    · by_cases h6 : i < al.length
      · have hi6 : i = 20 := by omega
        subst hi6
        have h6' : (20 : Int) < (al.length : Int) := by omega
        simp [Wp_seq hs, Wp_region hs, Wp_block hs, Wp_cond hs, a24r6, v1, v9, h6']
        exact ⟨_, _, ⟨rfl, rfl⟩, hL, by simp [v2], by simp [v7], by simp [v8]⟩
      · have h6' : ¬ (i : Int) < (al.length : Int) := by omega
        simp [Wp_seq hs, Wp_region hs, Wp_block hs, Wp_cond hs, a24r6, v1, v9, h6']
        exact ⟨_, _, ⟨rfl, rfl⟩, hL, by simp [v2], by simp [v7], by simp [v8]⟩
    · have hi0 : ¬ ((i : Int) < 0) := by omega
      simp [Wp_seq hs, Wp_region hs, Wp_block hs, Wp_cond hs, a24r6, v1, v9, hi0]
      exact ⟨_, _, ⟨rfl, rfl⟩, hL, by simp [v2], by simp [v7], by simp [v8]⟩
  | succ n ih =>
    intro i v H hi hL v1 v2 v7 v8 v9
    rw [Wp_round hs a24l12.eq_1]
    have hlt : i < al.length := by omega
    have h20 : (i : Int) < 20 := by omega
    have hlI : (i : Int) < (al.length : Int) := by omega
    have hrow : A = .slc .ro (al.map Act.av) := by
      rcases hA with h | ⟨_, h⟩
      · exact h
      · rw [List.map_eq_nil_iff.1 h] at hlt; simp at hlt
    have e1 : al[i]? = some al[i] := List.getElem?_eq_getElem hlt
    have e2 : (al.map Act.av)[i]? = some (.agg [.int .i64 al[i].k, .str al[i].nm, .str al[i].s, .bool al[i].more, .int .u8 al[i].many]) := by rw [List.getElem?_map, e1]; rfl
    have hw : IntKind.i64.wrap ((i : Int) + 1) = ((i + 1 : Nat) : Int) := by rw [i64_id _ (by omega)]; omega
    have v1' := v1
    rw [hrow] at v1'
    generalize al[i] = a at e2
    obtain ⟨k, nm, s, more, many, hm⟩ := a
    simp only at e2
    have hgo : ∀ (v' : Nat → AV) (H' : Heap), LI H' p1 m1 fs1 fq1 p2 m2 fs2 fq2 F → v' 1 = v 1 → v' 2 = v 2 → v' 7 = v 7 → v' 8 = v 8 → v' 9 = num (i + 1) →
        Wp (evI fsT SA.sp 0 (.loop a24l12) (mkE 2596148434103117165345412661510087 v', H')) (fun e t => e = .exit 0 ∧ ∃ v' H', t = (mkE 2596148434103117165345412661510087 v', H') ∧ LI H' p1 m1 fs1 fq1 p2 m2 fs2 fq2 F ∧ v' 2 = .str name ∧ v' 7 = .tptr 2 7 p1 0 ∧ v' 8 = .tptr 2 7 p2 0) :=
      fun v' H' hL' g1 g2 g7 g8 g9 => ih (i + 1) v' H' (by omega) hL' (g1.trans v1) (g2.trans v2) (g7.trans v7) (g8.trans v8) g9
    by_cases h300 : 300 < s.length
    · have h300' : (300 : Int) < (s.length : Int) := by omega
      simp [Wp_seq hs, Wp_region hs, Wp_block hs, Wp_cond hs, a24, a24r0, a24r1, a24r2, a24r3, a24r4, a24r5, a24r6, a24r7, a24r8, a24r9, a24p10, a24r11, a24r13, a24r14, a24r15, a24r16, a24r17, a24r18, a24r19, a24r21, v1', v7, v8, v9, hlI, h20, e2, h300', hw]
      refine (hgo _ _ hL ?_ ?_ ?_ ?_ ?_).mono fun e t h => by simpa using h
      all_goals simp [hw]
    · have h300' : ¬ (300 : Int) < (s.length : Int) := by omega
      have htext := text_run (bar := 0) (H := H) (k := k) (nm := nm) (s := s) (more := more) hm (by omega)
      have htl := dbl_le (many % 13) s (by omega)
      generalize dbl (many % 13) s = t at htext htl
      obtain ⟨own, size, hW, h0, hq, hr⟩ := hL.w
      have h2 : ((2 : Int) == 0) = false := by decide
      by_cases hk : k.tmod 2 = 0
      · obtain ⟨o, H', hc, hp⟩ := print_run (t := t) hW
        obtain ⟨⟨e, rfl⟩, hL'⟩ := LI.after hL.o h0 hq hr hp
        simp [Wp_seq hs, Wp_region hs, Wp_block hs, Wp_cond hs, a24, a24r0, a24r1, a24r2, a24r3, a24r4, a24r5, a24r6, a24r7, a24r8, a24r9, a24p10, a24r11, a24r13, a24r14, a24r15, a24r16, a24r17, a24r18, a24r19, a24r21, v1', v7, v8, v9, hlI, h20, e2, h300', hw, hk, htext, hc]
        refine (hgo _ _ hL' ?_ ?_ ?_ ?_ ?_).mono fun e t h => by simpa using h
        all_goals simp [hw, v7]
      · obtain ⟨o, H', hc, hp⟩ := write_run (name := nm) (t := t) (more := more) hW (by omega)
        obtain ⟨⟨e, rfl⟩, hL'⟩ := LI.after hL.o h0 hq hr hp
        have hkb : (k.tmod 2 == 0) = false := by simpa using hk
        simp [Wp_seq hs, Wp_region hs, Wp_draw hs, Wp_block hs, Wp_cond hs, a24, a24r0, a24r1, a24r2, a24r3, a24r4, a24r5, a24r6, a24r7, a24r8, a24r9, a24p10, a24r11, a24r13, a24r14, a24r15, a24r16, a24r17, a24r18, a24r19, a24r21, v1', v7, v8, v9, hlI, h20, e2, h300', hw, hkb, htext, hc]
        refine (hgo _ _ hL' ?_ ?_ ?_ ?_ ?_).mono fun e t h => by simpa using h
        all_goals simp [hw, v7]

theorem readF_shape (F : List Src) (name : List UInt8) (c : UInt8) : ∃ (r : List UInt8) (n : Int), (readF F name c).1 = .tup [.str r, .int .i64 n, num 0] := by
  unfold readF
  split
  · split
    · exact ⟨_, _, rfl⟩
    · split
      · exact ⟨_, _, rfl⟩
      · exact ⟨_, _, rfl⟩
  · exact ⟨_, _, rfl⟩

/-- Two streams that are read, one behind the other in the heap. -/
structure RI (H : Heap) (p1 : Nat) (c0 fs1 c2 c3 c4 c5 c6 : AV) (fq1 : List Nat) (p2 m2 : Nat) (fs2 : AV) (fq2 : List Nat) (F : List Src) : Prop where
  a : hget H p1 = some (some [c0, fs1, c2, c3, c4, c5, c6])
  fr : FR H fs1 fq1 F
  o : Other H p2 m2 fs2 fq2 F

theorem reads_loop {p1 : Nat} {c0 fs1 c2 c3 c4 c5 c6 : AV} {fq1 : List Nat} {p2 m2 : Nat} {fs2 : AV} {fq2 : List Nat} {name : List UInt8} {lo hi : Nat} (l1 : Lies p1 fs1 fq1 0 lo) (l2 : Lies p2 fs2 fq2 lo hi) : ∀ (n i : Nat) (v : Nat → AV) (H : Heap) (F : List Src), i + n = 5 → RI H p1 c0 fs1 c2 c3 c4 c5 c6 fq1 p2 m2 fs2 fq2 F →
    v 2 = .str name → v 7 = .tptr 2 7 p1 0 → v 8 = .tptr 2 7 p2 0 → v 10 = num i →
      Wp (evI fsT SA.sp 0 (.loop a24l20) (mkE 2596148434103117165345412661510087 v, H)) (fun e t => e = .exit 2 ∧ ∃ v' H' F', t = (mkE 2596148434103117165345412661510087 v', H') ∧ RI H' p1 c0 fs1 c2 c3 c4 c5 c6 fq1 p2 m2 fs2 fq2 F' ∧ v' 8 = .tptr 2 7 p2 0) := by
  have hs := SA.mono
  intro n
  induction n with
  | zero =>
    intro i v H F hi hR v2 v7 v8 v10
    have hi5 : i = 5 := by omega
    subst hi5
    rw [Wp_round hs a24l20.eq_1]
    simp [Wp_seq hs, Wp_region hs, Wp_block hs, Wp_cond hs, a24r14, v10]
    exact ⟨_, _, ⟨rfl, rfl⟩, ⟨_, hR⟩, by simp [v8]⟩
  | succ n ih =>
    intro i v H F hi hR v2 v7 v8 v10
    have h5 : (i : Int) < 5 := by omega
    have hw : IntKind.i64.wrap ((i : Int) + 1) = ((i + 1 : Nat) : Int) := by rw [i64_id _ (by omega)]; omega
    have hc : (10 : UInt8) ≠ 92 := by decide
    obtain ⟨H1, r1, k1, k2, k3⟩ := read_run (name := name) hR.a hR.fr hc
    have hb : Other H1 p2 m2 fs2 fq2 F := by
      obtain ⟨g1, g2⟩ := hR.o.fr.lt
      refine ⟨(k3 p2 (hget_lt hR.o.ptr) (fun hm => ?_)).trans hR.o.ptr, hR.o.fr.stay (fun q hm => k3 q (g1 q hm) fun hm' => ?_) (fun r e => k3 r (g2 r e) fun hm' => ?_)⟩
      · have := (l1.q _ hm).2; have := l2.p1; omega
      · have := (l1.q _ hm').2; have := (l2.q _ hm).1; omega
      · have := (l1.q _ hm').2; have := (l2.r r e).1; omega
    have ha1 : hget H1 p1 = some (some [c0, fs1, c2, c3, c4, c5, c6]) := (k3 p1 (hget_lt hR.a) l1.pq).trans hR.a
    obtain ⟨H2, r2, j1, j2, j3⟩ := read_run (name := name) hb.ptr hb.fr hc
    have hR2 : RI H2 p1 c0 fs1 c2 c3 c4 c5 c6 fq1 p2 m2 fs2 fq2 (readF F name 10).2 := by
      obtain ⟨g1, g2⟩ := k1.lt
      refine ⟨(j3 p1 (hget_lt ha1) (fun hm => ?_)).trans ha1, k1.stay (fun q hm => j3 q (g1 q hm) fun hm' => ?_) (fun r e => j3 r (g2 r e) fun hm' => ?_), (j3 p2 (hget_lt hb.ptr) l2.pq).trans hb.ptr, j1⟩
      · have := (l2.q _ hm).1; have := l1.p2; omega
      · have := (l2.q _ hm').1; have := (l1.q _ hm).2; omega
      · have := (l2.q _ hm').1; have := (l1.r r e).2; omega
    obtain ⟨x, y, hz⟩ := readF_shape F name 10
    rw [hz] at r1 r2
    rw [Wp_round hs a24l20.eq_1]
    have hne : ((y != y)) = false := by simp
    simp [Wp_seq hs, Wp_region hs, Wp_block hs, Wp_cond hs, a24, a24r0, a24r1, a24r2, a24r3, a24r4, a24r5, a24r6, a24r7, a24r8, a24r9, a24p10, a24r11, a24r13, a24r14, a24r15, a24r16, a24r17, a24r18, a24r19, a24r21, v2, v7, v8, v10, h5, r1, r2, binS_neq, beqS_refl, hne, hw]
    refine (ih (i + 1) _ H2 _ (by omega) hR2 ?_ ?_ ?_ ?_).mono fun e t h => by simpa using h
    · simp [v2]
    · simp [v7]
    · simp [v8]
    · simp [hw]

end Go.Ak

namespace Go.Ak
attribute [local simp] evI_skip Wp_skip Wp_exit Wp_ret Wp_some Ws_some andThen_norm andThen_ret andThen_exit andThen_pan outOf_norm outOf_ret outOf_pan outOf_exit fin_norm fin_ret fin_pan thaw_ret thaw_pan
  evSteps stepE wanted evOp opd opdL live look_mkE upd_mkE look_cons ver_cons st_at put slotty esc escs arg1 args drop1 nbeq nble nblt binA binI rd wr cellsN sub AV.cells pack one setCells resOf resV resAll roOf evPlan sameR beqE_refl beqH_refl fillA fillS newRow newObj step hdOk_nil hdOk_cons contents take flat look lim natOf bound sliceA remake eqS eqL eqA ver
  frz_bool frz_int frz_str frz_nils frz_nilp
  List.getElem?_cons_zero List.getElem?_cons_succ hget_eq hget_new hget_cons_zero hget_cons_succ hget_nil
attribute [-simp] getElem?_pos

theorem lives17 (bar : Nat) (H : Heap) : Rn fsT SA.sp bar 33 [] H = some (.ret (.bool true), H) := pure_any SA.mono fsT_33 rfl rfl (bar0 := 0) (n := 400) (H0 := []) (H1 := []) (by kernel_rfl) bar H

theorem out_none {H : Heap} {p m : Nat} {fs : AV} {fq : List Nat} {F : List Src} (h : Other H p m fs fq F) : Rn fsT SA.sp 0 31 [.tptr 2 7 p 0] H = some (.ret (.str []), H) := by
  have hs := SA.mono
  have hp := h.ptr
  refine Wc_eq.1 (Wc_heap hs fsT_31 rfl rfl ?_)
  rw [env31]
  simp [a31, a31r0, a31r1, Wp_seq hs, Wp_region hs, Rn_string, spString, hp]

theorem files_none {H : Heap} {p m : Nat} {fs : AV} {fq : List Nat} {F : List Src} (h : Other H p m fs fq F) : Rn fsT SA.sp 0 32 [.tptr 2 7 p 0] H = some (.ret .nils, H) := by
  have hs := SA.mono
  have hp := h.ptr
  refine Wc_eq.1 (Wc_heap hs fsT_32 rfl rfl ?_)
  rw [env32]
  simp [a32, a32r0, a32r1, a32r2, Wp_seq hs, Wp_region hs, Wp_block hs, hp]
  rw [Wp_round hs a32l7.eq_1]
  simp [a32, a32r0, a32r1, a32r2, a32r3, a32r4, a32p5, a32r6, a32r8, Wp_seq hs, Wp_region hs, Wp_block hs, Wp_cond hs]

theorem NI.lies {H0 H : Heap} {p : Nat} {fs : AV} {qs : List Nat} {acc : List Src} (h : NI H0 H p fs qs acc) : Lies p fs qs H0.length H.length where
  p1 := h.pge
  p2 := by obtain ⟨m, e⟩ := h.ptr; exact hget_lt e
  pq := h.pq
  q q hq := ⟨h.qge q hq, h.fr.lt.1 q hq⟩
  r r e := ⟨(h.rge r e).1, h.fr.lt.2 r e⟩

theorem shortF_le (fl : List (List UInt8 × List UInt8)) : (shortF fl).length ≤ 900 ∧ ∀ f ∈ shortF fl, f.2.length ≤ 1000000 := by
  constructor
  · simp [shortF]; omega
  · intro f hf
    simp only [shortF, List.mem_map] at hf
    obtain ⟨g, _, rfl⟩ := hf
    simp [cutF]; omega

theorem apart_run {fl : List (List UInt8 × List UInt8)} {al : List Act} {name : List UInt8} {A B : AV} (hA : isRow A (fl.map fA)) (hB : isRow B (al.map Act.av)) : ∃ H', Rn fsT SA.sp 0 24 [A, B, .str name] [] = some (.ret (.bool true), H') := by
  have hs := SA.mono
  obtain ⟨s1, s2⟩ := shortF_le fl
  obtain ⟨H1, p1, fs1, fq1, n1, N1⟩ := new_run (H := []) (main := [120]) s1 s2
  obtain ⟨H2, p2, fs2, fq2, n2, N2⟩ := new_run (H := H1) (main := [120]) s1 s2
  have l1 := N1.lies
  have l2 := N2.lies
  obtain ⟨m1, e1⟩ := N1.ptr
  obtain ⟨m2, e2⟩ := N2.ptr
  have hp1 := l1.p2
  have h1 : ∀ i, i < H1.length → hget H2 i = hget H1 i := N2.old
  have hF1 : FR H2 fs1 fq1 ((shortF fl).foldl addF []) := N1.fr.stay (fun q hq => h1 q (N1.fr.lt.1 q hq)) (fun r e => h1 r (N1.fr.lt.2 r e))
  have hne : ∀ j, H1.length ≤ j → (fun i => if i = p1 then 1 else 0) j = 0 := fun j hj => if_neg (by omega)
  have hL : LI H2 p1 m1 fs1 fq1 p2 m2 fs2 fq2 ((shortF fl).foldl addF []) := by
    refine ⟨⟨fun i => if i = p1 then 1 else 0, 0, ⟨by omega, if_pos rfl, ⟨.nilp, .nils, .nils, (h1 p1 hp1).trans e1, ⟨.inl rfl, .inl rfl⟩, [], [], ⟨rfl, by simp, .inl ⟨rfl, rfl⟩, fun i q nm h => by simp at h⟩, by simp, fun r e => by simp at e, fun i q nm h => by simp at h⟩, hF1, fun q hq => if_neg (fun e => N1.pq (by rw [← e]; exact hq)), fun r e => if_neg (N1.rge r e).2⟩,
      hne _ l2.p1, fun q hq => hne _ (l2.q q hq).1, fun r e => hne _ (l2.r r e).1⟩, e2, N2.fr⟩
  have hc : clo A = true := by
    have : ∀ (l : List (List UInt8 × List UInt8)), cloL (l.map fA) = true := fun l => by
      induction l with
      | nil => rfl
      | cons f l ih => simp only [List.map_cons, cloL, ih, Bool.and_true]; rfl
    rcases hA with rfl | ⟨rfl, _⟩
    · simp [clo, this]
    · rfl
  have key : Wc (Rn fsT SA.sp 0 24 [A, B, .str name] []) (fun o _ => o = .ret (.bool true)) := by
    refine Wc_heap hs fsT_24 rfl rfl ?_
    rw [env24]
    have hshort := short_run (bar := 0) (H := []) hA hc
    have hloop := acts_loop hB (name := name) (p1 := p1) (m1 := m1) (fs1 := fs1) (fq1 := fq1) (p2 := p2) (m2 := m2) (fs2 := fs2) (fq2 := fq2) (F := (shortF fl).foldl addF [])
    generalize shortF fl = sf at hshort n1 n2 s1 hloop hL
    have hlim : sf.length * 2 ≤ 4294967296 := by omega
    have hhd : hdOk 2 (sf.map fA) = true := by
      cases sf with | nil => rfl | cons a l => rfl
    have htk : List.take sf.length (List.map fA sf) = List.map fA sf := List.take_of_length_le (by simp)
    rcases hA with rfl | ⟨rfl, _⟩ <;> rcases hB with rfl | ⟨rfl, _⟩
    all_goals
      simp [a24, a24r0, a24r1, a24r2, a24r3, a24r4, a24r5, Wp_seq hs, Wp_region hs, Wp_block hs, Wp_cond hs, hshort, hlim, hhd, htk, n1, n2]
      refine (hloop (min al.length 20) 0 _ H2 (by omega) hL ?_ ?_ ?_ ?_ ?_).mono fun e t ht => ?_
      · simp
      · simp
      · simp
      · simp
      · simp
      · obtain ⟨rfl, v', H3, rfl, hL3, g2, g7, g8⟩ := ht
        obtain ⟨own, size, hW, _⟩ := hL3.w
        obtain ⟨b0, b1, sk, hp3, _, _⟩ := hW.ptr
        simp [a24r13, Wp_seq hs, Wp_region hs, Wp_block hs]
        refine (reads_loop (lo := H1.length) (hi := H2.length) (name := name) l1 l2 5 0 _ H3 _ (by omega) ⟨hp3, hW.fr, hL3.o⟩ ?_ ?_ ?_ ?_).mono fun e t ht => ?_
        · simp [g2]
        · simp [g7]
        · simp [g8]
        · simp
        · obtain ⟨rfl, v', H4, F', rfl, hR, g8⟩ := ht
          have ho := out_none hR.o
          have hf := files_none hR.o
          have hl := lives17 0 H4
          simp [a24r21, Wp_seq hs, Wp_region hs, Wp_block hs, g8, ho, hf, hl, binS_eql, beqS]
  obtain ⟨o, H', h, rfl⟩ := key
  exact ⟨H', h⟩

end Go.Ak

