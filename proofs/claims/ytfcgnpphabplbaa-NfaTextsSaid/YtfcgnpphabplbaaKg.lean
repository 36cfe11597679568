/- What the functions of the law compute, and that the law answers true. -/
import Derived.Test.YtfcgnpphabplbaaKf
import Derived.Test.YtfcgnpphabplbaaKd
set_option linter.unusedVariables false
set_option linter.unusedSimpArgs false

namespace Go.Ak
attribute [local simp] evI_skip Wp_skip Wp_exit Wp_ret Wp_some Ws_some andThen_norm andThen_ret andThen_exit andThen_pan outOf_norm outOf_ret outOf_pan outOf_exit fin_norm fin_ret fin_pan thaw_ret thaw_pan
  evSteps stepE wanted evOp opd opdL live look_mkE upd_mkE look_cons ver_cons st_at put slotty esc escs arg1 args drop1 nbeq nble nblt binA binI rd wr cellsN sub AV.cells pack one setCells resOf resV resAll roOf evPlan sameR beqE_refl beqH_refl fillA fillS newRow newObj step hdOk_nil hdOk_cons contents take flat look lim natOf bound sliceA remake eqS eqL eqA ver
  frz_bool frz_int frz_str frz_nils frz_nilp
  List.getElem?_cons_zero List.getElem?_cons_succ hget_eq hget_new hget_cons_zero hget_cons_succ hget_nil
attribute [-simp] getElem?_pos
variable {S : Sp} {bar : Nat}

theorem cloL_u64 : ∀ (l : List Nat) (r : List AV), cloL (l.map u64 ++ r) = cloL r
  | [], r => rfl
  | a :: l, r => by simp [cloL, clo, cloL_u64 l r]

mutual
theorem clo_av : ∀ (r : Re), clo r.av = true
  | .mk k set mn mx l => by
    have h := cloL_avs l
    rw [Re.av]
    simp only [clo, cloL, cloL_u64, Bool.true_and, Bool.and_true]
    cases l with
    | nil => simp [Re.avs, rowOf, clo]
    | cons x l => simp only [Re.avs, rowOf, clo]; simpa only [Re.avs] using h
theorem cloL_avs : ∀ (l : List Re), cloL (Re.avs l) = true
  | [] => rfl
  | x :: l => by simp [Re.avs, cloL, clo_av x, cloL_avs l]
end

/-- The parts are counted. -/
theorem count_loop {k : Int} {a b c d : Nat} {mn mx : Int} {l : List Re} (hw : Re.wideL l) (hlen : l.length < 1000000) {kk deep : Int} (hc : Re.canL l kk deep = true) (hd0 : 0 ≤ deep) (hd : deep ≤ 100) (ih : ∀ x ∈ l, ∀ H, Rn fsT S.sp bar 82 [x.av] H = some (.ret (num x.cap), H)) {H : Heap} :
    ∀ (rest : List Re) (i n : Nat) (v : Nat → AV), i ≤ l.length → l.drop i = rest → n ≤ 500 → v 1 = .box [.int .i64 k, u64 a, u64 b, u64 c, u64 d, .int .i64 mn, .int .i64 mx, rowOf (Re.avs l)] → v 7 = rowOf (Re.avs l) → v 8 = num l.length → v 9 = num i → v 3 = num n →
      Wp (evI fsT S.sp bar (.loop a82l9) (mkE 584262617007 v, H)) (fun e t => (e = .exit 0 ∧ Re.capL n rest ≤ 500 ∧ ∃ v', t = (mkE 584262617007 v', H) ∧ v' 1 = v 1 ∧ v' 3 = num (Re.capL n rest)) ∨ (e = .ret ∧ 500 < Re.capL n rest ∧ ∃ v', t = (mkE 584262617007 v', H) ∧ v' 2 = num (Re.capL n rest))) := by
  have hs := S.mono
  intro rest
  induction rest with
  | nil =>
    intro i n v hi hr hn v1 v7 v8 v9 v3
    have hi' : i = l.length := by
      have := congrArg List.length hr
      rw [List.length_drop] at this; simp at this; omega
    subst hi'
    rw [Wp_round hs a82l9.eq_1]
    simp [Wp_seq hs, Wp_region hs, Wp_block hs, Wp_cond hs, a82r3, v8, v9]
    exact ⟨by simpa [Re.capL] using hn, _, rfl, by simp, by simpa [Re.capL] using v3⟩
  | cons x rest ihr =>
    intro i n v hi hr hn v1 v7 v8 v9 v3
    have hi' : i < l.length := by
      have := congrArg List.length hr
      rw [List.length_drop] at this; simp at this; omega
    have hdc := List.drop_eq_getElem_cons hi'
    rw [hr] at hdc
    obtain ⟨hx, hr'⟩ := List.cons.inj hdc
    have hmem : x ∈ l := hx ▸ List.getElem_mem hi'
    obtain ⟨cs, hcs, hcl⟩ := Re.av_agg (wideL_iff.1 hw x hmem)
    have hcl8 : 8 ≤ cs.length := by omega
    have htk : List.take 8 cs = cs := List.take_of_length_le (by omega)
    have hg : (Re.avs l)[i]? = some (.agg cs) := by rw [avs_get hi', ← hx, hcs]
    have hne : Re.avs l ≠ [] := by rw [Re.avs_map]; simp; intro e; subst e; simp at hi'
    have hcall := ih x hmem H
    rw [hcs] at hcall
    rw [rowOf_ne hne] at v7 v1
    have hcx := Re.cap_le x kk (deep + 1) (canL_iff.1 hc x hmem) (wideL_iff.1 hw x hmem)
    have hw1 : IntKind.i64.wrap ((i : Int) + 1) = (i : Int) + 1 := i64_id _ (by omega)
    have hw2 : IntKind.i64.wrap ((n : Int) + (x.cap : Int)) = (n : Int) + x.cap := i64_id _ (by omega)
    -- eight cells, one by one
    obtain ⟨c0, c1, c2, c3, c4, c5, c6, c7, rfl⟩ : ∃ c0 c1 c2 c3 c4 c5 c6 c7, cs = [c0, c1, c2, c3, c4, c5, c6, c7] := by
      match cs, hcl with
      | [c0, c1, c2, c3, c4, c5, c6, c7], _ => exact ⟨_, _, _, _, _, _, _, _, rfl⟩
    rw [Wp_round hs a82l9.eq_1]
    by_cases h5 : n + x.cap > 500
    · have h5' : (500 : Int) < (n : Int) + x.cap := by omega
      have hu : Re.capL n (x :: rest) = n + x.cap := by simp [Re.capL, h5]
      rw [hu]
      simp [Wp_seq hs, Wp_region hs, Wp_block hs, Wp_cond hs, a82r3, a82r4, a82r5, a82r6, a82r7, a82r8, v8, v9, v7, v3, hi', hg, hcall, hw1, hw2, h5']
      exact ⟨by omega, _, rfl, by simp⟩
    · have h5' : ¬ (500 : Int) < (n : Int) + x.cap := by omega
      have hu : Re.capL n (x :: rest) = Re.capL (n + x.cap) rest := by simp [Re.capL, h5]
      rw [hu]
      simp [Wp_seq hs, Wp_region hs, Wp_block hs, Wp_cond hs, a82r3, a82r4, a82r5, a82r6, a82r7, a82r8, v8, v9, v7, v3, hi', hg, hcall, hw1, hw2, h5']
      refine (ihr (i + 1) (n + x.cap) _ (by omega) hr'.symm (by omega) ?_ ?_ ?_ ?_ ?_).mono fun e t h => ?_
      · simp [v1, rowOf_ne hne]
      · simp [v7, rowOf_ne hne]
      · simp [v8]
      · simp
      · simp
      · rcases h with ⟨e1, e2, v', e3, e4, e5⟩ | ⟨e1, e2, v', e3, e4⟩
        · exact .inl ⟨e1, e2, v', e3, by rw [e4]; simp, e5⟩
        · exact .inr ⟨e1, e2, v', e3, e4⟩

theorem count_node {k : Int} {set : List Nat} {mn mx : Int} {l : List Re} {within deep : Int} (hc : (Re.mk k set mn mx l).can within deep = true) (hw : (Re.mk k set mn mx l).wide) (hd0 : 0 ≤ deep)
    (ih : ∀ kk, Re.canL l kk deep = true → ∀ x ∈ l, ∀ H, Rn fsT S.sp 0 82 [x.av] H = some (.ret (num x.cap), H)) (H : Heap) : Rn fsT S.sp bar 82 [(Re.mk k set mn mx l).av] H = some (.ret (num (Re.mk k set mn mx l).cap), H) := by
  have hs := S.mono
  have hcap := Re.cap_le _ _ _ hc hw
  have hw0 := hw
  unfold Re.wide at hw
  obtain ⟨h4, hlen, ⟨m1, m2, m3, m4⟩, hwl⟩ := hw
  obtain ⟨a, b, c, d, rfl⟩ := four h4
  refine pure_eq hs fsT_82 rfl (by simp only [cloL, clo_av]; rfl) rfl ?_
  rw [env82]
  unfold Re.can at hc
  split at hc
  · cases hc
  rename_i hb
  have hd : deep ≤ 100 := by
    simp only [headBad, Bool.or_eq_true, decide_eq_true_eq, not_or] at hb
    omega
  have hL : Re.canL l k deep = true := by
    have nil : l.length = 0 → Re.canL l k deep = true := fun e => by
      have := List.eq_nil_of_length_eq_zero e
      subst this
      rfl
    split at hc
    · simp only [Bool.and_eq_true, decide_eq_true_eq] at hc
      exact nil hc.1
    split at hc
    · exact nil (of_decide_eq_true hc)
    split at hc
    · split at hc
      · cases hc
      · exact hc
    split at hc
    · split at hc
      · cases hc
      · exact hc
    · cases hc
  have hkk : k = 0 ∨ k = 1 ∨ k = 2 ∨ k = 3 ∨ k = 4 ∨ k = 5 ∨ k = 6 := by
    split at hc
    · omega
    split at hc
    · omega
    split at hc
    · omega
    split at hc
    · omega
    · cases hc
  have h5l : k = 5 → ¬ l.length < 2 := fun e => by
    subst e
    simp at hc
    omega
  have hrep : k = 6 → ¬ mx < 0 → mn ≤ mx := fun e hx => by
    subst e
    simp [repBad] at hc
    omega
  clear hc
  have hin := fun v => count_loop (S := S) (bar := 0) (k := k) (a := a) (b := b) (c := c) (d := d) (mn := mn) (mx := mx) (H := []) hwl hlen hL hd0 hd (fun x hx H => ih k hL x hx H) l 0 0 v (by omega) rfl (by omega)
  have hcl := capL_ge l 0
  have hpost : ∀ (v' : Nat → AV), Re.capL 0 l ≤ 500 → v' 1 = .box [.int .i64 k, u64 a, u64 b, u64 c, u64 d, .int .i64 mn, .int .i64 mx, rowOf (Re.avs l)] → v' 3 = num (Re.capL 0 l) →
      Wp (evI fsT S.sp 0 (.seq (.seq (.region a82r10) (.block 2 (.seq (.seq (.region a82r11) (.cond false (.v 23) .skip (.seq (.region a82r12) (.cond false (.v 23) .skip (.region a82r13))))) (.cond false (.v 23) (.seq (.region a82r14) .ret) (.seq (.region a82r15) (.cond true (.v 27) (.seq (.region a82r16) .ret) (.seq (.region a82r17) (.cond true (.v 35) (.seq (.seq (.region a82r18) (.cond true (.v 39) (.seq (.region a82r19) .ret) .skip)) (.seq (.region a82r20) .ret)) .skip)))))))) (.seq (.region a82r21) .ret)) (mkE 584262617007 v', [])) (fin [.tmp 2] (thaw 0 (· = .ret (num (Re.mk k [a, b, c, d] mn mx l).cap)))) := by
    intro v' h5 v1 v3
    have h5' : ¬ Re.capL 0 l > 500 := by omega
    rcases hkk with rfl | rfl | rfl | rfl | rfl | rfl | rfl
    · simp [Re.cap, h5', a82r10, a82r11, a82r12, a82r13, a82r14, a82r15, a82r16, a82r17, a82r18, a82r19, a82r20, a82r21, Wp_seq hs, Wp_region hs, Wp_block hs, Wp_cond hs, v1, v3]
    · simp [Re.cap, h5', a82r10, a82r11, a82r12, a82r13, a82r14, a82r15, a82r16, a82r17, a82r18, a82r19, a82r20, a82r21, Wp_seq hs, Wp_region hs, Wp_block hs, Wp_cond hs, v1, v3]
    · simp [Re.cap, h5', a82r10, a82r11, a82r12, a82r13, a82r14, a82r15, a82r16, a82r17, a82r18, a82r19, a82r20, a82r21, Wp_seq hs, Wp_region hs, Wp_block hs, Wp_cond hs, v1, v3]
    · simp [Re.cap, h5', a82r10, a82r11, a82r12, a82r13, a82r14, a82r15, a82r16, a82r17, a82r18, a82r19, a82r20, a82r21, Wp_seq hs, Wp_region hs, Wp_block hs, Wp_cond hs, v1, v3]
    · simp [Re.cap, h5', a82r10, a82r11, a82r12, a82r13, a82r14, a82r15, a82r16, a82r17, a82r18, a82r19, a82r20, a82r21, Wp_seq hs, Wp_region hs, Wp_block hs, Wp_cond hs, v1, v3]
    · have hl2 := h5l rfl
      have hne : Re.avs l ≠ [] := by rw [Re.avs_map]; simp; intro e; subst e; simp at hl2
      rw [rowOf_ne hne] at v1
      have hw1 : IntKind.i64.wrap ((Re.capL 0 l : Int) + (l.length : Int)) = ((Re.capL 0 l : Int) + (l.length : Int)) := i64_id _ (by omega)
      have hw2 : IntKind.i64.wrap ((Re.capL 0 l : Int) + (l.length : Int) - 1) = ((Re.capL 0 l + l.length - 1 : Nat) : Int) := by rw [i64_id _ (by omega)]; omega
      simp [Re.cap, h5', a82r10, a82r11, a82r12, a82r13, a82r14, a82r15, a82r16, a82r17, a82r18, a82r19, a82r20, a82r21, Wp_seq hs, Wp_region hs, Wp_block hs, Wp_cond hs, v1, v3, avs_len, hw1, hw2]
    · obtain ⟨N, rfl⟩ : ∃ N : Nat, mn = N := ⟨mn.toNat, by omega⟩
      generalize hC : Re.capL 0 l = C at *
      have e1 := Nat.mul_le_mul (show N ≤ 999 by omega) h5
      by_cases hx : mx < 0
      · obtain ⟨D, hD⟩ : ∃ D, N * C = D := ⟨_, rfl⟩
        rw [hD] at e1
        have hD' : (N : Int) * (C : Int) = (D : Int) := by rw [← hD]; push_cast; rfl
        have hw1 : IntKind.i64.wrap (D : Int) = (D : Int) := i64_id _ (by omega)
        have hw2 : IntKind.i64.wrap ((D : Int) + (C : Int)) = (D : Int) + C := i64_id _ (by omega)
        have hw3 : IntKind.i64.wrap ((D : Int) + (C : Int) + 1) = (D : Int) + C + 1 := i64_id _ (by omega)
        have hcp : (Re.mk 6 [a, b, c, d] (N : Int) mx l).cap = D + C + 1 := by
          simp [Re.cap, hC, h5', hx, hD]
        rw [hcp]
        simp [a82r10, a82r11, a82r12, a82r13, a82r14, a82r15, a82r16, a82r17, a82r18, a82r19, a82r20, a82r21, Wp_seq hs, Wp_region hs, Wp_block hs, Wp_cond hs, v1, v3, hx, hD', hw1, hw2, hw3]
      · obtain ⟨M, rfl⟩ : ∃ M : Nat, mx = M := ⟨mx.toNat, by omega⟩
        have hNM : N ≤ M := by have := hrep rfl hx; omega
        obtain ⟨D, hD⟩ : ∃ D, N * C = D := ⟨_, rfl⟩
        obtain ⟨E, hE⟩ : ∃ E, (M - N) * (C + 1) = E := ⟨_, rfl⟩
        have e2 := Nat.mul_le_mul (show M - N ≤ 999 by omega) (show C + 1 ≤ 501 by omega)
        rw [hD] at e1
        rw [hE] at e2
        have hD' : (N : Int) * (C : Int) = (D : Int) := by rw [← hD]; push_cast; rfl
        have hE' : ((M - N : Nat) : Int) * ((C : Int) + 1) = (E : Int) := by rw [← hE]; push_cast; rfl
        have hw0 : IntKind.i64.wrap ((M : Int) - (N : Int)) = ((M - N : Nat) : Int) := by rw [i64_id _ (by omega)]; omega
        have hw1 : IntKind.i64.wrap (D : Int) = (D : Int) := i64_id _ (by omega)
        have hw2 : IntKind.i64.wrap ((C : Int) + 1) = (C : Int) + 1 := i64_id _ (by omega)
        have hw3 : IntKind.i64.wrap (E : Int) = (E : Int) := i64_id _ (by omega)
        have hw4 : IntKind.i64.wrap ((D : Int) + (E : Int)) = (D : Int) + E := i64_id _ (by omega)
        have hcp : (Re.mk 6 [a, b, c, d] (N : Int) M l).cap = D + E := by
          have : ((M : Int) - N).toNat = M - N := by omega
          simp [Re.cap, hC, h5', hx, hD, this, hE]
        rw [hcp]
        simp [a82r10, a82r11, a82r12, a82r13, a82r14, a82r15, a82r16, a82r17, a82r18, a82r19, a82r20, a82r21, Wp_seq hs, Wp_region hs, Wp_block hs, Wp_cond hs, v1, v3, hx, hD', hE', hw0, hw1, hw2, hw3, hw4]
  have hrow : (l = [] ∧ rowOf (Re.avs l) = .nils) ∨ rowOf (Re.avs l) = .slc .ro (Re.avs l) := by
    cases l with
    | nil => exact .inl ⟨rfl, rfl⟩
    | cons x l => exact .inr rfl
  have hend : ∀ (v : Nat → AV), v 1 = .box [.int .i64 k, u64 a, u64 b, u64 c, u64 d, .int .i64 mn, .int .i64 mx, rowOf (Re.avs l)] → v 7 = rowOf (Re.avs l) → v 8 = num l.length → v 9 = num 0 → v 3 = num 0 →
      Wp (evI fsT S.sp 0 (.loop a82l9) (mkE 584262617007 v, [])) (outOf 0 (andThen (evI fsT S.sp 0 (.seq (.seq (.region a82r10) (.block 2 (.seq (.seq (.region a82r11) (.cond false (.v 23) .skip (.seq (.region a82r12) (.cond false (.v 23) .skip (.region a82r13))))) (.cond false (.v 23) (.seq (.region a82r14) .ret) (.seq (.region a82r15) (.cond true (.v 27) (.seq (.region a82r16) .ret) (.seq (.region a82r17) (.cond true (.v 35) (.seq (.seq (.region a82r18) (.cond true (.v 39) (.seq (.region a82r19) .ret) .skip)) (.seq (.region a82r20) .ret)) .skip)))))))) (.seq (.region a82r21) .ret))) (fin [.tmp 2] (thaw 0 (· = .ret (num (Re.mk k [a, b, c, d] mn mx l).cap)))))) := by
    intro v w1 w7 w8 w9 w3
    refine (hin v w1 w7 w8 w9 w3).mono fun e t h => ?_
    rcases h with ⟨rfl, h5, v', rfl, e1, e3⟩ | ⟨rfl, h5, v', rfl, e2⟩
    · rw [outOf_exit, if_pos rfl, andThen_norm]
      exact hpost v' h5 (by rw [e1, w1]) e3
    · have : (Re.mk k [a, b, c, d] mn mx l).cap = Re.capL 0 l := by
        unfold Re.cap
        rw [if_pos h5]
      simp [this, e2]
  rcases hrow with ⟨rfl, hrow⟩ | hrow
  · simp [a82, a82r0, a82r1, a82r2, Wp_seq hs, Wp_region hs, Re.av, hrow]
    simp only [Wp_seq hs, Wp_block hs, andThen_norm]
    refine hend _ ?_ ?_ ?_ ?_ ?_
    · simp [hrow]
    · simp [hrow]
    · simp
    · simp
    · simp
  · simp [a82, a82r0, a82r1, a82r2, Wp_seq hs, Wp_region hs, Re.av, hrow]
    simp only [Wp_seq hs, Wp_block hs, andThen_norm]
    refine hend _ ?_ ?_ ?_ ?_ ?_
    · simp [hrow]
    · simp [hrow]
    · simp [avs_len]
    · simp
    · simp

mutual
theorem count_run : ∀ (r : Re) (within deep : Int), r.can within deep = true → r.wide → 0 ≤ deep → ∀ (bar : Nat) (H : Heap), Rn fsT S.sp bar 82 [r.av] H = some (.ret (num r.cap), H)
  | .mk k set mn mx l, within, deep, hc, hw, hd, bar, H =>
    count_node hc hw hd (fun kk hL x hx H => counts_run l kk deep hL (by unfold Re.wide at hw; exact hw.2.2.2) hd x hx H) H
theorem counts_run : ∀ (l : List Re) (k deep : Int), Re.canL l k deep = true → Re.wideL l → 0 ≤ deep → ∀ x ∈ l, ∀ (H : Heap), Rn fsT S.sp 0 82 [x.av] H = some (.ret (num x.cap), H)
  | [], _, _, _, _, _ => fun x hx => by cases hx
  | y :: l, k, deep, hc, hw, hd => fun x hx H => by
    simp only [Re.canL, Bool.and_eq_true] at hc
    unfold Re.wideL at hw
    rcases List.mem_cons.1 hx with e | h
    · rw [e]; exact count_run y k (deep + 1) hc.1 hw.1 (by omega) 0 H
    · exact counts_run l k deep hc.2 hw.2 hd x h H
end

end Go.Ak

namespace Go.Ak
attribute [local simp] evI_skip Wp_skip Wp_exit Wp_ret Wp_some Ws_some andThen_norm andThen_ret andThen_exit andThen_pan outOf_norm outOf_ret outOf_pan outOf_exit fin_norm fin_ret fin_pan thaw_ret thaw_pan
  evSteps stepE wanted evOp opd opdL live look_mkE upd_mkE look_cons ver_cons st_at put slotty esc escs arg1 args drop1 nbeq nble nblt binA binI rd wr cellsN sub AV.cells pack one setCells resOf resV resAll roOf evPlan sameR beqE_refl beqH_refl fillA fillS newRow newObj step hdOk_nil hdOk_cons contents take flat look lim natOf bound sliceA remake eqS eqL eqA ver
  frz_bool frz_int frz_str frz_nils frz_nilp
  List.getElem?_cons_zero List.getElem?_cons_succ hget_eq hget_new hget_cons_zero hget_cons_succ hget_nil
attribute [-simp] getElem?_pos
variable {S : Sp} {bar : Nat}

theorem zset4 (a b c d : Nat) : decide ([a, b, c, d] ≠ zset) = !((a : Int) == 0 && ((b : Int) == 0 && ((c : Int) == 0 && (d : Int) == 0))) := by
  rw [Bool.eq_iff_iff]
  simp [zset]

theorem can_head {k mn mx deep : Int} {a b c d : Nat} {lv : AV} {v : Nat → AV} {H : Heap} {Q : AExit → EH → Prop} (v3 : v 3 = .ptr 0 0) (v5 : v 5 = .ptr 1 0)
    (h0 : hget H 0 = some (some [.int .i64 k, u64 a, u64 b, u64 c, u64 d, .int .i64 mn, .int .i64 mx, lv])) (h1 : hget H 1 = some (some [.int .i64 deep]))
    (hQ : Q .norm (mkE 1267650600670987429023578062959 (st v 34 (.bool (headBad k [a, b, c, d] mn mx deep))), H)) : Ws (evSteps (Rn fsT S.sp bar) bar a65r1 ⟨mkE 1267650600670987429023578062959 v, [], [], H⟩) Q := by
  have hz := zset4 a b c d
  by_cases c1 : 100 < deep
  · have hb : headBad k [a, b, c, d] mn mx deep = true := by simp [headBad, c1]
    rw [hb] at hQ
    simp [a65r1, v3, v5, h0, h1, c1, hQ]
  by_cases c2 : k = 1
  · subst c2
    by_cases c3 : mn = 0
    · subst c3
      by_cases c4 : mx = 0
      · subst c4
        have hb : headBad 1 [a, b, c, d] 0 0 deep = false := by simp [headBad, c1]
        rw [hb] at hQ
        simp [a65r1, v3, v5, h0, h1, c1, hQ]
      · have hb : headBad 1 [a, b, c, d] 0 mx deep = true := by simp [headBad, c1, c4]
        rw [hb] at hQ
        have c4' : (mx != 0) = true := by simpa using c4
        simp [a65r1, v3, v5, h0, h1, c1, hQ, c4']
    · have hb : headBad 1 [a, b, c, d] mn mx deep = true := by simp [headBad, c1, c3]
      rw [hb] at hQ
      have c3' : (mn != 0) = true := by simpa using c3
      simp [a65r1, v3, v5, h0, h1, c1, hQ, c3']
  have c2' : (k != 1) = true := by simpa using c2
  cases hzz : ((a : Int) == 0 && ((b : Int) == 0 && ((c : Int) == 0 && (d : Int) == 0))) with
  | false =>
    have hb : headBad k [a, b, c, d] mn mx deep = true := by simp [headBad, c1, c2, hz, hzz]
    rw [hb] at hQ
    simp [a65r1, v3, v5, h0, h1, c1, hQ, c2', List.replicate_succ, hzz]
  | true =>
    have hzd : decide ([a, b, c, d] ≠ zset) = false := by rw [hz, hzz]; rfl
    by_cases c5 : k = 6
    · subst c5
      have hb : headBad 6 [a, b, c, d] mn mx deep = false := by simp only [headBad, hzd]; simp [c1]
      rw [hb] at hQ
      simp [a65r1, v3, v5, h0, h1, c1, hQ, List.replicate_succ, hzz]
    have c5' : (k != 6) = true := by simpa using c5
    by_cases c3 : mn = 0
    · subst c3
      by_cases c4 : mx = 0
      · subst c4
        have hb : headBad k [a, b, c, d] 0 0 deep = false := by simp only [headBad, hzd]; simp [c1]
        rw [hb] at hQ
        simp [a65r1, v3, v5, h0, h1, c1, hQ, c2', c5', List.replicate_succ, hzz]
      · have hb : headBad k [a, b, c, d] 0 mx deep = true := by simp [headBad, c1, c4, c5]
        rw [hb] at hQ
        have c4' : (mx != 0) = true := by simpa using c4
        simp [a65r1, v3, v5, h0, h1, c1, hQ, c2', c5', c4', List.replicate_succ, hzz]
    · have hb : headBad k [a, b, c, d] mn mx deep = true := by simp [headBad, c1, c3, c5]
      rw [hb] at hQ
      have c3' : (mn != 0) = true := by simpa using c3
      simp [a65r1, v3, v5, h0, h1, c1, hQ, c2', c5', c3', List.replicate_succ, hzz]

/-- A repetition's bounds. -/
theorem can_rep {k mn mx : Int} {a b c d : Nat} {l : List Re} {v : Nat → AV} {H : Heap} {Q : AExit → EH → Prop} (v3 : v 3 = .ptr 0 0)
    (h0 : hget H 0 = some (some [.int .i64 k, u64 a, u64 b, u64 c, u64 d, .int .i64 mn, .int .i64 mx, rowOf (Re.avs l)]))
    (hQ : Q .norm (mkE 1267650600670987429023578062959 (st v 100 (.bool (repBad l.length mn mx))), H)) : Ws (evSteps (Rn fsT S.sp bar) bar a65r15 ⟨mkE 1267650600670987429023578062959 v, [], [], H⟩) Q := by
  match l, h0, hQ with
  | [], h0, hQ =>
    have hb : repBad ([] : List Re).length mn mx = true := by simp [repBad]
    rw [hb] at hQ
    simp [a65r15, v3, h0, hQ, rowOf, Re.avs]
  | x :: y :: l, h0, hQ =>
    have hb : repBad (x :: y :: l).length mn mx = true := by simp [repBad]
    rw [hb] at hQ
    have hlen : ((((Re.avs l).length : Int) + 1 + 1) != 1) = true := by simp; omega
    simp [a65r15, v3, h0, hQ, rowOf, Re.avs, hlen]
  | [x], h0, hQ =>
    by_cases c1 : mn < 0
    · have hb : repBad [x].length mn mx = true := by simp [repBad, c1]
      rw [hb] at hQ
      simp [a65r15, v3, h0, hQ, rowOf, Re.avs, c1]
    by_cases c2 : 50 < mn
    · have hb : repBad [x].length mn mx = true := by simp [repBad, c2]
      rw [hb] at hQ
      simp [a65r15, v3, h0, hQ, rowOf, Re.avs, c1, c2]
    by_cases c3 : mx = -1
    · subst c3
      have hb : repBad [x].length mn (-1) = false := by simp [repBad, c1, c2]
      rw [hb] at hQ
      simp [a65r15, v3, h0, hQ, rowOf, Re.avs, c1, c2]
    have c3' : (mx != -1) = true := by simpa using c3
    by_cases c4 : mx < mn
    · have hb : repBad [x].length mn mx = true := by simp [repBad, c3, c4]
      rw [hb] at hQ
      simp [a65r15, v3, h0, hQ, rowOf, Re.avs, c1, c2, c3', c4]
    · have hb : repBad [x].length mn mx = decide (50 < mx) := by simp [repBad, c1, c2, c3, c4]
      rw [hb] at hQ
      simp [a65r15, v3, h0, hQ, rowOf, Re.avs, c1, c2, c3', c4]

/-- No part may fail. -/
theorem can_loop {l : List Re} {k deep : Int} {H : Heap} (hw : Re.wideL l) (hlen : l.length < 1000000) (ih : ∀ x ∈ l, Rn fsT S.sp bar 90 [x.av, .ptr 0 0, .ptr 1 0] H = some (.ret (.bool !(x.can k (deep + 1))), H)) :
    ∀ (rest : List Re) (i : Nat) (v : Nat → AV), i ≤ l.length → l.drop i = rest → v 0 = rowOf (Re.avs l) → v 1 = .fn 90 [.ptr 0 0, .ptr 1 0] → v 7 = num l.length → v 8 = num i →
      Wp (evI fsT S.sp bar (.loop a100l7) (mkE 66483 v, H)) (fun e t => (Re.canL rest k deep = true ∧ e = .exit 0 ∧ ∃ v', t = (mkE 66483 v', H)) ∨ (Re.canL rest k deep = false ∧ e = .ret ∧ ∃ v' n, t = (mkE 66483 v', H) ∧ v' 4 = num n)) := by
  have hs := S.mono
  intro rest
  induction rest with
  | nil =>
    intro i v hi hr v0 v1 v7 v8
    have hi' : i = l.length := by
      have := congrArg List.length hr
      rw [List.length_drop] at this; simp at this; omega
    subst hi'
    rw [Wp_round hs a100l7.eq_1]
    simp [Wp_seq hs, Wp_region hs, Wp_block hs, Wp_cond hs, a100r2, v7, v8]
    exact ⟨rfl, _, rfl⟩
  | cons x rest ihr =>
    intro i v hi hr v0 v1 v7 v8
    have hi' : i < l.length := by
      have := congrArg List.length hr
      rw [List.length_drop] at this; simp at this; omega
    have hdc := List.drop_eq_getElem_cons hi'
    rw [hr] at hdc
    obtain ⟨hx, hr'⟩ := List.cons.inj hdc
    have hmem : x ∈ l := hx ▸ List.getElem_mem hi'
    obtain ⟨cs, hcs, hcl⟩ := Re.av_agg (wideL_iff.1 hw x hmem)
    have hcl8 : 8 ≤ cs.length := by omega
    have htk : List.take 8 cs = cs := List.take_of_length_le (by omega)
    have hg : (Re.avs l)[i]? = some (.agg cs) := by rw [avs_get hi', ← hx, hcs]
    have hne : Re.avs l ≠ [] := by rw [Re.avs_map]; simp; intro e; subst e; simp at hi'
    have hcall := ih x hmem
    rw [hcs] at hcall
    rw [rowOf_ne hne] at v0
    have hw1 : IntKind.i64.wrap ((i : Int) + 1) = (i : Int) + 1 := i64_id _ (by omega)
    rw [Wp_round hs a100l7.eq_1]
    cases hcx : x.can k (deep + 1) with
    | false =>
      rw [hcx] at hcall
      have hu : Re.canL (x :: rest) k deep = false := by simp [Re.canL, hcx]
      rw [hu]
      simp [Wp_seq hs, Wp_region hs, Wp_block hs, Wp_cond hs, a100r2, a100r3, a100r4, a100r5, a100r6, v0, v1, v7, v8, hi', hg, hcl, hcl8, htk, hcall, hw1]
      exact ⟨_, rfl, i, by simp⟩
    | true =>
      rw [hcx] at hcall
      have hu : Re.canL (x :: rest) k deep = Re.canL rest k deep := by simp [Re.canL, hcx]
      rw [hu]
      simp [Wp_seq hs, Wp_region hs, Wp_block hs, Wp_cond hs, a100r2, a100r3, a100r4, a100r5, a100r6, v0, v1, v7, v8, hi', hg, hcl, hcl8, htk, hcall, hw1]
      refine (ihr (i + 1) _ (by omega) hr'.symm ?_ ?_ ?_ ?_).mono fun e t h => by simpa using h
      · simp [v0, rowOf_ne hne]
      · simp [v1]
      · simp [v7]
      · simp

theorem index_run {l : List Re} {k deep : Int} {H : Heap} (hw : Re.wideL l) (hlen : l.length < 1000000) (ih : ∀ x ∈ l, Rn fsT S.sp bar 90 [x.av, .ptr 0 0, .ptr 1 0] H = some (.ret (.bool !(x.can k (deep + 1))), H)) :
    ∃ n : Int, Rn fsT S.sp bar 100 [rowOf (Re.avs l), .fn 90 [.ptr 0 0, .ptr 1 0]] H = some (.ret (.int .i64 n), H) ∧ (0 ≤ n ↔ Re.canL l k deep = false) := by
  have hs := S.mono
  have : Wc (Rn fsT S.sp bar 100 [rowOf (Re.avs l), .fn 90 [.ptr 0 0, .ptr 1 0]] H) (fun o H' => H' = H ∧ ∃ n : Int, o = .ret (.int .i64 n) ∧ (0 ≤ n ↔ Re.canL l k deep = false)) := by
    refine Wc_heap hs fsT_100 rfl rfl ?_
    rw [env100]
    have hfin := fun v => can_loop (S := S) (bar := bar) (H := H) hw hlen ih l 0 v (by omega) rfl
    have hrow : (l = [] ∧ rowOf (Re.avs l) = .nils) ∨ rowOf (Re.avs l) = .slc .ro (Re.avs l) := by
      cases l with
      | nil => exact .inl ⟨rfl, rfl⟩
      | cons x l => exact .inr rfl
    rcases hrow with ⟨rfl, hrow⟩ | hrow
    all_goals
      simp [a100, a100r0, a100r1, Wp_seq hs, Wp_region hs, Wp_block hs, hrow]
      refine (hfin _ ?_ ?_ ?_ ?_).mono fun e t h => ?_
      · simp [hrow]
      · simp
      · simp [avs_len]
      · simp
      · rcases h with ⟨h1, rfl, v', rfl⟩ | ⟨h1, rfl, v', n, rfl, h2⟩
        · simp [a100r8, Wp_seq hs, Wp_region hs, h1]
        · simp [h1, h2]
  obtain ⟨o, H', h, rfl, n, rfl, h2⟩ := this
  exact ⟨n, h, h2⟩

theorem contains_run {l : List Re} {k deep : Int} {H : Heap} (hw : Re.wideL l) (hlen : l.length < 1000000) (ih : ∀ x ∈ l, Rn fsT S.sp bar 90 [x.av, .ptr 0 0, .ptr 1 0] H = some (.ret (.bool !(x.can k (deep + 1))), H)) :
    Rn fsT S.sp bar 91 [rowOf (Re.avs l), .fn 90 [.ptr 0 0, .ptr 1 0]] H = some (.ret (.bool !(Re.canL l k deep)), H) := by
  have hs := S.mono
  obtain ⟨n, hc, hn⟩ := index_run hw hlen ih
  have : Wc (Rn fsT S.sp bar 91 [rowOf (Re.avs l), .fn 90 [.ptr 0 0, .ptr 1 0]] H) (fun o H' => o = .ret (.bool !(Re.canL l k deep)) ∧ H' = H) := by
    refine Wc_heap hs fsT_91 rfl rfl ?_
    rw [env91]
    have hd : decide (0 ≤ n) = !(Re.canL l k deep) := by
      cases h : Re.canL l k deep with
      | false => simp [hn, h]
      | true => simp; rw [h] at hn; simp at hn; exact hn
    have hrow : rowOf (Re.avs l) = .nils ∨ rowOf (Re.avs l) = .slc .ro (Re.avs l) := by
      cases l with
      | nil => exact .inl rfl
      | cons x l => exact .inr rfl
    rcases hrow with hrow | hrow
    all_goals
      rw [hrow] at hc ⊢
      simp [a91, a91r0, a91r1, Wp_seq hs, Wp_region hs, hc, hd]
  exact Wc_eq.1 this

end Go.Ak

namespace Go.Ak
attribute [local simp] evI_skip Wp_skip Wp_exit Wp_ret Wp_some Ws_some andThen_norm andThen_ret andThen_exit andThen_pan outOf_norm outOf_ret outOf_pan outOf_exit fin_norm fin_ret fin_pan thaw_ret thaw_pan
  evSteps stepE wanted evOp opd opdL live look_mkE upd_mkE look_cons ver_cons st_at put slotty esc escs arg1 args drop1 nbeq nble nblt binA binI rd wr cellsN sub AV.cells pack one setCells resOf resV resAll roOf evPlan sameR beqE_refl beqH_refl fillA fillS newRow newObj step hdOk_nil hdOk_cons contents take flat look lim natOf bound sliceA remake eqS eqL eqA ver
  frz_bool frz_int frz_str frz_nils frz_nilp
  List.getElem?_cons_zero List.getElem?_cons_succ hget_eq hget_new hget_cons_zero hget_cons_succ hget_nil
attribute [-simp] getElem?_pos
variable {S : Sp} {bar : Nat}

theorem can1_run {x : Re} {k deep : Int} {cs : List AV} {H : Heap} (hw : x.wide) (hd : 0 ≤ deep ∧ deep ≤ 1000) (h0 : hget H 0 = some (some (.int .i64 k :: cs))) (h1 : hget H 1 = some (some [.int .i64 deep]))
    (ih : ∀ bar H, Rn fsT S.sp bar 65 [x.av, .int .i64 k, .int .i64 (deep + 1)] H = some (.ret (.bool (x.can k (deep + 1))), H)) : Rn fsT S.sp bar 90 [x.av, .ptr 0 0, .ptr 1 0] H = some (.ret (.bool !(x.can k (deep + 1))), H) := by
  have hs := S.mono
  refine pureH_eq hs fsT_90 rfl (by simp [cloL, clo]) rfl ?_
  rw [env90]
  obtain ⟨c, hcs, hcl⟩ := Re.av_agg hw
  rw [hcs] at ih ⊢
  have hcl8 : 8 ≤ c.length := by omega
  have htk : List.take 8 c = c := List.take_of_length_le (by omega)
  have hw1 : IntKind.i64.wrap (deep + 1) = deep + 1 := i64_id _ (by omega)
  simp [a90, a90r0, a90r1, Wp_seq hs, Wp_region hs, h0, h1, hcl, hcl8, htk, hw1, ih]

theorem can_node {k : Int} {set : List Nat} {mn mx : Int} {l : List Re} {within deep : Int} (hw : (Re.mk k set mn mx l).wide) (hd : 0 ≤ deep ∧ deep ≤ 1000)
    (ih : ∀ x ∈ l, ∀ w d, 0 ≤ d → d ≤ 1000 → ∀ bar H, Rn fsT S.sp bar 65 [x.av, .int .i64 w, .int .i64 d] H = some (.ret (.bool (x.can w d)), H)) (H : Heap) :
    Rn fsT S.sp bar 65 [(Re.mk k set mn mx l).av, .int .i64 within, .int .i64 deep] H = some (.ret (.bool ((Re.mk k set mn mx l).can within deep)), H) := by
  have hs := S.mono
  unfold Re.wide at hw
  obtain ⟨h4, hlen, hm, hwl⟩ := hw
  obtain ⟨a, b, c, d, rfl⟩ := four h4
  refine pure_eq hs fsT_65 rfl (by simp only [cloL, clo_av, clo]; rfl) rfl ?_
  rw [env65]
  have hcont : ∀ kk, deep ≤ 100 → Rn fsT S.sp 0 91 [rowOf (Re.avs l), .fn 90 [.ptr 0 0, .ptr 1 0]] [some [.int .i64 kk, u64 a, u64 b, u64 c, u64 d, .int .i64 mn, .int .i64 mx, rowOf (Re.avs l)], some [.int .i64 deep]] = some (.ret (.bool !(Re.canL l kk deep)), [some [.int .i64 kk, u64 a, u64 b, u64 c, u64 d, .int .i64 mn, .int .i64 mx, rowOf (Re.avs l)], some [.int .i64 deep]]) := fun kk hdd =>
    contains_run hwl hlen fun x hx => can1_run (wideL_iff.1 hwl x hx) hd rfl rfl (ih x hx kk (deep + 1) (by omega) (by omega))
  simp [a65, a65r0, Wp_seq hs, Wp_region hs, Re.av]
  refine can_head ?_ ?_ rfl rfl ?_
  · simp
  · simp
  cases hb : headBad k [a, b, c, d] mn mx deep with
  | true =>
    have hu : (Re.mk k [a, b, c, d] mn mx l).can within deep = false := by unfold Re.can; rw [if_pos hb]
    rw [hu]
    simp [a65r2, Wp_seq hs, Wp_region hs, Wp_cond hs]
  | false =>
    have hd1 : deep ≤ 100 := by
      simp only [headBad, Bool.or_eq_false_iff, decide_eq_false_iff_not] at hb
      omega
    have hrow : (l = [] ∧ rowOf (Re.avs l) = .nils) ∨ (l ≠ [] ∧ rowOf (Re.avs l) = .slc .ro (Re.avs l)) := by
      cases l with
      | nil => exact .inl ⟨rfl, rfl⟩
      | cons x l => exact .inr ⟨by simp, rfl⟩
    have hcont := fun kk => hcont kk hd1
    by_cases e0 : k = 0
    · subst e0
      have hu : (Re.mk 0 [a, b, c, d] mn mx l).can within deep = (decide (l.length = 0) && decide (within ≠ 4)) := by unfold Re.can; simp [hb]
      rw [hu]
      rcases hrow with ⟨rfl, hrow⟩ | ⟨hl, hrow⟩
      · simp [a65r2, a65r3, a65r4, a65r5, a65r6, a65r7, a65r8, a65r9, a65r10, a65r11, a65r12, a65r13, a65r14, a65r15, a65r16, a65r17, a65r18, Wp_seq hs, Wp_region hs, Wp_block hs, Wp_cond hs, hrow]
        rfl
      · have hl0 : ((l.length : Int) == 0) = false := by simp [hl]
        simp [a65r2, a65r3, a65r4, a65r5, a65r6, a65r7, a65r8, a65r9, a65r10, a65r11, a65r12, a65r13, a65r14, a65r15, a65r16, a65r17, a65r18, Wp_seq hs, Wp_region hs, Wp_block hs, Wp_cond hs, hrow, avs_len, hl0, hl]
    by_cases e123 : k = 1 ∨ k = 2 ∨ k = 3
    · have hu : (Re.mk k [a, b, c, d] mn mx l).can within deep = decide (l.length = 0) := by unfold Re.can; simp [hb, e0, e123]
      rw [hu]
      rcases hrow with ⟨rfl, hrow⟩ | ⟨hl, hrow⟩
      · rcases e123 with rfl | rfl | rfl
        all_goals simp [a65r2, a65r3, a65r4, a65r5, a65r6, a65r7, a65r8, a65r9, a65r10, a65r11, a65r12, a65r13, a65r14, a65r15, a65r16, a65r17, a65r18, Wp_seq hs, Wp_region hs, Wp_block hs, Wp_cond hs, hrow]
      · have hl0 : ((l.length : Int) == 0) = false := by simp [hl]
        rcases e123 with rfl | rfl | rfl
        all_goals simp [a65r2, a65r3, a65r4, a65r5, a65r6, a65r7, a65r8, a65r9, a65r10, a65r11, a65r12, a65r13, a65r14, a65r15, a65r16, a65r17, a65r18, Wp_seq hs, Wp_region hs, Wp_block hs, Wp_cond hs, hrow, avs_len, hl0, hl]
    by_cases e45 : k = 4 ∨ k = 5
    · have hu : (Re.mk k [a, b, c, d] mn mx l).can within deep = if within = k ∨ l.length < 2 then false else Re.canL l k deep := by unfold Re.can; simp [hb, e0, e123, e45]
      rw [hu]
      by_cases ew : within = k
      · subst ew
        rcases e45 with rfl | rfl
        all_goals simp [a65r2, a65r3, a65r4, a65r5, a65r6, a65r7, a65r8, a65r9, a65r10, a65r11, a65r12, a65r13, a65r14, a65r15, a65r16, a65r17, a65r18, Wp_seq hs, Wp_region hs, Wp_block hs, Wp_cond hs]
      have ew' : (within == k) = false := by simpa using ew
      rcases hrow with ⟨rfl, hrow⟩ | ⟨hl, hrow⟩
      · rcases e45 with rfl | rfl
        all_goals simp [a65r2, a65r3, a65r4, a65r5, a65r6, a65r7, a65r8, a65r9, a65r10, a65r11, a65r12, a65r13, a65r14, a65r15, a65r16, a65r17, a65r18, Wp_seq hs, Wp_region hs, Wp_block hs, Wp_cond hs, hrow, ew']
      · by_cases e2 : l.length < 2
        · have e2' : (l.length : Int) < 2 := by omega
          rcases e45 with rfl | rfl
          all_goals simp [a65r2, a65r3, a65r4, a65r5, a65r6, a65r7, a65r8, a65r9, a65r10, a65r11, a65r12, a65r13, a65r14, a65r15, a65r16, a65r17, a65r18, Wp_seq hs, Wp_region hs, Wp_block hs, Wp_cond hs, hrow, ew', avs_len, e2, e2']
        · have e2' : ¬ (l.length : Int) < 2 := by omega
          rcases e45 with rfl | rfl
          all_goals
            rw [hrow] at hcont
            simp [a65r2, a65r3, a65r4, a65r5, a65r6, a65r7, a65r8, a65r9, a65r10, a65r11, a65r12, a65r13, a65r14, a65r15, a65r16, a65r17, a65r18, Wp_seq hs, Wp_region hs, Wp_block hs, Wp_cond hs, hrow, ew', avs_len, e2, e2', ew, hcont]
    by_cases e6 : k = 6
    · subst e6
      have hu : (Re.mk 6 [a, b, c, d] mn mx l).can within deep = if repBad l.length mn mx then false else Re.canL l 6 deep := by unfold Re.can; simp [hb]
      rw [hu]
      simp [a65r2, a65r3, a65r4, a65r5, a65r6, a65r7, a65r8, a65r9, a65r10, a65r11, a65r12, a65r13, a65r14, Wp_seq hs, Wp_region hs, Wp_block hs, Wp_cond hs]
      refine can_rep ?_ rfl ?_
      · simp
      cases hrb : repBad l.length mn mx with
      | true => simp [a65r16, a65r17, a65r18, Wp_seq hs, Wp_region hs, Wp_block hs, Wp_cond hs]
      | false =>
        rcases hrow with ⟨rfl, hrow⟩ | ⟨hl, hrow⟩
        all_goals
          rw [hrow] at hcont ⊢
          simp [a65r16, a65r17, a65r18, Wp_seq hs, Wp_region hs, Wp_block hs, Wp_cond hs, hcont]
    · have hu : (Re.mk k [a, b, c, d] mn mx l).can within deep = false := by unfold Re.can; simp [hb, e0, e123, e45, e6]
      rw [hu]
      have b0 : (k == 0) = false := by simpa using e0
      have b1 : (k == 1) = false := by simp; omega
      have b2 : (k == 2) = false := by simp; omega
      have b3 : (k == 3) = false := by simp; omega
      have b4 : (k == 4) = false := by simp; omega
      have b5 : (k == 5) = false := by simp; omega
      have b6 : (k == 6) = false := by simpa using e6
      simp [a65r2, a65r3, a65r4, a65r5, a65r6, a65r7, a65r8, a65r9, a65r10, a65r11, a65r12, a65r13, a65r14, a65r15, a65r16, a65r17, a65r18, Wp_seq hs, Wp_region hs, Wp_block hs, Wp_cond hs, b0, b1, b2, b3, b4, b5, b6]

mutual
theorem can_run : ∀ (r : Re), r.wide → ∀ (within deep : Int), 0 ≤ deep → deep ≤ 1000 → ∀ (bar : Nat) (H : Heap), Rn fsT S.sp bar 65 [r.av, .int .i64 within, .int .i64 deep] H = some (.ret (.bool (r.can within deep)), H)
  | .mk k set mn mx l, hw, within, deep, h0, h1, bar, H => can_node hw ⟨h0, h1⟩ (fun x hx w d d0 d1 bar H => cans_run l (by unfold Re.wide at hw; exact hw.2.2.2) x hx w d d0 d1 bar H) H
theorem cans_run : ∀ (l : List Re), Re.wideL l → ∀ x ∈ l, ∀ (within deep : Int), 0 ≤ deep → deep ≤ 1000 → ∀ (bar : Nat) (H : Heap), Rn fsT S.sp bar 65 [x.av, .int .i64 within, .int .i64 deep] H = some (.ret (.bool (x.can within deep)), H)
  | [], _ => fun x hx => by cases hx
  | y :: l, hw => fun x hx w d d0 d1 bar H => by
    unfold Re.wideL at hw
    rcases List.mem_cons.1 hx with e | h
    · rw [e]; exact can_run y hw.1 w d d0 d1 bar H
    · exact cans_run l hw.2 x h w d d0 d1 bar H
end

theorem Can_run {r : Re} (hw : r.wide) (H : Heap) : Rn fsT S.sp bar 81 [r.av] H = some (.ret (.bool (r.can (-1) 1)), H) := by
  have hs := S.mono
  refine pure_eq hs fsT_81 rfl (by simp only [cloL, clo_av, clo]; rfl) rfl ?_
  rw [env81]
  have hc := can_run (S := S) r hw (-1) 1 (by omega) (by omega)
  obtain ⟨c, hcs, hcl⟩ := Re.av_agg hw
  rw [hcs] at hc ⊢
  have hcl8 : 8 ≤ c.length := by omega
  have htk : List.take 8 c = c := List.take_of_length_le (by omega)
  simp [a81, a81r0, a81r1, Wp_seq hs, Wp_region hs, hcl, hcl8, htk, hc]

/-- How many states a tree has, as it is told. -/
def Re.states (r : Re) : Nat := if r.can (-1) 1 then min r.cap 500 + 1 else 0

theorem states_run {r : Re} (hw : r.wide) (H : Heap) : Rn fsT S.sp bar 57 [r.av] H = some (.ret (num r.states), H) := by
  have hs := S.mono
  refine pure_eq hs fsT_57 rfl (by simp only [cloL, clo_av, clo]; rfl) rfl ?_
  rw [env57]
  have hC := fun bar H => Can_run (S := S) (bar := bar) hw H
  have hcnt := fun h => count_run (S := S) r (-1) 1 h hw (by omega)
  obtain ⟨c, hcs, hcl⟩ := Re.av_agg hw
  rw [hcs] at hC hcnt ⊢
  have hcl8 : 8 ≤ c.length := by omega
  have htk : List.take 8 c = c := List.take_of_length_le (by omega)
  unfold Re.states
  cases h : r.can (-1) 1 with
  | false =>
    rw [h] at hC
    simp [a57, a57r0, a57r1, a57r2, a57r3, Wp_seq hs, Wp_region hs, Wp_cond hs, hcl, hcl8, htk, hC]
  | true =>
    rw [h] at hC
    have hcnt := hcnt h
    by_cases h5 : (500 : Int) < (r.cap : Int)
    · have : min r.cap 500 = 500 := by omega
      simp [a57, a57r0, a57r1, a57r2, a57r3, Wp_seq hs, Wp_region hs, Wp_cond hs, hcl, hcl8, htk, hC, hcnt, h5, this, i64_id]
    · have : min r.cap 500 = r.cap := by omega
      have hw1 : IntKind.i64.wrap ((r.cap : Int) + 1) = (r.cap : Int) + 1 := i64_id _ (by omega)
      simp [a57, a57r0, a57r1, a57r2, a57r3, Wp_seq hs, Wp_region hs, Wp_cond hs, hcl, hcl8, htk, hC, hcnt, h5, this, hw1]

end Go.Ak

namespace Go.Ak
attribute [local simp] evI_skip Wp_skip Wp_exit Wp_ret Wp_some Ws_some andThen_norm andThen_ret andThen_exit andThen_pan outOf_norm outOf_ret outOf_pan outOf_exit fin_norm fin_ret fin_pan thaw_ret thaw_pan
  evSteps stepE wanted evOp opd opdL live look_mkE upd_mkE look_cons ver_cons st_at put slotty esc escs arg1 args drop1 nbeq nble nblt binA binI rd wr cellsN sub AV.cells pack one setCells resOf resV resAll roOf evPlan sameR beqE_refl beqH_refl fillA fillS newRow newObj step hdOk_nil hdOk_cons contents take flat look lim natOf bound sliceA remake eqS eqL eqA ver
  frz_bool frz_int frz_str frz_nils frz_nilp
  List.getElem?_cons_zero List.getElem?_cons_succ hget_eq hget_new hget_cons_zero hget_cons_succ hget_nil
attribute [-simp] getElem?_pos
variable {S : Sp} {bar : Nat}

theorem done_call {H : Heap} {p : Nat} {L : List NS} {first : Nat} (hb : bar ≤ p) (hl : L.length < 1000000) (h : PH H p L first) :
    Wc (Rn fsT S.sp bar 58 [.ptr p 0, .agg [.int .i64 4, .int .u64 0, .int .u64 0, .int .u64 0, .int .u64 0, .int .i64 0, .int .i64 0]] H) (fun o H' => o = .ret (num L.length) ∧ PH H' p (L ++ [⟨4, zset, 0, 0⟩]) first ∧ Front p H H') :=
  add_run ⟨4, zset, 0, 0⟩ hb rfl hl h

/-- What a machine's making leaves. -/
def BuildPost (r : Re) (H : Heap) (o : Out) (H' : Heap) : Prop :=
  (r.states = 0 ∧ o = .ret (.tup [.nilp, .int .i64 1]) ∧ H' = H) ∨ (500 < r.states ∧ o = .ret (.tup [.nilp, .int .i64 2]) ∧ H' = H) ∨
  (0 < r.states ∧ r.states ≤ 500 ∧ o = .ret (.tup [.ptr H.length 0, .int .i64 0]) ∧ (∀ i, i < H.length → hget H' i = hget H i) ∧ ∃ q, H.length < q ∧ PC H' H.length q (machine r).2 (machine r).1)

theorem Build_run {H : Heap} {r : Re} (hw : r.wide) (hb : bar ≤ H.length) : Wc (Rn fsT S.sp bar 34 [r.av] H) (BuildPost r H) := by
  have hs := S.mono
  refine Wc_heap hs fsT_34 rfl rfl ?_
  rw [env34]
  have hS := fun H => states_run (S := S) (bar := bar) hw H
  obtain ⟨c, hcs, hcl⟩ := Re.av_agg hw
  have hcl8 : 8 ≤ c.length := by omega
  have htk : List.take 8 c = c := List.take_of_length_le (by omega)
  by_cases h0 : r.states = 0
  · rw [h0] at hS
    rw [hcs] at hS ⊢
    simp [a34r0, a34r1, a34r2, a34r3, a34r4, a34r5, a34, Wp_seq hs, Wp_region hs, Wp_block hs, Wp_cond hs, hcl, hcl8, htk, hS]
    exact .inl ⟨h0, rfl, rfl⟩
  by_cases h5 : 500 < r.states
  · rw [hcs] at hS ⊢
    have h0' : ((r.states : Int) == 0) = false := by simp; omega
    have h5' : (500 : Int) < (r.states : Int) := by omega
    simp [a34r0, a34r1, a34r2, a34r3, a34r4, a34r5, a34, Wp_seq hs, Wp_region hs, Wp_block hs, Wp_cond hs, hcl, hcl8, htk, hS, h0', h5']
    exact .inr (.inl ⟨h5, rfl, rfl⟩)
  · have hcan : r.can (-1) 1 = true := by
      cases h : r.can (-1) 1 with
      | true => rfl
      | false => simp [Re.states, h] at h0
    have hst : r.states = min r.cap 500 + 1 := by simp [Re.states, hcan]
    have hcap : r.cap ≤ 499 := by omega
    have hfine := Re.can_fine r (-1) 1 hcan
    have hcnt := Re.cap_cnt r (-1) 1 hcan (by omega)
    have hP0 : PH (H ++ [some [.nils, .int .i64 0]]) H.length [] 0 := ⟨.nils, hget_new _ _, show Wide [] ∧ _ from ⟨fun x hx => (by cases hx), .inl ⟨rfl, rfl⟩⟩⟩
    obtain ⟨o, H1, hcall1, rfl, hP1, hF1⟩ := done_call (S := S) (bar := bar) hb (by simp) hP0
    simp only [List.length_nil, List.nil_append] at hcall1 hP1
    have hcall1 : Rn fsT S.sp bar 58 [.ptr H.length 0, .agg [.int .i64 4, .int .u64 0, .int .u64 0, .int .u64 0, .int .u64 0, .int .i64 0, .int .i64 0]] (H ++ [some [.nils, .int .i64 0]]) = some (.ret (.int .i64 0), H1) := hcall1
    obtain ⟨o, H2, hcall2, rfl, hP2, hF2⟩ := build_run (S := S) r hfine hw bar H.length H1 [⟨4, zset, 0, 0⟩] 0 0 hb hP1 (by simp; omega)
    have hcall2 : Rn fsT S.sp bar 59 [.ptr H.length 0, r.av, .int .i64 0] H1 = some (.ret (num (machine r).1), H2) := hcall2
    obtain ⟨lv, d1, d2, d3⟩ := hP2
    have hml := (machine_good hfine).2.2.2
    rcases d3 with ⟨d4, _⟩ | ⟨q, rfl, d4, d5⟩
    · exfalso
      have : (machine r).2.length = 0 := by unfold machine; rw [d4]; rfl
      omega
    have hne : H.length ≠ q := by omega
    rw [hcs] at hS hcall2 ⊢
    have h0' : ((r.states : Int) == 0) = false := by simp; omega
    have h5' : ¬ (500 : Int) < (r.states : Int) := by omega
    simp [a34, a34r0, a34r1, a34r2, a34r3, a34r4, a34r5, a34r6, a34p7, a34r8, Wp_seq hs, Wp_region hs, Wp_draw hs, Wp_block hs, Wp_cond hs, hcl, hcl8, htk, hS, h0', h5', hcall1, hcall2, d1, hb]
    refine .inr (.inr ⟨by omega, by omega, rfl, fun i hi => ?_, q, d4, ⟨?_, ?_, d2⟩⟩)
    · rw [hget_set_ne _ (by omega), hF2.2 i hi, hF1.2 i hi, hget_app _ hi]
    · rw [hget_set_self _ (hget_lt d1)]; rfl
    · rw [hget_set_ne _ hne]; exact d5

/-- A tree's machine, or nil. -/
theorem built_run {H : Heap} {r : Re} (hw : r.wide) (hb : bar ≤ H.length) : Wc (Rn fsT S.sp bar 4 [r.av] H) (fun o H' => ((r.states = 0 ∨ 500 < r.states) ∧ o = .ret .nilp ∧ H' = H) ∨
    (0 < r.states ∧ r.states ≤ 500 ∧ o = .ret (.ptr H.length 0) ∧ (∀ i, i < H.length → hget H' i = hget H i) ∧ ∃ q, H.length < q ∧ PC H' H.length q (machine r).2 (machine r).1)) := by
  have hs := S.mono
  refine Wc_heap hs fsT_4 rfl rfl ?_
  rw [env4]
  obtain ⟨o, H1, hcall, hp⟩ := Build_run (S := S) (bar := bar) (H := H) hw hb
  obtain ⟨c, hcs, hcl⟩ := Re.av_agg hw
  have hcl8 : 8 ≤ c.length := by omega
  have htk : List.take 8 c = c := List.take_of_length_le (by omega)
  rw [hcs] at hcall ⊢
  rcases hp with ⟨h0, rfl, rfl⟩ | ⟨h0, rfl, rfl⟩ | ⟨h0, h1, rfl, h2, h3⟩
  · simp [a4, a4r0, a4r1, a4r2, a4r3, a4r4, Wp_seq hs, Wp_region hs, Wp_cond hs, hcl, hcl8, htk, hcall, h0]
  · simp [a4, a4r0, a4r1, a4r2, a4r3, a4r4, Wp_seq hs, Wp_region hs, Wp_cond hs, hcl, hcl8, htk, hcall, h0]
  · have h00 : ¬ r.states = 0 := by omega
    have h50 : ¬ 500 < r.states := by omega
    simp [a4, a4r0, a4r1, a4r2, a4r3, a4r4, Wp_seq hs, Wp_region hs, Wp_cond hs, hcl, hcl8, htk, hcall, h0, h1, h00, h50]
    exact ⟨h2, h3⟩

end Go.Ak

namespace Go.Ak
attribute [local simp] evI_skip Wp_skip Wp_exit Wp_ret Wp_some Ws_some andThen_norm andThen_ret andThen_exit andThen_pan outOf_norm outOf_ret outOf_pan outOf_exit fin_norm fin_ret fin_pan thaw_ret thaw_pan
  evSteps stepE wanted evOp opd opdL live look_mkE upd_mkE look_cons ver_cons st_at put slotty esc escs arg1 args drop1 nbeq nble nblt binA binI rd wr cellsN sub AV.cells pack one setCells resOf resV resAll roOf evPlan sameR beqE_refl beqH_refl fillA fillS newRow newObj step hdOk_nil hdOk_cons contents take flat look lim natOf bound sliceA remake eqS eqL eqA ver
  frz_bool frz_int frz_str frz_nils frz_nilp
  List.getElem?_cons_zero List.getElem?_cons_succ hget_eq hget_new hget_cons_zero hget_cons_succ hget_nil
attribute [-simp] getElem?_pos
variable {S : Sp} {bar : Nat}

theorem frzL_scal (n0 : Nat) (H : Heap) : ∀ (l : List Nat) (r : List AV), frzL n0 H (l.map u64 ++ r) = (match frzL n0 H r with | some bs => some (l.map u64 ++ bs) | none => none)
  | [], r => by simp only [List.map_nil, List.nil_append]; cases frzL n0 H r <;> rfl
  | a :: l, r => by
    simp only [List.map_cons, List.cons_append, frzL, frz, frzL_scal n0 H l r]
    cases frzL n0 H r <;> rfl

mutual
theorem frz_av (n0 : Nat) (H : Heap) : ∀ (r : Re), frz n0 H r.av = some r.av
  | .mk k set mn mx l => by
    have h := frz_avs n0 H l
    rw [Re.av]
    simp only [frz, frzL, frzL_scal]
    cases l with
    | nil => simp [Re.avs, rowOf, frz]
    | cons x l => simp only [Re.avs, rowOf, frz] at h ⊢; rw [h]
theorem frz_avs (n0 : Nat) (H : Heap) : ∀ (l : List Re), frzL n0 H (Re.avs l) = some (Re.avs l)
  | [] => by simp [Re.avs, frzL]
  | x :: l => by simp [Re.avs, frzL, frz_av n0 H x, frz_avs n0 H l]
end

theorem hdOk_avs {l : List Re} (h : Re.wideL l) : hdOk 8 (Re.avs l) = true := by
  cases l with
  | nil => rfl
  | cons x l =>
    unfold Re.wideL at h
    obtain ⟨cs, hcs, hcl⟩ := Re.av_agg h.1
    simp [Re.avs, hdOk, hcs, AV.cells, hcl, step, nbeq]

theorem avs_append (a b : List Re) : Re.avs a ++ Re.avs b = Re.avs (a ++ b) := by simp [Re.avs_map]

/-- A row of trees, as it is handed over. -/
def rowR (a : AV) (l : List Re) : Prop := a = .slc .ro (Re.avs l) ∨ (l = [] ∧ a = .nils)

theorem rowR_of (l : List Re) : rowR (rowOf (Re.avs l)) l := by
  cases l with
  | nil => exact .inr ⟨rfl, rfl⟩
  | cons x l => exact .inl rfl

theorem Re.av_eight {r : Re} (h : r.wide) : ∃ c1 c2 c3 c4 c5 c6, r.av = .agg [.int .i64 r.k, c1, c2, c3, c4, c5, c6, rowOf (Re.avs r.l)] := by
  obtain ⟨k, set, mn, mx, l⟩ := r
  unfold Re.wide at h
  obtain ⟨a, b, c, d, rfl⟩ := four h.1
  exact ⟨_, _, _, _, _, _, by rw [Re.av]; rfl⟩

theorem joinL_append (k : Int) (a b : List Re) : joinL k (a ++ b) = joinL k a ++ joinL k b := by simp [joinL]

/-- Parts are laid one behind the other. -/
theorem join_loop {k : Int} {a : AV} {l : List Re} (ha : rowR a l) (hw : Re.wideL l) (hlen : (joinL k l).length + l.length < 1000000) {H : Heap} :
    ∀ (rest : List Re) (i : Nat) (v : Nat → AV), i ≤ l.length → l.drop i = rest → v 0 = .int .i64 k → v 1 = a → v 6 = num i → v 5 = .slc .own (Re.avs (joinL k (l.take i))) →
      Wp (evI fsT S.sp bar (.loop a3l9) (mkE 2392674742044787 v, H)) (fun e t => e = .exit 0 ∧ ∃ v', t = (mkE 2392674742044787 v', H) ∧ v' 0 = .int .i64 k ∧ v' 4 = v 4 ∧ v' 5 = .slc .own (Re.avs (joinL k l))) := by
  have hs := S.mono
  intro rest
  induction rest with
  | nil =>
    intro i v hi hr v0 v1 v6 v5
    have hi' : i = l.length := by
      have := congrArg List.length hr
      rw [List.length_drop] at this; simp at this; omega
    subst hi'
    rw [Wp_round hs a3l9.eq_1]
    rcases ha with rfl | ⟨rfl, rfl⟩
    · simp [Wp_seq hs, Wp_region hs, Wp_block hs, Wp_cond hs, a3r3, v1, v6, avs_len]
      exact ⟨_, rfl, by simpa using v0, by simp, by simpa using v5⟩
    · simp [Wp_seq hs, Wp_region hs, Wp_block hs, Wp_cond hs, a3r3, v1, v6, avs_len]
      exact ⟨_, rfl, by simpa using v0, by simp, by simpa using v5⟩
  | cons x rest ihr =>
    intro i v hi hr v0 v1 v6 v5
    have hi' : i < l.length := by
      have := congrArg List.length hr
      rw [List.length_drop] at this; simp at this; omega
    have hdc := List.drop_eq_getElem_cons hi'
    rw [hr] at hdc
    obtain ⟨hx, hr'⟩ := List.cons.inj hdc
    have hmem : x ∈ l := hx ▸ List.getElem_mem hi'
    have hxw := wideL_iff.1 hw x hmem
    obtain ⟨c1, c2, c3, c4, c5, c6, hcs⟩ := Re.av_eight hxw
    have hg : (Re.avs l)[i]? = some (.agg [.int .i64 x.k, c1, c2, c3, c4, c5, c6, rowOf (Re.avs x.l)]) := by rw [avs_get hi', ← hx, hcs]
    have ha' : a = .slc .ro (Re.avs l) := by
      rcases ha with h | ⟨rfl, _⟩
      · exact h
      · simp at hi'
    subst ha'
    have htake : l.take (i + 1) = l.take i ++ [x] := by rw [List.take_succ_eq_append_getElem hi', hx]
    have hju : joinL k (l.take (i + 1)) = joinL k (l.take i) ++ x.part k := by rw [htake, joinL_append]; simp [joinL]
    have hsplit : joinL k l = joinL k (l.take (i + 1)) ++ joinL k (l.drop (i + 1)) := by rw [← joinL_append, List.take_append_drop]
    have hll : (joinL k (l.take i)).length + (x.part k).length ≤ (joinL k l).length := by
      rw [hsplit, hju]; simp only [List.length_append]; omega
    have hwt : Re.wideL (joinL k (l.take i)) := wide_joinL (wideL_iff.2 fun y hy => wideL_iff.1 hw y (List.mem_of_mem_take hy))
    have hok := hdOk_avs hwt
    have hw1 : IntKind.i64.wrap ((i : Int) + 1) = (i : Int) + 1 := i64_id _ (by omega)
    have hgo : ∀ v', v' 0 = .int .i64 k → v' 1 = .slc .ro (Re.avs l) → v' 6 = num (i + 1) → v' 4 = v 4 → v' 5 = .slc .own (Re.avs (joinL k (l.take (i + 1)))) →
        Wp (evI fsT S.sp bar (.loop a3l9) (mkE 2392674742044787 v', H)) (fun e t => e = .exit 0 ∧ ∃ v', t = (mkE 2392674742044787 v', H) ∧ v' 0 = .int .i64 k ∧ v' 4 = v 4 ∧ v' 5 = .slc .own (Re.avs (joinL k l))) := fun v' w0 w1 w6 w4 w5 => by
      rw [← w4]
      exact ihr (i + 1) v' (by omega) hr'.symm w0 w1 w6 w5
    rw [Wp_round hs a3l9.eq_1]
    by_cases hk : x.k = k
    · have hp : x.part k = x.l := by simp [Re.part, hk]
      have hok2 : hdOk 8 (Re.avs x.l) = true := hdOk_avs (by rw [← hp]; exact wide_part hxw)
      rw [hp] at hll hju
      rw [hju, ← avs_append] at hgo
      have hle : ((joinL k (l.take i)).length + x.l.length) * 8 ≤ 4294967296 := by omega
      have hrow : (x.l = [] ∧ rowOf (Re.avs x.l) = .nils) ∨ rowOf (Re.avs x.l) = .slc .ro (Re.avs x.l) := by
        cases x.l with
        | nil => exact .inl ⟨rfl, rfl⟩
        | cons y l => exact .inr rfl
      rcases hrow with ⟨hxl, hrow⟩ | hrow
      · rw [hxl] at hgo hle hok2
        simp only [Re.avs, List.append_nil] at hgo
        have hle0 : (joinL k (l.take i)).length * 8 ≤ 4294967296 := by simpa using hle
        simp [Wp_seq hs, Wp_region hs, Wp_block hs, Wp_cond hs, a3r3, a3r4, a3r5, a3r6, a3r7, a3r8, v0, v1, v6, v5, avs_len, hi', hg, hk, hrow, hw1, hok, hle0]
        refine (hgo _ ?_ ?_ ?_ ?_ ?_).mono fun e t h => by simpa using h
        all_goals simp [v0, v1]
      · simp [Wp_seq hs, Wp_region hs, Wp_block hs, Wp_cond hs, a3r3, a3r4, a3r5, a3r6, a3r7, a3r8, v0, v1, v6, v5, avs_len, hi', hg, hk, hrow, hw1, hok, hok2, hle]
        refine (hgo _ ?_ ?_ ?_ ?_ ?_).mono fun e t h => by simpa using h
        all_goals simp [v0, v1]
    · have hk' : (x.k == k) = false := by simpa using hk
      by_cases h0 : x.k = 0
      · have h0' : (x.k != 0) = false := by simp [h0]
        by_cases h5 : k = 5
        · have h5' : (k == 5) = true := by simp [h5]
          have hp : x.part k = [x] := by unfold Re.part; rw [if_neg hk, if_pos (.inr h5)]
          rw [hp] at hll hju
          rw [hju, ← avs_append] at hgo
          simp only [Re.avs, hcs] at hgo
          have hle : ((joinL k (l.take i)).length + 1) * 8 ≤ 4294967296 := by simp only [List.length_cons, List.length_nil] at hll; omega
          simp [Wp_seq hs, Wp_region hs, Wp_block hs, Wp_cond hs, a3r3, a3r4, a3r5, a3r6, a3r7, a3r8, v0, v1, v6, v5, avs_len, hi', hg, hk', h0', h5', hw1, hok, hle]
          refine (hgo _ ?_ ?_ ?_ ?_ ?_).mono fun e t h => by simpa using h
          all_goals simp [v0, v1]
        · have h5' : (k == 5) = false := by simpa using h5
          have hp : x.part k = [] := by unfold Re.part; rw [if_neg hk, if_neg (by omega)]
          rw [hp, List.append_nil] at hju
          rw [hju] at hgo
          simp [Wp_seq hs, Wp_region hs, Wp_block hs, Wp_cond hs, a3r3, a3r4, a3r5, a3r6, a3r7, a3r8, v0, v1, v6, v5, avs_len, hi', hg, hk', h0', h5', hw1]
          refine (hgo _ ?_ ?_ ?_ ?_ ?_).mono fun e t h => by simpa using h
          all_goals simp [v0, v1, v5]
      · have h0' : (x.k != 0) = true := by simpa using h0
        have hp : x.part k = [x] := by simp [Re.part, hk, h0]
        rw [hp] at hll hju
        rw [hju, ← avs_append] at hgo
        simp only [Re.avs, hcs] at hgo
        have hle : ((joinL k (l.take i)).length + 1) * 8 ≤ 4294967296 := by simp only [List.length_cons, List.length_nil] at hll; omega
        simp [Wp_seq hs, Wp_region hs, Wp_block hs, Wp_cond hs, a3r3, a3r4, a3r5, a3r6, a3r7, a3r8, v0, v1, v6, v5, avs_len, hi', hg, hk', h0', hw1, hok, hle]
        refine (hgo _ ?_ ?_ ?_ ?_ ?_).mono fun e t h => by simpa using h
        all_goals simp [v0, v1]

end Go.Ak

namespace Go.Ak
attribute [local simp] evI_skip Wp_skip Wp_exit Wp_ret Wp_some Ws_some andThen_norm andThen_ret andThen_exit andThen_pan outOf_norm outOf_ret outOf_pan outOf_exit fin_norm fin_ret fin_pan thaw_ret thaw_pan
  evSteps stepE wanted evOp opd opdL live look_mkE upd_mkE look_cons ver_cons st_at put slotty esc escs arg1 args drop1 nbeq nble nblt binA binI rd wr cellsN sub AV.cells pack one setCells resOf resV resAll roOf evPlan sameR beqE_refl beqH_refl fillA fillS newRow newObj step hdOk_nil hdOk_cons contents take flat look lim natOf bound sliceA remake eqS eqL eqA ver
  frz_bool frz_int frz_str frz_nils frz_nilp
  List.getElem?_cons_zero List.getElem?_cons_succ hget_eq hget_new hget_cons_zero hget_cons_succ hget_nil
attribute [-simp] getElem?_pos
variable {S : Sp} {bar : Nat}

theorem Join_run {k : Int} {a : AV} {l : List Re} (ha : rowR a l) (hw : Re.wideL l) (hlen : (joinL k l).length + l.length < 1000000) (H : Heap) : Rn fsT S.sp bar 3 [.int .i64 k, a] H = some (.ret (joinF k l).av, H) := by
  have hs := S.mono
  have hca : cloL [.int .i64 k, a] = true := by
    rcases ha with rfl | ⟨rfl, rfl⟩
    · simp [cloL, clo, cloL_avs]
    · simp [cloL, clo]
  refine pure_eq hs fsT_3 rfl hca rfl ?_
  rw [env3]
  have hw2 := wide_joinL (k := k) hw
  have hend : ∀ (v : Nat → AV), v 0 = .int .i64 k → v 1 = a → v 6 = num 0 → v 5 = .slc .own [] → v 4 = .box [.int .i64 0, .int .u64 0, .int .u64 0, .int .u64 0, .int .u64 0, .int .i64 0, .int .i64 0, .nils] →
      Wp (evI fsT S.sp 0 (.loop a3l9) (mkE 2392674742044787 v, [])) (fun e t => e = .exit 0 ∧ ∃ v', t = (mkE 2392674742044787 v', []) ∧ v' 0 = .int .i64 k ∧ v' 4 = .box [.int .i64 0, .int .u64 0, .int .u64 0, .int .u64 0, .int .u64 0, .int .i64 0, .int .i64 0, .nils] ∧ v' 5 = .slc .own (Re.avs (joinL k l))) := by
    intro v v0 v1 v6 v5 v4
    rw [← v4]
    exact join_loop ha hw hlen l 0 v (by omega) rfl v0 v1 v6 (by simpa [joinL, Re.avs] using v5)
  have hres : ∀ r : Re, frz 0 [] r.av = some r.av := frz_av 0 []
  unfold joinF
  rcases ha with rfl | ⟨rfl, rfl⟩
  all_goals
    simp [a3r0, a3r1, a3r2, a3, Wp_seq hs, Wp_region hs, Wp_block hs]
    refine (hend _ ?_ ?_ ?_ ?_ ?_).mono fun e t h => ?_
    · simp
    · simp
    · simp
    · simp
    · simp
    · obtain ⟨rfl, v', rfl, w0, w4, w5⟩ := h
      generalize joinL k _ = J at w5 hw2
      match J, w5, hw2 with
      | [], w5, hw2 =>
        have := hres emptyRe
        simp only [emptyRe, Re.av, zset, Re.avs, rowOf, List.map_cons, List.map_nil, List.cons_append, List.nil_append] at this
        simp [a3r10, a3r11, a3r12, a3r13, a3r14, Wp_seq hs, Wp_region hs, Wp_cond hs, w0, w4, w5, Re.avs, oneOf, emptyRe, Re.av, zset, rowOf]
        exact this
      | [x], w5, hw2 =>
        obtain ⟨c1, c2, c3, c4, c5, c6, hcs⟩ := Re.av_eight (by simpa [Re.wideL] using hw2 : x.wide)
        have := hres x
        rw [hcs] at this
        simp only [Re.avs, hcs] at w5
        simp [a3r10, a3r11, a3r12, a3r13, a3r14, Wp_seq hs, Wp_region hs, Wp_cond hs, w0, w4, w5, oneOf, hcs]
        exact this
      | x :: y :: J, w5, hw2 =>
        have := hres (oneOf k (x :: y :: J))
        simp only [oneOf, Re.av, zset, rowOf, Re.avs, List.map_cons, List.map_nil, List.cons_append, List.nil_append] at this
        have hl1 : (((Re.avs J).length : Int) + 1 + 1 == 0) = false := by simp; omega
        have hl2 : (((Re.avs J).length : Int) + 1 + 1 == 1) = false := by simp; omega
        simp only [Re.avs] at w5
        simp [a3r10, a3r11, a3r12, a3r13, a3r14, Wp_seq hs, Wp_region hs, Wp_cond hs, w0, w4, w5, oneOf, hl1, hl2, Re.av, zset, rowOf, Re.avs]
        exact this

/-- Two rows of numbers are compared. -/
theorem same_loop {a b : List Nat} {p q : Perm} (hp : p = .ro) (hq : q = .ro) (hl : a.length = b.length) (hlen : a.length < 1000000) {H : Heap} :
    ∀ (n i : Nat) (v : Nat → AV), i + n = a.length → a.take i = b.take i → v 0 = .slc p (nums a) → v 1 = .slc q (nums b) → v 5 = num i →
      Wp (evI fsT S.sp bar (.loop a6l8) (mkE 33571891 v, H)) (fun e t => (a = b ∧ e = .exit 0 ∧ ∃ v', t = (mkE 33571891 v', H)) ∨ (a ≠ b ∧ e = .ret ∧ ∃ v', t = (mkE 33571891 v', H) ∧ v' 4 = .bool false)) := by
  have hs := S.mono
  subst hp hq
  intro n
  induction n with
  | zero =>
    intro i v hi ht v0 v1 v5
    have hi' : i = a.length := by omega
    subst hi'
    rw [Wp_round hs a6l8.eq_1]
    have e : a = b := by rw [List.take_length, hl, List.take_length] at ht; exact ht
    simp [Wp_seq hs, Wp_region hs, Wp_block hs, Wp_cond hs, a6r4, v0, v5, nums_len]
    exact ⟨e, _, rfl⟩
  | succ n ih =>
    intro i v hi ht v0 v1 v5
    have hi' : i < a.length := by omega
    have hib : i < b.length := by omega
    have ga : (nums a)[i]? = some (num a[i]) := by simp [nums, List.getElem?_eq_getElem hi']
    have gb : (nums b)[i]? = some (num b[i]) := by simp [nums, List.getElem?_eq_getElem hib]
    have hw1 : IntKind.i64.wrap ((i : Int) + 1) = (i : Int) + 1 := i64_id _ (by omega)
    rw [Wp_round hs a6l8.eq_1]
    by_cases e : a[i] = b[i]
    · have e' : (((a[i] : Nat) : Int) != (b[i] : Nat)) = false := by rw [e]; simp
      simp [Wp_seq hs, Wp_region hs, Wp_draw hs, Wp_block hs, Wp_cond hs, a6r4, a6p5, a6r6, a6r7, v0, v1, v5, nums_len, hi', ga, gb, e', hw1]
      refine (ih (i + 1) _ (by omega) ?_ ?_ ?_ ?_).mono fun e t h => by simpa using h
      · rw [List.take_succ_eq_append_getElem hi', List.take_succ_eq_append_getElem hib, ht, e]
      · simp [v0]
      · simp [v1]
      · simp
    · have e' : (((a[i] : Nat) : Int) != (b[i] : Nat)) = true := by simp; omega
      have hab : a ≠ b := fun h => e (by subst h; rfl)
      simp [Wp_seq hs, Wp_region hs, Wp_draw hs, Wp_block hs, Wp_cond hs, a6r4, a6p5, a6r6, a6r7, v0, v1, v5, nums_len, hi', ga, gb, e', hw1]
      exact ⟨hab, _, rfl, by simp⟩

theorem Same_run (a b : List Nat) (hla : a.length < 1000000) (x y : AV) (hx : x = rowP .ro a) (hy : y = .slc .ro (nums b)) (H : Heap) : Rn fsT S.sp bar 6 [x, y] H = some (.ret (.bool (decide (a = b))), H) := by
  have hs := S.mono
  subst hx hy
  have hcl : ∀ l : List Nat, cloL (nums l) = true := fun l => by
    induction l with
    | nil => rfl
    | cons a l ih => simp only [nums, List.map_cons, cloL, clo] at ih ⊢; simpa using ih
  have hca : cloL [rowP .ro a, .slc .ro (nums b)] = true := by
    cases a with
    | nil => simp [cloL, clo, rowP, hcl]
    | cons c l => simp [cloL, clo, rowP, hcl]
  refine pure_eq hs fsT_6 rfl hca rfl ?_
  rw [env6]
  by_cases hl : a.length = b.length
  · have hfin := fun v => same_loop (S := S) (bar := 0) (p := .ro) (q := .ro) (H := []) rfl rfl hl hla a.length 0 v (by omega) rfl
    have hl' : ((a.length : Int) != (b.length : Int)) = false := by simp [hl]
    cases a with
    | nil =>
      have hb : b = [] := List.eq_nil_of_length_eq_zero (by simpa using hl.symm)
      subst hb
      simp [a6, a6r0, a6r1, a6r2, a6r3, a6r4, a6p5, a6r6, a6r7, a6r9, Wp_seq hs, Wp_region hs, Wp_block hs, Wp_cond hs, rowP, nums]
      rw [Wp_round hs a6l8.eq_1]
      simp [a6, a6r0, a6r1, a6r2, a6r3, a6r4, a6p5, a6r6, a6r7, a6r9, Wp_seq hs, Wp_region hs, Wp_block hs, Wp_cond hs]
    | cons c l =>
      simp only [rowP]
      have hl2 : (((nums (c :: l)).length : Int) != ((nums b).length : Int)) = false := by rw [nums_len, nums_len]; exact hl'
      simp [a6r0, a6r1, a6r2, a6r3, a6, Wp_seq hs, Wp_region hs, Wp_block hs, Wp_cond hs, hl2]
      refine (hfin _ ?_ ?_ ?_).mono fun e t h => ?_
      · simp
      · simp
      · simp
      · rcases h with ⟨h1, rfl, v', rfl⟩ | ⟨h1, rfl, v', rfl, h2⟩
        · simp [a6r9, Wp_seq hs, Wp_region hs, h1]
        · simp [h1, h2]
  · have hl' : ((a.length : Int) != (b.length : Int)) = true := by simp; omega
    have hab : a ≠ b := fun h => hl (by rw [h])
    cases a with
    | nil =>
      have hl2 : ((0 : Int) != ((nums b).length : Int)) = true := by rw [nums_len]; simpa using hl'
      simp [a6, a6r0, a6r1, a6r2, a6r3, a6r4, a6p5, a6r6, a6r7, a6r9, Wp_seq hs, Wp_region hs, Wp_block hs, Wp_cond hs, rowP, hl2, hab]
    | cons c l =>
      simp only [rowP]
      have hl2 : (((nums (c :: l)).length : Int) != ((nums b).length : Int)) = true := by rw [nums_len, nums_len]; exact hl'
      simp [a6, a6r0, a6r1, a6r2, a6r3, a6r4, a6p5, a6r6, a6r7, a6r9, Wp_seq hs, Wp_region hs, Wp_block hs, Wp_cond hs, hl2, hab]

end Go.Ak

namespace Go.Ak
attribute [local simp] evI_skip Wp_skip Wp_exit Wp_ret Wp_some Ws_some andThen_norm andThen_ret andThen_exit andThen_pan outOf_norm outOf_ret outOf_pan outOf_exit fin_norm fin_ret fin_pan thaw_ret thaw_pan
  evSteps stepE wanted evOp opd opdL live look_mkE upd_mkE look_cons ver_cons st_at put slotty esc escs arg1 args drop1 nbeq nble nblt binA binI rd wr cellsN sub AV.cells pack one setCells resOf resV resAll roOf evPlan sameR beqE_refl beqH_refl fillA fillS newRow newObj step hdOk_nil hdOk_cons contents take flat look lim natOf bound sliceA remake eqS eqL eqA ver
  frz_bool frz_int frz_str frz_nils frz_nilp
  List.getElem?_cons_zero List.getElem?_cons_succ hget_eq hget_new hget_cons_zero hget_cons_succ hget_nil
attribute [-simp] getElem?_pos
variable {S : Sp} {bar : Nat}

theorem i64_byte (n : Nat) (h : n < 256) (k : Int) (hk : k = n) : IntKind.u8.wrap k = n := by
  subst hk
  simp only [IntKind.wrap, IntKind.bits, IntKind.signed]; simp; omega

theorem u64_pow (k : Nat) (h : k < 64) : IntKind.u64.wrap (2 ^ k) = ((2 ^ k : Nat) : Int) := by
  have h1 : 2 ^ k < 2 ^ 64 := Nat.pow_lt_pow_right (by omega) h
  have e : (2 : Int) ^ k = ((2 ^ k : Nat) : Int) := by push_cast; rfl
  rw [e]
  generalize 2 ^ k = P at h1
  simp only [IntKind.wrap, IntKind.bits, IntKind.signed]
  simp
  omega

/-- A row of sets of one byte each. -/
theorem text_loop {s : List UInt8} (hs' : s.length < 1000000) {H : Heap} : ∀ (n i : Nat) (v : Nat → AV), i + n = s.length → v 0 = .str s → v 8 = num i → v 7 = .slc .own (Re.avs ((s.map byteRe).take i)) →
    Wp (evI fsT S.sp bar (.loop a1l10) (mkE 4503600172632007 v, H)) (fun e t => e = .exit 0 ∧ ∃ v', t = (mkE 4503600172632007 v', H) ∧ v' 0 = v 0 ∧ v' 1 = v 1 ∧ v' 2 = v 2 ∧ v' 7 = .slc .own (Re.avs (s.map byteRe))) := by
  have hs := S.mono
  intro n
  induction n with
  | zero =>
    intro i v hi v0 v8 v7
    have hi' : i = s.length := by omega
    subst hi'
    rw [Wp_round hs a1l10.eq_1]
    simp [Wp_seq hs, Wp_region hs, Wp_block hs, Wp_cond hs, a1r5, v0, v8]
    exact ⟨_, rfl, by simpa using v0, by simp, by simp, by simpa [List.take_of_length_le] using v7⟩
  | succ n ih =>
    intro i v hi v0 v8 v7
    have hi' : i < s.length := by omega
    have hg : s[i]? = some s[i] := List.getElem?_eq_getElem hi'
    generalize hc : s[i] = c at hg
    have hcl : c.toNat < 256 := c.toNat_lt
    have hw1 : IntKind.i64.wrap ((i : Int) + 1) = (i : Int) + 1 := i64_id _ (by omega)
    obtain ⟨j, hj⟩ : ∃ j, c.toNat / 64 = j := ⟨_, rfl⟩
    have hj4 : j < 4 := by omega
    have hq : IntKind.u8.wrap ((c.toNat : Int) / 64) = (j : Int) := i64_byte j (by omega) _ (by omega)
    have hr : ¬ ((c.toNat : Int) % 64 < 0) := by omega
    have hr0 : (c.toNat : Int).tmod 64 = ((c.toNat % 64 : Nat) : Int) := by
      rw [Int.tmod_eq_emod_of_nonneg (by omega)]; omega
    have hm : min ((c.toNat : Int) % 64).toNat IntKind.u64.bits = c.toNat % 64 := by simp only [IntKind.bits]; omega
    have hp := u64_pow (c.toNat % 64) (by omega)
    have hw : Re.wideL ((s.map byteRe).take i) := wideL_iff.2 fun x hx => wideL_iff.1 (wide_text s) x (List.mem_of_mem_take hx)
    have hok := hdOk_avs hw
    have hsn : (s.map byteRe).take (i + 1) = (s.map byteRe).take i ++ [byteRe c] := by rw [List.take_succ_eq_append_getElem (by simpa using hi'), List.getElem_map, hc]
    have hle : (i + 1) * 8 ≤ 4294967296 := by omega
    have hmin : min i s.length = i := by omega
    have hav : (byteRe c).av = .agg (.int .i64 1 :: ((zset.set j (2 ^ (c.toNat % 64))).map u64 ++ [.int .i64 0, .int .i64 0, .nils])) := by
      unfold byteRe oneB; rw [hj]; rfl
    rw [Wp_round hs a1l10.eq_1]
    rcases (by omega : j = 0 ∨ j = 1 ∨ j = 2 ∨ j = 3) with rfl | rfl | rfl | rfl
    all_goals
      simp [zset] at hav
      simp [Wp_seq hs, Wp_region hs, Wp_draw hs, Wp_block hs, Wp_cond hs, a1r5, a1r6, a1p7, a1r8, a1r9, v0, v8, v7, hi', hg, hq, hr, hr0, hm, hp, hok, hle, avs_len, hmin, hw1]
      refine (ih (i + 1) _ (by omega) ?_ ?_ ?_).mono fun e t h => by simpa [v0] using h
      · simp [v0]
      · simp
      · rw [hsn, ← avs_append]; simp [Re.avs, hav]

/-- The law, its living part told. -/
theorem nfaTexts_run (hlives : ∀ (bar : Nat) (H : Heap), Rn fsT S.sp bar 2 [] H = some (.ret (.bool true), H)) (s a b : List UInt8) (H : Heap) : Rn fsT S.sp bar 1 [.str s, .str a, .str b] H = some (.ret (.bool true), H) := by
  have hs := S.mono
  refine pure_eq hs fsT_1 rfl rfl rfl ?_
  rw [env1]
  by_cases h1 : 30 < s.length
  · have h1' : (30 : Int) < (s.length : Int) := by omega
    simp [a1r0, a1r1, a1r2, a1, Wp_seq hs, Wp_region hs, Wp_cond hs, h1', hlives]
  have h1' : ¬ (30 : Int) < (s.length : Int) := by omega
  by_cases h2 : 30 < a.length
  · have h2' : (30 : Int) < (a.length : Int) := by omega
    simp [a1r0, a1r1, a1r2, a1, Wp_seq hs, Wp_region hs, Wp_cond hs, h1', h2', hlives]
  have h2' : ¬ (30 : Int) < (a.length : Int) := by omega
  by_cases h3 : 30 < b.length
  · have h3' : (30 : Int) < (b.length : Int) := by omega
    simp [a1r0, a1r1, a1r2, a1, Wp_seq hs, Wp_region hs, Wp_cond hs, h1', h2', h3', hlives]
  have h3' : ¬ (30 : Int) < (b.length : Int) := by omega
  have hloop := fun v v0 v8 v7 => text_loop (S := S) (bar := 0) (s := s) (H := []) (by omega) s.length 0 v (by omega) v0 v8 v7
  have hwl := wide_text s
  have hJ := Join_run (S := S) (bar := 0) (k := 4) (a := .slc .ro (Re.avs (s.map byteRe))) (l := s.map byteRe) (.inl rfl) hwl (by rw [joinL_text]; simp; omega) []
  have hT : joinF 4 (s.map byteRe) = textRe s := rfl
  rw [hT] at hJ
  have hwT : (textRe s).wide := by
    unfold textRe joinF
    rw [joinL_text]
    exact wide_oneOf hwl (by simp; omega)
  have hcan := text_can s
  have hcap := text_cap s (by omega)
  have hst : (textRe s).states = (textRe s).cap + 1 := by unfold Re.states; rw [if_pos hcan]; omega
  have hfine := Re.can_fine _ _ _ hcan
  obtain ⟨m1, m2, m3, m4⟩ := machine_good hfine
  have hcnt := Re.cap_cnt _ _ _ hcan (by omega)
  obtain ⟨o, H1, hbuilt, hb⟩ := built_run (S := S) (bar := 0) (H := []) hwT (Nat.zero_le _)
  rcases hb with ⟨hb, _⟩ | ⟨_, _, rfl, _, q, _, hPC⟩
  · omega
  have hlen : a.length ≤ (a ++ s ++ b).length := by simp
  have hE := Ends_run (S := S) (bar := 0) (s := a ++ s ++ b) (at' := a.length) hPC m1 m2 (by simp; omega) (by omega) hlen
  obtain ⟨e1, e2⟩ := ends_machine (s := a ++ s ++ b) (i := a.length) hfine hlen
  have hends : endsF (machine (textRe s)).2 (machine (textRe s)).1 (a ++ s ++ b) a.length = [a.length + s.length] := by
    refine rising_uniq (fun j => ?_) e2 (by simp)
    rw [e1 j, textRe_M]
    have : ((a ++ s ++ b).drop a.length).take s.length = s := by rw [List.append_assoc, List.drop_left, List.take_left]
    simp [this]
  rw [hends] at hE
  have hS := Same_run (S := S) (bar := 0) [a.length + s.length] [a.length + s.length] (by simp) _ _ rfl rfl H1
  simp only [decide_true, rowP, nums, List.map_cons, List.map_nil] at hS hE
  have hb1 : IntKind.i64.wrap ((a.length : Int) + (s.length : Int)) = (a.length : Int) + s.length := i64_id _ (by omega)
  have c1 : a.length + s.length ≤ 4611686018427387904 := by omega
  have c2 : a.length + (s.length + b.length) ≤ 4611686018427387904 := by omega
  have c3 : a.length + s.length + b.length ≤ 4611686018427387904 := by omega
  have hcast : ((a.length + s.length : Nat) : Int) = (a.length : Int) + s.length := by omega
  simp only [List.append_assoc, num, hcast, List.length_nil] at hE hS hbuilt
  have hl2 := hlives 0 H1
  obtain ⟨cs, hcs, hcl⟩ := Re.av_agg hwT
  rw [hcs] at hJ hbuilt
  simp [a1r0, a1r1, a1r2, a1r3, a1r4, a1, Wp_seq hs, Wp_region hs, Wp_block hs, Wp_cond hs, h1', h2', h3']
  refine (hloop _ ?_ ?_ ?_).mono fun e t h => ?_
  · simp
  · simp
  · simp [Re.avs]
  · obtain ⟨rfl, v', rfl, w0, w1, w2, w7⟩ := h
    simp [w0, w1, w2, w7, a1r11, a1r12, a1r13, a1r14, Wp_seq hs, Wp_region hs, Wp_block hs, Wp_cond hs, binS, hJ, hbuilt, hE, hS, hl2, hb1, c1, c2, c3]

end Go.Ak

namespace Go.Ak

theorem pure_any {fs : Nat → Option AFunc} {sp : Nat → (Nat → CallF) → Nat → CallF} (hs : SpMono sp) {f : Nat} {F : AFunc} (hf : fs f = some F) (hp : F.pure = true) {as : List AV} (hc : cloL as = true) {v : AV} {bar0 n : Nat} {H0 H1 : Heap} (h : run fs sp n bar0 f as H0 = some (.ret v, H1)) (bar : Nat) (H : Heap) :
    Rn fs sp bar f as H = some (.ret v, H) := by
  have h1 := (Rn_iff hs).2 ⟨n, h⟩
  rw [Rn_eq hs hf, hp, hc] at h1 ⊢
  simp only [cond_true] at h1 ⊢
  cases hx : runI fs sp 0 F as [] with
  | none => rw [hx] at h1; cases h1
  | some q =>
    obtain ⟨o, K⟩ := q
    rw [hx] at h1
    cases o with
    | ret u =>
      simp only [pureR] at h1 ⊢
      split at h1
      · rename_i w hw
        simp only [Option.some.injEq, Prod.mk.injEq, Out.ret.injEq] at h1
        rw [h1.1]
      · cases h1
    | pan u =>
      simp only [pureR] at h1
      split at h1
      · cases h1
      · cases h1

/-- No special function. -/
def S0 : Sp := ⟨fun _ _ _ => fun _ _ _ => none, fun _ _ _ _ _ _ _ f as H r h => by cases h⟩

end Go.Ak

