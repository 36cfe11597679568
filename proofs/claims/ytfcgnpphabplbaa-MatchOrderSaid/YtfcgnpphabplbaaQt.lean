/- That the law answers true. -/
import Derived.Test.YtfcgnpphabplbaaQs
import Derived.ProofKit
set_option linter.unusedVariables false
set_option linter.unusedSimpArgs false

namespace Go.Ak
set_option maxRecDepth 100000

theorem lives07_run : run fsT spB 300 0 9 [] [] = some (.ret (.bool true), []) := by kernel_rfl

theorem lives07 (bar : Nat) (H : Heap) : Rn fsT SA.sp bar 9 [] H = some (.ret (.bool true), H) := pure_any SA.mono fsT_9 rfl rfl lives07_run bar H

end Go.Ak

namespace Go.Ak
attribute [local simp] evI_skip Wp_skip Wp_exit Wp_ret Wp_some Ws_some andThen_norm andThen_ret andThen_exit andThen_pan outOf_norm outOf_ret outOf_pan outOf_exit fin_norm fin_ret fin_pan thaw_ret thaw_pan
 evSteps stepE wanted evOp opd opdL live look_mkE upd_mkE look_cons ver_cons st_at put slotty esc escs arg1 args drop1 nbeq nble nblt binA binI rd wr cellsN sub AV.cells pack one setCells resOf resV resAll roOf evPlan sameR beqE_refl beqH_refl fillA fillS newRow newObj step hdOk_nil hdOk_cons contents take flat look lim natOf bound sliceA remake eqS eqL eqA ver
 frz_bool frz_int frz_str frz_nils frz_nilp
 List.getElem?_cons_zero List.getElem?_cons_succ hget_eq hget_new hget_cons_zero hget_cons_succ hget_nil
attribute [local simp] mvV mvL mgV mgL asL asI asB ldN ldV ldL ldG stV stL fdL fdV fdG fgL nlC nlG bnI bvI bnL bvL bxI bxU bgI bgL exT lnS lgS clA clB clC clI pkT pkF pvT pvF pgT pgF ixL axV bxV apL
attribute [-simp] getElem?_pos

section

theorem inOrder_get {len : Nat} : ∀ {L : List (Nat × Nat)} {at' : Nat} {last : Int}, InOrder len at' last L → ∀ i f t, L[i]? = some (f, t) → f ≤ t ∧ t ≤ len ∧ ∀ a b, 0 < i → L[i - 1]? = some (a, b) → b ≤ f ∧ b < t
 | [], _, _, _, i, f, t, h => by simp at h
 | (x, y) :: L, at', last, h, i, f, t, hi => by
  obtain ⟨h1, h2, h3, h4, h5⟩ := h
  cases i with
  | zero =>
   simp only [List.getElem?_cons_zero, Option.some.injEq, Prod.mk.injEq] at hi
   obtain ⟨rfl, rfl⟩ := hi
   exact ⟨h2, h3, fun a b h => by omega⟩
  | succ i =>
   simp only [List.getElem?_cons_succ] at hi
   obtain ⟨g1, g2, g3⟩ := inOrder_get h5 i f t hi
   refine ⟨g1, g2, fun a b _ hab => ?_⟩
   simp only [Nat.add_sub_cancel] at hab
   cases i with
   | zero =>
    simp only [List.getElem?_cons_zero, Option.some.injEq, Prod.mk.injEq] at hab
    obtain ⟨rfl, rfl⟩ := hab
    cases L with
    | nil => simp at hi
    | cons z L =>
     obtain ⟨p, q⟩ := z
     simp only [List.getElem?_cons_zero, Option.some.injEq, Prod.mk.injEq] at hi
     obtain ⟨rfl, rfl⟩ := hi
     obtain ⟨k1, k2, k3, k4, k5⟩ := h5
     exact ⟨k1, by omega⟩
   | succ i =>
    simp only [List.getElem?_cons_succ] at hab
    exact g3 a b (by omega) (by simpa using hab)

theorem order_loop {bar : Nat} {H : Heap} {s : List UInt8} {L : List (Nat × Nat)} (hL : InOrder s.length 0 (-1) L) (hlen : L.length ≤ 1000) :
  ∀ (n i : Nat) (v : Nat → AV), i + n = L.length → v 1 = .str s → v 8 = pairsA (L.map pairZ) → v 9 = num i →
   Wp (evI fsT SA.sp bar (.loop a7l12) (mkE 158456325028528675204335010803 v, H)) (fun e t => e = .exit 0 ∧ ∃ v', t = (mkE 158456325028528675204335010803 v', H) ∧ v' 1 = .str s ∧ v' 5 = v 5 ∧ v' 8 = pairsA (L.map pairZ)) := by
 have hs := SA.mono
 have hrow : (L = [] ∧ pairsA (L.map pairZ) = .nils) ∨ pairsA (L.map pairZ) = .slc .ro ((L.map pairZ).map pairA) := by
  cases L with
  | nil => exact .inl ⟨rfl, rfl⟩
  | cons x L => exact .inr rfl
 intro n
 induction n with
 | zero =>
  intro i v hi v1 v8 v9
  have hi' : i = L.length := by omega
  subst hi'
  rw [Wp_round hs a7l12.eq_1]
  rcases hrow with ⟨rfl, hrow⟩ | hrow
  all_goals
   rw [hrow] at v8
   simp [Wp_seq hs, Wp_region hs, Wp_block hs, Wp_cond hs, a7r8, v8, v9]
   exact ⟨_, rfl, by simp [v1], by simp, by first | (simp [v8]; rfl) | (simpa [v8] using hrow.symm)⟩
 | succ n ih =>
  intro i v hi v1 v8 v9
  have hi' : i < L.length := by omega
  obtain ⟨f, t, hft⟩ : ∃ f t, L[i]? = some (f, t) := ⟨L[i].1, L[i].2, by rw [List.getElem?_eq_getElem hi']⟩
  obtain ⟨g1, g2, g3⟩ := inOrder_get hL i f t hft
  have hg : ((L.map pairZ).map pairA)[i]? = some (.agg [num f, num t]) := by simp [hft, pairZ, pairA]
  have hll : ((L.map pairZ).map pairA).length = L.length := by simp
  rcases hrow with ⟨rfl, hrow⟩ | hrow
  ·simp at hi'
  rw [hrow] at v8
  generalize hA : (L.map pairZ).map pairA = A at *
  have hw1 : IntKind.i64.wrap ((i : Int) + 1) = (i : Int) + 1 := i64_id _ (by omega)
  have q1 : ¬ (t : Int) < (f : Int) := by omega
  have q2 : ¬ (f : Int) < 0 := by omega
  have q3 : ¬ (s.length : Int) < (t : Int) := by omega
  rw [Wp_round hs a7l12.eq_1]
  by_cases h0 : 0 < i
  ·obtain ⟨a, b, hab⟩ : ∃ a b, L[i - 1]? = some (a, b) := ⟨L[i - 1].1, L[i - 1].2, by rw [List.getElem?_eq_getElem (by omega)]⟩
   obtain ⟨g4, g5⟩ := g3 a b h0 hab
   have hg2 : A[i - 1]? = some (.agg [num a, num b]) := by rw [← hA]; simp [hab, pairZ, pairA]
   have hwm : IntKind.i64.wrap ((i : Int) - 1) = ((i - 1 : Nat) : Int) := by rw [i64_id _ (by omega)]; omega
   have h0I : (0 : Int) < (i : Int) := by omega
   have him : i - 1 < L.length := by omega
   have q4 : ¬ (f : Int) < (b : Int) := by omega
   have q5 : ¬ (t : Int) ≤ (b : Int) := by omega
   simp [Wp_seq hs, Wp_region hs, Wp_draw hs, Wp_block hs, Wp_cond hs, a7r8, a7p9, a7r10, a7r11, v1, v8, v9, hll, hi', hg, hg2, q1, q2, q3, q4, q5, h0, h0I, hwm, him, hw1]
   refine (ih (i + 1) _ (by omega) ?_ ?_ ?_).mono fun e t h => by simpa using h
   ·simp [v1]
   ·simp [v8, hrow]
   ·simp
  ·have h0' : i = 0 := by omega
   subst h0'
   simp [Wp_seq hs, Wp_region hs, Wp_draw hs, Wp_block hs, Wp_cond hs, a7r8, a7p9, a7r10, a7r11, v1, v8, v9, hll, hi', hg, q1, q2, q3]
   refine (ih 1 _ (by omega) ?_ ?_ ?_).mono fun e t h => by simpa using h
   ·simp [v1]
   ·simp [v8, hrow]
   ·simp; decide

theorem nil_iff_find {e : Nat → Int} {len : Nat} : allF e len (fuelA len 0 (-1)) 0 (-1) = [] ↔ fndF e (len + 1) 0 = none := by
 unfold fuelA
 exact allF_nil

theorem matchOrder_run {H : Heap} (p s : List UInt8) : Wc (Rn fsT SA.sp 0 7 [.str p, .str s] H) (fun o _ => o = .ret (.bool true)) := by
 have hs := SA.mono
 have hlives := fun H => lives07 0 H
 obtain ⟨b, hb⟩ := light_run p
 have hb := fun H => hb 0 H
 refine Wc_heap hs fsT_7 rfl rfl ?_
 rw [env7]
 by_cases h200 : 200 < s.length
 ·have h200' : (200 : Int) < (s.length : Int) := by omega
  simp [a7r0, a7r1, a7r2, a7, Wp_seq hs, Wp_region hs, Wp_cond hs, h200', hlives]
 have h200' : ¬ (200 : Int) < (s.length : Int) := by omega
 cases b with
 | false => simp [a7r0, a7r1, a7r2, a7, Wp_seq hs, Wp_region hs, Wp_cond hs, h200', hb, hlives]
 | true =>
  obtain ⟨o, K, q1, q2⟩ := New_run (bar := 0) (H := H) p (Nat.zero_le _)
  cases hx : newF p with
  | er a w =>
   rw [hx] at q2
   obtain ⟨rfl, rfl⟩ := q2
   simp [a7r0, a7r1, a7r2, a7r3, a7r4, a7r5, a7, Wp_seq hs, Wp_region hs, Wp_cond hs, h200', hb, q1, hlives]
  | ok r j =>
   rw [hx] at q2
   obtain ⟨pid, rfl, hpl, hF, hP⟩ := q2
   have hall := All_run (bar := 0) hP (s := s) (by omega)
   have his := is_run (bar := 0) hP (s := s) (by omega)
   have hord := all_order hP.fine s
   have hlen := order_len hord (by omega)
   have hl1000 : (allOf r s).length ≤ 1000 := by
    rcases hlen with h | h
    ·omega
    ·rw [h]; simp
   have hnil := nil_iff_find (e := eF r s) (len := s.length)
   have hallOf : allF (eF r s) s.length (fuelA s.length 0 (-1)) 0 (-1) = allOf r s := rfl
   rw [hallOf] at hnil
   generalize allOf r s = L at *
   have hrow : (L = [] ∧ pairsA (L.map pairZ) = .nils) ∨ (0 < L.length ∧ pairsA (L.map pairZ) = .slc .ro ((L.map pairZ).map pairA)) := by
    cases L with
    | nil => exact .inl ⟨rfl, rfl⟩
    | cons x L => exact .inr ⟨by simp, rfl⟩
   have hloop := fun v => order_loop (bar := 0) (H := K) hord hl1000 L.length 0 v (by omega)
   rcases hrow with ⟨rfl, hrow⟩ | ⟨hpos, hrow⟩
   ·rw [hnil.1 rfl] at his
    rw [hrow] at hall
    simp [a7r0, a7r1, a7r2, a7r3, a7r4, a7r5, a7r6, a7r7, a7, Wp_seq hs, Wp_region hs, Wp_cond hs, Wp_block hs, h200', hb, q1, hall]
    refine (hloop _ ?_ ?_ ?_).mono fun e t h => ?_
    ·simp
    ·simp; rfl
    ·simp
    ·obtain ⟨rfl, v', rfl, k1, k5, k8⟩ := h
     rw [hrow] at k8
     simp at k5
     simp [a7r13, Wp_seq hs, Wp_region hs, k1, k5, k8, his, hlives]
   ·have hsome : (fndF (eF r s) (s.length + 1) 0).isSome = true := by
     cases h : fndF (eF r s) (s.length + 1) 0 with
     | none => rw [hnil.2 h] at hpos; simp at hpos
     | some x => rfl
    rw [hsome] at his
    have hrow' := hrow
    have hll : ((L.map pairZ).map pairA).length = L.length := by simp
    generalize (L.map pairZ).map pairA = A at hrow hll
    rw [hrow] at hall
    have hposI : (0 : Int) < (L.length : Int) := by omega
    simp [a7r0, a7r1, a7r2, a7r3, a7r4, a7r5, a7r6, a7r7, a7, Wp_seq hs, Wp_region hs, Wp_cond hs, Wp_block hs, h200', hb, q1, hall]
    refine (hloop _ ?_ ?_ ?_).mono fun e t h => ?_
    ·simp
    ·simp [hrow]
    ·simp
    ·obtain ⟨rfl, v', rfl, k1, k5, k8⟩ := h
     rw [hrow] at k8
     simp at k5
     simp [a7r13, Wp_seq hs, Wp_region hs, k1, k5, k8, his, hlives, hll, hpos, hposI]

theorem matchOrder_all (p s : List UInt8) : Wc (Rn fsT SA.sp 0 7 [.str p, .str s] []) (fun o _ => o = .ret (.bool true)) := matchOrder_run p s

end

end Go.Ak

