/- That the law answers true: parts replaced by themselves, and by a mark. -/
import Derived.Test.YtfcgnpphabplbaaRs
import Derived.Test.YtfcgnpphabplbaaRk
set_option linter.unusedVariables false
set_option linter.unusedSimpArgs false

namespace Go.Ak
attribute [local simp] evI_skip Wp_skip Wp_exit Wp_ret Wp_some Ws_some andThen_norm andThen_ret andThen_exit andThen_pan outOf_norm outOf_ret outOf_pan outOf_exit fin_norm fin_ret fin_pan thaw_ret thaw_pan
 evSteps stepE wanted evOp opd opdL live look_mkE upd_mkE look_cons ver_cons st_at put slotty esc escs arg1 args drop1 nbeq nble nblt binA binI rd wr cellsN sub AV.cells pack one setCells resOf resV resAll roOf evPlan sameR beqE_refl beqH_refl fillA fillS newRow newObj step hdOk_nil hdOk_cons contents take flat look lim natOf bound sliceA remake eqS eqL eqA ver
 frz_bool frz_int frz_str frz_nils frz_nilp
 List.getElem?_cons_zero List.getElem?_cons_succ hget_eq hget_new hget_cons_zero hget_cons_succ hget_nil
attribute [local simp] mvV mvL mgV mgL asL asI asB ldN ldV ldL ldG stV stL fdL fdV fdG fgL nlC nlG bnI bvI bnL bvL bxI bxU bgI bgL exT lnS lgS clA clB clC clI pkT pkF pvT pvF pgT pgF ixL axV bxV apL
attribute [-simp] getElem?_pos

section

/-- A text with parts replaced, from a place on. -/
def replF (by' s : List UInt8) : Nat → List (Nat × Nat) → List UInt8
 | at', [] => s.drop at'
 | at', (f, t) :: l => (s.drop at').take (f - at') ++ (putF ((s.drop f).take (t - f)) by' ++ replF by' s t l)

theorem repl_loop {bar : Nat} {by' s : List UInt8} (hby : by'.length ≤ 100) (hl : s.length ≤ 1000) {A : List AV} {N : Nat} (hN : A.length = N) (hN2 : N ≤ 1001) (total : List UInt8) :
  ∀ (rest : List (Nat × Nat)) (i at' : Nat) (last : Int) (out : List UInt8) (v : Nat → AV) (H : Heap) (q : Nat), i + rest.length = N → A.drop i = (rest.map pairZ).map pairA → at' ≤ s.length → InOrder s.length at' last rest →
   v 1 = .str by' → v 2 = .str s → v 8 = .tptr 4 2 q 0 → v 9 = num at' → v 12 = .slc .ro A → v 13 = num N → v 14 = num i → BC bar H q out → out.length ≤ i * 200000 → out ++ replF by' s at' rest = total →
   Wp (evI fsT SA.sp bar (.loop a47l10) (mkE 64455 v, H)) (fun e t => e = .exit 0 ∧ ∃ v' H' out' a, t = (mkE 64455 v', H') ∧ v' 0 = v 0 ∧ v' 2 = .str s ∧ v' 8 = .tptr 4 2 q 0 ∧ v' 9 = num a ∧ a ≤ s.length ∧ BC bar H' q out' ∧ out'.length ≤ 300000000 ∧ out' ++ s.drop a = total) := by
 have hs := SA.mono
 intro rest
 induction rest with
 | nil =>
  intro i at' last out v H q hi hd hat hord v1 v2 v8 v9 v12 v13 v14 hB hout htot
  simp only [List.length_nil,Nat.add_zero] at hi
  subst hi
  rw [Wp_round hs a47l10.eq_1]
  simp [Wp_seq hs,Wp_region hs,Wp_block hs,Wp_cond hs,a47r4,v13,v14]
  exact ⟨_, H, ⟨rfl, rfl⟩, by simp, by simp [v2], by simp [v8], out, at', by simp [v9], hat, hB, by omega, htot⟩
 | cons x rest ih =>
  obtain ⟨f, t⟩ := x
  intro i at' last out v H q hi hd hat hord v1 v2 v8 v9 v12 v13 v14 hB hout htot
  obtain ⟨o1, o2, o3, o4, o5⟩ := hord
  simp only [List.length_cons] at hi
  have hiN : i < N := by omega
  have hiNI : (i : Int) < (N : Int) := by omega
  have hg : A[i]? = some (.agg [num f, num t]) := by
   have : (A.drop i)[0]? = some (.agg [num f, num t]) := by rw [hd]; rfl
   simpa using this
  have hd2 : A.drop (i + 1) = (rest.map pairZ).map pairA := by
   have : (A.drop i).drop 1 = (rest.map pairZ).map pairA := by rw [hd]; rfl
   rw [List.drop_drop] at this
   exact this
  have hw1 : IntKind.i64.wrap ((i : Int) + 1) = (i : Int) + 1 := i64_id _ (by omega)
  have hf : f ≤ s.length := by omega
  have hpl := putF_len ((s.drop f).take (t - f)) by'
  have hpl2 : by'.length * (((s.drop f).take (t - f)).length + 1) ≤ 100 * 1001 := Nat.mul_le_mul hby (by simp; omega)
  have hp1 : ((s.drop at').take (f - at')).length ≤ 1000 := by simp; omega
  have hmul : i * 200000 ≤ 1001 * 200000 := Nat.mul_le_mul_right _ (by omega)
  obtain ⟨H1, e1, hB1⟩ := bwrite (t := (s.drop at').take (f - at')) hB (by omega)
  have hput := put_run (bar := bar) (H := H1) (by' := by') (part := (s.drop f).take (t - f)) (by omega) (by simp; omega)
  have hol : (out ++ (s.drop at').take (f - at')).length ≤ i * 200000 + 1000 := by rw [List.length_append]; omega
  obtain ⟨H2, e2, hB2⟩ := bwrite (t := putF ((s.drop f).take (t - f)) by') hB1 (by omega)
  have hlen2 : (out ++ (s.drop at').take (f - at') ++ putF ((s.drop f).take (t - f)) by').length ≤ (i + 1) * 200000 := by
   rw [List.length_append,Nat.succ_mul]; omega
  have htot2 : (out ++ (s.drop at').take (f - at') ++ putF ((s.drop f).take (t - f)) by') ++ replF by' s t rest = total := by
   rw [← htot,replF]; simp only [List.append_assoc]
  rw [Wp_round hs a47l10.eq_1]
  simp [Wp_seq hs,Wp_region hs,Wp_block hs,Wp_cond hs,a47r4,a47r5,a47r6,a47r7,a47r8,a47r9,v1,v2,v8,v9,v12,v13,v14,hN,hiN,hiNI,hg,o1,o2,o3,hf,e1,hput,e2,hw1]
  refine (ih (i + 1) t t _ _ H2 q (by omega) hd2 o3 o5 ?_ ?_ ?_ ?_ ?_ ?_ ?_ hB2 hlen2 htot2).mono fun e t h => by simpa using h
  ·simp [v1]
  ·simp [v2]
  ·simp [v8]
  ·simp
  ·simp [v12]
  ·simp [v13]
  ·simp

/-- replaced: the text, and how many. -/
theorem replaced_run {bar : Nat} {H : Heap} {by' s : List UInt8} (hby : by'.length ≤ 100) (hl : s.length ≤ 1000) {L : List (Nat × Nat)} (hord : InOrder s.length 0 (-1) L) :
  Rn fsT SA.sp bar 47 [pairsA (L.map pairZ), .str by', .str s] H = some (.ret (.tup [.str (replF by' s 0 L), num L.length]), H) := by
 have hs := SA.mono
 have hlen : L.length ≤ 1001 := by
  rcases order_len hord (by omega) with h | h
  ·omega
  ·rw [h]; simp
 have hclo : cloL [pairsA (L.map pairZ), .str by', .str s] = true := by
  have : ∀ l : List (Int × Int), cloL (l.map pairA) = true := fun l => by
   induction l with
   | nil => rfl
   | cons x l ih => simp [cloL,clo,ih,pairA]
  cases L with
  | nil => rfl
  | cons x L =>
   have h := this ((x :: L).map pairZ)
   simp only [List.map_cons] at h ⊢
   simp [pairsA,cloL,clo] at h ⊢
   exact h
 refine pure_eq hs fsT_47 rfl hclo rfl ?_
 rw [env47]
 -- behind the loop
 have fin2 : ∀ (a : AV) (v' : Nat → AV) (H' : Heap) (out : List UInt8) (k q : Nat), v' 0 = a → (a = pairsA (L.map pairZ)) → v' 2 = .str s → v' 8 = .tptr 4 2 q 0 → v' 9 = num k → k ≤ s.length → BC 0 H' q out → out.length ≤ 300000000 → out ++ s.drop k = replF by' s 0 L →
   Wp (evI fsT SA.sp 0 (.seq (.region a47r11) (.seq (.region a47r12) .ret)) (mkE 64455 v', H')) (fin [.tmp 6, .tmp 7] (thaw 0 (· = .ret (.tup [.str (replF by' s 0 L), num L.length])))) := fun a v' H' out k q v0 ha v2 v8 v9 hk hB ho htot => by
  have hd : (s.drop k).length ≤ 1000 := by simp; omega
  have htk : List.take (s.length - k) (s.drop k) = s.drop k := List.take_of_length_le (by simp)
  obtain ⟨H1, e1, hB1⟩ := bwrite (t := s.drop k) hB (by omega)
  rw [htot] at hB1
  have hrl : (replF by' s 0 L).length ≤ 400000000 := by rw [← htot,List.length_append]; omega
  obtain ⟨H2, e2⟩ := bstring hB1 (by omega)
  subst ha
  have hrow : (L = [] ∧ pairsA (L.map pairZ) = .nils) ∨ pairsA (L.map pairZ) = .slc .ro ((L.map pairZ).map pairA) := by
   cases L with
   | nil => exact .inl ⟨rfl, rfl⟩
   | cons x L => exact .inr rfl
  rcases hrow with ⟨rfl, hrow⟩ | hrow
  all_goals
   rw [hrow] at v0
   simp [Wp_seq hs,Wp_region hs,a47r11,a47r12,v0,v2,v8,v9,hk,htk,e1,e2,frz,frzL]
 have hfin := fin2
 simp only [Wp_seq hs,Wp_region hs] at hfin
 cases hL : L with
 | nil =>
  have hrow : pairsA (([] : List (Nat × Nat)).map pairZ) = .nils := rfl
  rw [hL] at hfin
  rw [hrow]
  simp [a47r0,a47r1,a47r2,a47r3,a47,Wp_seq hs,Wp_region hs,Wp_block hs]
  rw [Wp_round hs a47l10.eq_1]
  simp [a47r4,Wp_seq hs,Wp_region hs,Wp_block hs,Wp_cond hs]
  refine hfin _ _ _ [] 0 0 ?_ hrow.symm ?_ ?_ ?_ (Nat.zero_le _) (BC.new 0 [] (Nat.zero_le _)) (by simp) rfl
  all_goals simp
 | cons x L' =>
  rw [hL] at hfin hord hlen
  have hrow : pairsA ((x :: L').map pairZ) = .slc .ro (((x :: L').map pairZ).map pairA) := rfl
  have hA : (((x :: L').map pairZ).map pairA).length = (x :: L').length := by simp
  generalize x :: L' = M at *
  have hloop := fun v => repl_loop (bar := 0) hby hl hA hlen (replF by' s 0 M) M 0 0 (-1) [] v [some [.nilp, .nils]] 0 (by omega) rfl (Nat.zero_le _) hord
  generalize (M.map pairZ).map pairA = A at *
  rw [hrow]
  simp [a47r0,a47r1,a47r2,a47r3,a47,Wp_seq hs,Wp_region hs,Wp_block hs,hA]
  refine (hloop _ ?_ ?_ ?_ ?_ ?_ ?_ ?_ (BC.new 0 [] (Nat.zero_le _)) (by simp) rfl).mono fun e t h => ?_
  ·simp
  ·simp
  ·simp
  ·simp
  ·simp
  ·simp
  ·simp
  ·obtain ⟨rfl, v', H', out, a, rfl, k0, k2, k8, k9, ha, hB, ho, htot⟩ := h
   simp at k0
   simp only [outOf_exit,if_true,andThen_norm]
   simp [Wp_seq hs,Wp_region hs]
   exact hfin _ v' H' out a 0 k0 hrow.symm k2 k8 k9 ha hB ho htot

/-- subst.All. -/
theorem substAll_run {bar : Nat} {H : Heap} {p : Nat} {t : List UInt8} {r : Re} (hP : Pat H p t r) {by' s : List UInt8} (hby : by'.length ≤ 100) (hl : s.length ≤ 1000) :
  Rn fsT SA.sp bar 20 [.ptr p 0, .str by', .str s] H = some (.ret (.tup [.str (replF by' s 0 (allOf r s)), num (allOf r s).length]), H) := by
 have hs := SA.mono
 have hall := All_run (bar := H.length) hP (s := s) (by omega)
 have hrep := replaced_run (bar := H.length) (H := H) hby hl (all_order hP.fine s)
 generalize allOf r s = L at *
 refine pureH_eq hs fsT_20 rfl rfl rfl ?_
 rw [env20]
 have hrow : pairsA (L.map pairZ) = .nils ∨ pairsA (L.map pairZ) = .slc .ro ((L.map pairZ).map pairA) := by
  cases L with
  | nil => exact .inl rfl
  | cons x L => exact .inr rfl
 rcases hrow with hrow | hrow
 all_goals
  rw [hrow] at hall hrep
  try generalize (L.map pairZ).map pairA = A at hall hrep
  simp [a20,a20r0,a20r1,a20r2,a20r3,Wp_seq hs,Wp_region hs,Wp_cond hs,hall,hrep,frz,frzL]

end

end Go.Ak

namespace Go.Ak

theorem putF_amp (part : List UInt8) : putF part [38] = part := by simp [putF]
theorem putF_mark (part : List UInt8) : putF part [1, 2] = [1, 2] := by simp [putF]

theorem drop_cut {s : List UInt8} {a f : Nat} (h : a ≤ f) : (s.drop a).take (f - a) ++ s.drop f = s.drop a := by
 have : s.drop f = (s.drop a).drop (f - a) := by rw [List.drop_drop]; congr 1; omega
 rw [this,List.take_append_drop]

theorem repl_same {s : List UInt8} : ∀ (L : List (Nat × Nat)) (at' : Nat) (last : Int), InOrder s.length at' last L → replF [38] s at' L = s.drop at'
 | [], _, _, _ => rfl
 | (f, t) :: L, at', last, h => by
  obtain ⟨h1, h2, h3, h4, h5⟩ := h
  rw [replF,putF_amp,repl_same L t t h5,drop_cut h2,drop_cut h1]

/-- How often the mark stands in a text. -/
def marks : List UInt8 → Nat
 | [] => 0
 | [_] => 0
 | c :: d :: l => (if c = 1 ∧ d = 2 then 1 else 0) + marks (d :: l)

theorem marks_cons (c : UInt8) (l : List UInt8) (h : ¬ c = 1) : marks (c :: l) = marks l := by
 cases l with
 | nil => rfl
 | cons d l => simp [marks,h]

theorem marks_plain : ∀ (x l : List UInt8), (∀ c ∈ x, ¬ c = 1) → marks (x ++ l) = marks l
 | [], _, _ => rfl
 | c :: x, l, h => by
  rw [List.cons_append,marks_cons c _ (h c (by simp)),marks_plain x l fun d hd => h d (List.mem_cons_of_mem _ hd)]

theorem marks_mark (l : List UInt8) : marks (1 :: 2 :: l) = marks l + 1 := by
 rw [marks,marks_cons 2 l (by decide)]
 simp; omega

theorem marks_none {l : List UInt8} (h : ∀ c ∈ l, ¬ c = 1) : marks l = 0 := by
 have := marks_plain l [] h
 simpa [marks] using this

theorem repl_marks {s : List UInt8} (hno : ∀ c ∈ s, ¬ c = 1) : ∀ (L : List (Nat × Nat)) (at' : Nat), marks (replF [1, 2] s at' L) = L.length
 | [], at' => marks_none fun c hc => hno c (List.mem_of_mem_drop hc)
 | (f, t) :: L, at' => by
  rw [replF,putF_mark,marks_plain _ _ fun c hc => hno c (List.mem_of_mem_drop (List.mem_of_mem_take hc))]
  rw [show [1,2] ++ replF [1,2] s t L = 1 :: 2 :: replF [1,2] s t L from rfl,marks_mark,repl_marks hno L t]
  simp

theorem repl_mark_len {s : List UInt8} : ∀ (L : List (Nat × Nat)) (at' : Nat), (replF [1, 2] s at' L).length ≤ (L.length + 1) * (s.length + 2)
 | [], at' => by simp [replF]; omega
 | (f, t) :: L, at' => by
  rw [replF,putF_mark,List.length_append,List.length_append]
  have := repl_mark_len L t (s := s)
  have h2 : ((s.drop at').take (f - at')).length ≤ s.length := by simp; omega
  have h3 : ((f, t) :: L).length + 1 = L.length + 1 + 1 := rfl
  rw [h3,Nat.succ_mul (L.length + 1)]
  simp only [List.length_cons,List.length_nil]
  omega

/-- Is the mark's first byte in a text? -/
def hasOne (s : List UInt8) : Bool := s.any fun c => decide (c = 1)

theorem hasOne_no {s : List UInt8} (h : hasOne s = false) : ∀ c ∈ s, ¬ c = 1 := fun c hc e => by
 have : hasOne s = true := List.any_eq_true.2 ⟨c, hc, by simp [e]⟩
 rw [this] at h; cases h

end Go.Ak

namespace Go.Ak
attribute [local simp] evI_skip Wp_skip Wp_exit Wp_ret Wp_some Ws_some andThen_norm andThen_ret andThen_exit andThen_pan outOf_norm outOf_ret outOf_pan outOf_exit fin_norm fin_ret fin_pan thaw_ret thaw_pan
 evSteps stepE wanted evOp opd opdL live look_mkE upd_mkE look_cons ver_cons st_at put slotty esc escs arg1 args drop1 nbeq nble nblt binA binI rd wr cellsN sub AV.cells pack one setCells resOf resV resAll roOf evPlan sameR beqE_refl beqH_refl fillA fillS newRow newObj step hdOk_nil hdOk_cons contents take flat look lim natOf bound sliceA remake eqS eqL eqA ver
 frz_bool frz_int frz_str frz_nils frz_nilp
 List.getElem?_cons_zero List.getElem?_cons_succ hget_eq hget_new hget_cons_zero hget_cons_succ hget_nil
attribute [local simp] mvV mvL mgV mgL asL asI asB ldN ldV ldL ldG stV stL fdL fdV fdG fgL nlC nlG bnI bvI bnL bvL bxI bxU bgI bgL exT lnS lgS clA clB clC clI pkT pkF pvT pvF pgT pgF ixL axV bxV apL
attribute [-simp] getElem?_pos

section

theorem light8_run (p s : List UInt8) : ∃ b : Bool, (b = true → s.length ≤ 25) ∧ ∀ (bar : Nat) (H : Heap), Rn fsT SA.sp bar 18 [.str p, .str s] H = some (.ret (.bool b), H) := by
 have hs := SA.mono
 obtain ⟨b, hb⟩ := light_run p
 have hb := hb 0 []
 refine ⟨decide (s.length ≤ 25) && b, fun h => by simp at h; exact h.1, fun bar H => pure_eq hs fsT_18 rfl rfl rfl ?_⟩
 rw [env18]
 by_cases h : s.length ≤ 25
 ·have h' : (s.length : Int) ≤ 25 := by omega
  cases b <;> simp [a18,a18r0,a18r1,Wp_seq hs,Wp_region hs,Wp_cond hs,h,h',hb]
 ·have h' : ¬ (s.length : Int) ≤ 25 := by omega
  simp [a18,a18r0,a18r1,Wp_seq hs,Wp_region hs,Wp_cond hs,h,h']

theorem had_loop {bar : Nat} {H : Heap} {s : List UInt8} (hl : s.length ≤ 1000) : ∀ (n i : Nat) (v : Nat → AV), i + n = s.length → v 1 = .str s → v 14 = num i → v 13 = .bool (hasOne (s.take i)) →
  Wp (evI fsT SA.sp bar (.loop a17l15) (mkE 309522791203166223445065715 v, H)) (fun e t => e = .exit 0 ∧ ∃ v', t = (mkE 309522791203166223445065715 v', H) ∧ v' 13 = .bool (hasOne s) ∧ v' 9 = v 9 ∧ v' 10 = v 10 ∧ v' 12 = v 12) := by
 have hs := SA.mono
 intro n
 induction n with
 | zero =>
  intro i v hi v1 v14 v13
  have hi' : i = s.length := by omega
  subst hi'
  rw [List.take_length] at v13
  rw [Wp_round hs a17l15.eq_1]
  simp [Wp_seq hs,Wp_region hs,Wp_block hs,Wp_cond hs,a17r12,v1,v14]
  exact ⟨_, rfl, by simp [v13], by simp, by simp, by simp⟩
 | succ n ih =>
  intro i v hi v1 v14 v13
  have hi' : i < s.length := by omega
  have hiI : (i : Int) < (s.length : Int) := by omega
  have hc : s[i]? = some s[i] := List.getElem?_eq_getElem hi'
  have htk : s.take (i + 1) = s.take i ++ [s[i]] := by rw [List.take_add_one,hc]; rfl
  have hone : hasOne (s.take (i + 1)) = (hasOne (s.take i) || decide (s[i] = 1)) := by
   unfold hasOne
   rw [htk,List.any_append,List.any_cons,List.any_nil,Bool.or_false]
  have hw1 : IntKind.i64.wrap ((i : Int) + 1) = (i : Int) + 1 := i64_id _ (by omega)
  generalize s[i] = c at *
  have next : ∀ w : Nat → AV, w 1 = .str s → w 14 = num (i + 1) → w 13 = .bool (hasOne (s.take i) || decide (c = 1)) → w 9 = v 9 → w 10 = v 10 → w 12 = v 12 →
    Wp (evI fsT SA.sp bar (.loop a17l15) (mkE 309522791203166223445065715 w, H)) (fun e t => e = .exit 0 ∧ ∃ v', t = (mkE 309522791203166223445065715 v', H) ∧ v' 13 = .bool (hasOne s) ∧ v' 9 = v 9 ∧ v' 10 = v 10 ∧ v' 12 = v 12) := fun w w1 w14 w13 w9 w10 w12 => by
   refine (ih (i + 1) w (by omega) w1 w14 (by rw [w13,hone])).mono fun e t h => ?_
   obtain ⟨e1, v', e2, e3, e4, e5, e6⟩ := h
   exact ⟨e1, v', e2, e3, e4.trans w9, e5.trans w10, e6.trans w12⟩
  rw [Wp_round hs a17l15.eq_1]
  cases hb : hasOne (s.take i) with
  | true =>
   rw [hb] at v13 next
   simp [Wp_seq hs,Wp_region hs,Wp_block hs,Wp_cond hs,a17r12,a17r13,a17r14,v1,v13,v14,hi',hiI,hw1]
   refine next _ ?_ ?_ ?_ ?_ ?_ ?_
   all_goals simp [v1]
  | false =>
   rw [hb] at v13 next
   have hc1 : ((c.toNat : Int) == 1) = decide (c = 1) := u8_eq c 1 (by omega)
   simp [Wp_seq hs,Wp_region hs,Wp_block hs,Wp_cond hs,a17r12,a17r13,a17r14,v1,v13,v14,hi',hiI,hc,hw1]
   refine next _ ?_ ?_ ?_ ?_ ?_ ?_
   ·simp [v1]
   ·simp
   ·simp [hc1]
   ·simp
   ·simp
   ·simp

theorem marks_drop {b : List UInt8} {i : Nat} {c d : UInt8} (hc : b[i]? = some c) (hd : b[i + 1]? = some d) : marks (b.drop i) = (if c = 1 ∧ d = 2 then 1 else 0) + marks (b.drop (i + 1)) := by
 rw [drop_at hc,drop_at hd,marks]

theorem marks_last {b : List UInt8} {i : Nat} (h : b.length ≤ i + 1) : marks (b.drop i) = 0 := by
 have : (b.drop i).length ≤ 1 := by simp; omega
 match b.drop i, this with
 | [], _ => rfl
 | [_], _ => rfl

theorem mark_loop {bar : Nat} {H : Heap} {b : List UInt8} (hl : b.length ≤ 1000000) : ∀ (n i k : Nat) (v : Nat → AV), i + n = b.length → k ≤ i → k + marks (b.drop i) = marks b → v 10 = .str b → v 15 = num i → v 12 = num k →
  Wp (evI fsT SA.sp bar (.loop a17l21) (mkE 309522791203166223445065715 v, H)) (fun e t => e = .exit 2 ∧ ∃ v', t = (mkE 309522791203166223445065715 v', H) ∧ v' 12 = num (marks b) ∧ v' 9 = v 9 ∧ v' 13 = v 13) := by
 have hs := SA.mono
 intro n
 induction n with
 | zero =>
  intro i k v hi hk hm v10 v15 v12
  have hx : ¬ (i : Int) + 1 < (b.length : Int) := by omega
  have hw1 : IntKind.i64.wrap ((i : Int) + 1) = (i : Int) + 1 := i64_id _ (by omega)
  rw [marks_last (by omega)] at hm
  have hkm : k = marks b := by omega
  rw [Wp_round hs a17l21.eq_1]
  simp [Wp_seq hs,Wp_region hs,Wp_block hs,Wp_cond hs,a17r17,v10,v15,hw1,hx]
  exact ⟨_, rfl, by simp [v12,hkm], by simp, by simp⟩
 | succ n ih =>
  intro i k v hi hk hm v10 v15 v12
  have hw1 : IntKind.i64.wrap ((i : Int) + 1) = (i : Int) + 1 := i64_id _ (by omega)
  have hwk : IntKind.i64.wrap ((k : Int) + 1) = (k : Int) + 1 := i64_id _ (by omega)
  rw [Wp_round hs a17l21.eq_1]
  by_cases hx : i + 1 < b.length
  ·have hxI : (i : Int) + 1 < (b.length : Int) := by omega
   have hc : b[i]? = some b[i] := List.getElem?_eq_getElem (by omega)
   have hd : b[i + 1]? = some b[i + 1] := List.getElem?_eq_getElem hx
   have hmd := marks_drop hc hd
   have h0 : (0 : Int) ≤ (i : Int) + 1 := by omega
   have ht : ((i : Int) + 1).toNat = i + 1 := by omega
   generalize b[i] = c at *
   generalize b[i + 1] = d at *
   have hc1 : ((c.toNat : Int) == 1) = decide (c = 1) := u8_eq c 1 (by omega)
   have hd2 : ((d.toNat : Int) == 2) = decide (d = 2) := u8_eq d 2 (by omega)
   have next : ∀ (k' : Nat) (w : Nat → AV), k' ≤ i + 1 → k' + marks (b.drop (i + 1)) = marks b → w 10 = .str b → w 15 = num (i + 1) → w 12 = num k' → w 9 = v 9 → w 13 = v 13 →
     Wp (evI fsT SA.sp bar (.loop a17l21) (mkE 309522791203166223445065715 w, H)) (fun e t => e = .exit 2 ∧ ∃ v', t = (mkE 309522791203166223445065715 v', H) ∧ v' 12 = num (marks b) ∧ v' 9 = v 9 ∧ v' 13 = v 13) := fun k' w hk' hm' w10 w15 w12 w9 w13 => by
    refine (ih (i + 1) k' w (by omega) hk' hm' w10 w15 w12).mono fun e t h => ?_
    obtain ⟨e1, v', e2, e3, e4, e5⟩ := h
    exact ⟨e1, v', e2, e3, e4.trans w9, e5.trans w13⟩
   by_cases q1 : c = 1
   ·have f1 : ((c.toNat : Int) == 1) = true := by rw [hc1]; simp [q1]
    by_cases q2 : d = 2
    ·have f2 : ((d.toNat : Int) == 2) = true := by rw [hd2]; simp [q2]
     rw [if_pos ⟨q1,q2⟩] at hmd
     simp [Wp_seq hs,Wp_region hs,Wp_block hs,Wp_cond hs,a17r17,a17r18,a17r19,a17r20,v10,v12,v15,hw1,hwk,hxI,hc,hd,h0,ht,f1,f2]
     refine next (k + 1) _ (by omega) (by omega) ?_ ?_ ?_ ?_ ?_
     all_goals simp [v10]
    ·have f2 : ((d.toNat : Int) == 2) = false := by rw [hd2]; simp [q2]
     rw [if_neg (fun h => q2 h.2)] at hmd
     simp [Wp_seq hs,Wp_region hs,Wp_block hs,Wp_cond hs,a17r17,a17r18,a17r19,a17r20,v10,v12,v15,hw1,hwk,hxI,hc,hd,h0,ht,f1,f2]
     refine next k _ (by omega) (by omega) ?_ ?_ ?_ ?_ ?_
     all_goals simp [v10,v12]
   ·have f1 : ((c.toNat : Int) == 1) = false := by rw [hc1]; simp [q1]
    rw [if_neg (fun h => q1 h.1)] at hmd
    simp [Wp_seq hs,Wp_region hs,Wp_block hs,Wp_cond hs,a17r17,a17r18,a17r19,a17r20,v10,v12,v15,hw1,hwk,hxI,hc,h0,ht,f1]
    refine next k _ (by omega) (by omega) ?_ ?_ ?_ ?_ ?_
    all_goals simp [v10,v12]
  ·have hxI : ¬ (i : Int) + 1 < (b.length : Int) := by omega
   rw [marks_last (by omega)] at hm
   have hkm : k = marks b := by omega
   simp [Wp_seq hs,Wp_region hs,Wp_block hs,Wp_cond hs,a17r17,v10,v15,hw1,hxI]
   exact ⟨_, rfl, by simp [v12,hkm], by simp, by simp⟩

theorem substSame_all (p s : List UInt8) : Wc (Rn fsT SA.sp 0 17 [.str p, .str s] []) (fun o _ => o = .ret (.bool true)) := by
 have hs := SA.mono
 have hlives := fun H => lives08 0 H
 obtain ⟨b, h25, hb⟩ := light8_run p s
 have hb := fun H => hb 0 H
 refine Wc_heap hs fsT_17 rfl rfl ?_
 rw [env17]
 cases b with
 | false => simp [a17r0,a17r1,a17r2,a17,Wp_seq hs,Wp_region hs,Wp_cond hs,hb,hlives]
 | true =>
  have hl := h25 rfl
  obtain ⟨o, K, q1, q2⟩ := New_run (bar := 0) (H := []) p (Nat.zero_le _)
  cases hx : newF p with
  | er a w =>
   rw [hx] at q2
   obtain ⟨rfl, rfl⟩ := q2
   simp [a17r0,a17r1,a17r2,a17r3,a17r4,a17r5,a17,Wp_seq hs,Wp_region hs,Wp_cond hs,hb,q1,hlives]
  | ok r j =>
   rw [hx] at q2
   obtain ⟨pid, rfl, hpl, hF, hP⟩ := q2
   have hall := All_run (bar := 0) hP (s := s) (by omega)
   have ha := substAll_run (bar := 0) hP (by' := [38]) (s := s) (by simp) (by omega)
   have hm := substAll_run (bar := 0) hP (by' := [1, 2]) (s := s) (by simp) (by omega)
   have hord := all_order hP.fine s
   rw [repl_same _ 0 (-1) hord,List.drop_zero] at ha
   have hlen := order_len hord (by omega)
   generalize allOf r s = L at *
   have hL : L.length ≤ 26 := by
    rcases hlen with h | h
    ·omega
    ·rw [h]; simp
   have hmk := fun h => repl_marks (s := s) h L 0
   have hml := repl_mark_len (s := s) L 0
   have hml2 : (L.length + 1) * (s.length + 2) ≤ 27 * 27 := Nat.mul_le_mul (by omega) (by omega)
   generalize replF [1, 2] s 0 L = B at *
   have hrow : (L.length = 0 ∧ pairsA (L.map pairZ) = .nils) ∨ (0 < L.length ∧ pairsA (L.map pairZ) = .slc .ro ((L.map pairZ).map pairA)) := by
    cases L with
    | nil => exact .inl ⟨rfl, rfl⟩
    | cons x L => exact .inr ⟨by simp, rfl⟩
   have hll : ((L.map pairZ).map pairA).length = L.length := by simp
   -- behind the tests
   have tail : ∀ v : Nat → AV, v 1 = .str s → v 9 = num L.length → v 10 = .str B →
     Wp (evI fsT SA.sp 0 (.seq (.region a17r10) (.seq (.seq (.region a17r11) (.block 0 (.loop a17l15))) (.seq (.seq (.region a17r16) (.block 2 (.loop a17l21))) (.seq (.region a17r22) .ret)))) (mkE 309522791203166223445065715 v, K)) (fin [.tmp 4] (fun o _ => o = .ret (.bool true))) := fun v v1 v9 v10 => by
    simp [a17r10,a17r11,Wp_seq hs,Wp_region hs,Wp_block hs]
    refine (had_loop (bar := 0) (H := K) (s := s) (by omega) s.length 0 _ (by omega) ?_ ?_ ?_).mono fun e t h => ?_
    ·simp [v1]
    ·simp
    ·simp [hasOne]
    obtain ⟨rfl, u, rfl, k13, k9, k10, k12⟩ := h
    simp at k9 k10 k12
    rw [v9] at k9; rw [v10] at k10
    simp [a17r16,Wp_seq hs,Wp_region hs,Wp_block hs]
    refine (mark_loop (bar := 0) (H := K) (b := B) (by omega) B.length 0 0 _ (by omega) (by omega) (by simp) ?_ ?_ ?_).mono fun e t h => ?_
    ·simp [k10]
    ·simp
    ·simp [k12]
    obtain ⟨rfl, u2, rfl, j12, j9, j13⟩ := h
    simp at j9 j13
    rw [k9] at j9; rw [k13] at j13
    cases hh : hasOne s with
    | true =>
     rw [hh] at j13
     simp [a17r22,Wp_seq hs,Wp_region hs,j9,j12,j13,hlives]
    | false =>
     rw [hh] at j13
     rw [hmk (hasOne_no hh)] at j12
     simp [a17r22,Wp_seq hs,Wp_region hs,j9,j12,j13,hlives]
   have tail' := tail
   simp only [Wp_seq hs,Wp_region hs] at tail'
   rcases hrow with ⟨h0, hrow⟩ | ⟨h0, hrow⟩
   ·rw [hrow] at hall
    rw [h0] at tail' ha hm
    simp [a17r0,a17r1,a17r2,a17r3,a17r4,a17r5,a17r6,a17r7,a17r8,a17,Wp_seq hs,Wp_region hs,Wp_cond hs,hb,q1,ha,hm,hall,binS_neq,beqS_refl]
    refine tail' _ ?_ ?_ ?_
    all_goals simp
   ·rw [hrow] at hall
    generalize (L.map pairZ).map pairA = A at *
    simp [a17r0,a17r1,a17r2,a17r3,a17r4,a17r5,a17r6,a17r7,a17r8,a17,Wp_seq hs,Wp_region hs,Wp_cond hs,hb,q1,ha,hm,hall,binS_neq,beqS_refl,hll]
    refine tail' _ ?_ ?_ ?_
    all_goals simp

end

end Go.Ak

