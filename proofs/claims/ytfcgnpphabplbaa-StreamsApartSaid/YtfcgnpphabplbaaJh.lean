/- What the functions of streams compute: writing to builders, finding by name, reading, texts, short files. -/
import Derived.Test.YtfcgnpphabplbaaJe
import Derived.Test.YtfcgnpphabplbaaJd
import Derived.Test.YtfcgnpphabplbaaJg
set_option linter.unusedVariables false
set_option linter.unusedSimpArgs false

namespace Go.Ak

/-- The special functions of the laws. -/
structure Sp where
  sp : Nat → (Nat → CallF) → Nat → CallF
  mono : SpMono sp

abbrev u64 (n : Nat) : AV := .int .u64 n

/-- A row as a slice's value. -/
def rowOf : List AV → AV
  | [] => .nils
  | a :: l => .slc .ro (a :: l)

mutual
def Re.av : Re → AV
  | .mk k set mn mx l => .agg (.int .i64 k :: (set.map u64 ++ [.int .i64 mn, .int .i64 mx, rowOf (Re.avs l)]))
def Re.avs : List Re → List AV
  | [] => []
  | x :: l => x.av :: Re.avs l
end

def NS.cells (x : NS) : List AV := num x.op :: (x.set.map u64 ++ [num x.next, num x.two])

theorem Re.avs_map : ∀ (l : List Re), Re.avs l = l.map Re.av
  | [] => rfl
  | x :: l => by rw [Re.avs, Re.avs_map l]; rfl

/-- A row of states as cells. -/
def cellsOf (L : List NS) : List AV := L.flatMap NS.cells

/-- Sets are of four numbers. -/
def Wide (L : List NS) : Prop := ∀ x ∈ L, x.set.length = 4

theorem cellsOf_length {L : List NS} (h : Wide L) : (cellsOf L).length = L.length * 7 := by
  unfold cellsOf
  induction L with
  | nil => rfl
  | cons x L ih =>
    rw [List.flatMap_cons, List.length_append, ih (fun y hy => h y (by simp [hy]))]
    have := h x (by simp)
    simp [NS.cells, this]; omega

theorem cellsOf_snoc (L : List NS) (x : NS) : cellsOf (L ++ [x]) = cellsOf L ++ x.cells := by simp [cellsOf]

/-- A machine's states, in the heap. -/
def PRow (H : Heap) (p : Nat) (L : List NS) (lv : AV) : Prop := Wide L ∧ ((L = [] ∧ lv = .nils) ∨ ∃ r, lv = .msl 7 r 0 L.length ∧ p < r ∧ hget H r = some (some (cellsOf L)))

/-- A machine that is built, in the heap. -/
def PH (H : Heap) (p : Nat) (L : List NS) (first : Nat) : Prop := ∃ lv, hget H p = some (some [lv, num first]) ∧ PRow H p L lv

/-- All ahead of an object stays. -/
def Front (p : Nat) (H H' : Heap) : Prop := p < H'.length ∧ ∀ i, i < p → hget H' i = hget H i

theorem beqS_refl : ∀ (l : List UInt8), beqS l l = true
  | [] => rfl
  | a :: l => by simp [beqS, nbeq, beqS_refl l]

mutual
theorem beqA_refl : ∀ (a : AV), beqA a a = true
  | .undef => rfl
  | .bool b => by simp [beqA]
  | .int k n => by simp [beqA]
  | .str s => by simp [beqA, beqS_refl]
  | .nilp | .nils | .nilf | .nili => rfl
  | .ptr a b => by simp [beqA, nbeq]
  | .rptr a b => by simp [beqA, nbeq, beqL_refl a]
  | .slc p a => by simp [beqA, beqL_refl a]
  | .msl a b c d => by simp [beqA, nbeq]
  | .tptr a b c d => by simp [beqA, nbeq]
  | .bsl a b => by simp [beqA, nbeq]
  | .agg a => by simp [beqA, beqL_refl a]
  | .tup a => by simp [beqA, beqL_refl a]
  | .fn a b => by simp [beqA, nbeq, beqL_refl b]
  | .ifc a b => by simp [beqA, nbeq, beqA_refl b]
  | .box a => by simp [beqA, beqL_refl a]
  | .loc a b c => by simp [beqA, nbeq]
  | .eloc a b c d => by simp [beqA, nbeq]
  | .ref a b c d => by simp [beqA, nbeq]
theorem beqL_refl : ∀ (l : List AV), beqL l l = true
  | [] => rfl
  | a :: l => by simp [beqL, beqA_refl a, beqL_refl l]
end

theorem beqE_refl : ∀ (l : List (Nat × AV)), beqE l l = true
  | [] => rfl
  | (k, a) :: l => by simp [beqE, nbeq, beqA_refl a, beqE_refl l]

theorem beqH_refl : ∀ (l : Heap), beqH l l = true
  | [] => rfl
  | none :: l => by simp [beqH, beqH_refl l]
  | some a :: l => by simp [beqH, beqL_refl a, beqH_refl l]

theorem norm_self (E F : List (Nat × AV)) (a b : List (Nat × AV)) (c d : List Nat) (H K : Heap) (h : E = F) (h' : H = K) : sameR (.norm, ⟨E, a, c, H⟩) (.norm, ⟨F, b, d, K⟩) = true := by
  subst h h'; simp [sameR, beqE_refl, beqH_refl]

/-- Both ways through a region that draws its order end alike. -/
theorem evPlan_alt_eq {c : CallF} {bar i : Nat} {s : AStep} {p q : Plan} {σ : St} {E : List (Nat × AV)} {H : Heap} {a b : List (Nat × AV)} {m n : List Nat} (h1 : evPlan c bar (.seq i s p) σ = some (.norm, ⟨E, a, m, H⟩)) (h2 : evPlan c bar q σ = some (.norm, ⟨E, b, n, H⟩)) :
    evPlan c bar (.alt i s p q) σ = some (.norm, ⟨E, a, m, H⟩) := by
  rw [evPlan_alt, h1, h2]
  simp [sameR, beqE_refl, beqH_refl]

theorem evPlan_one (c : CallF) (bar i : Nat) (s : AStep) (p : Plan) (σ : St) : evPlan c bar (.one i s p) σ = evPlan c bar (.seq i s p) σ := rfl

end Go.Ak

namespace Go.Ak

theorem pure_any {fs : Nat → Option AFunc} {sp : Nat → (Nat → CallF) → Nat → CallF} (hs : SpMono sp) {f : Nat} {F : AFunc} (hf : fs f = some F) (hp : F.pure = true) {xs : List AV} (hc : cloL xs = true) {v : AV} {bar0 n : Nat} {H0 H1 : Heap} (h : run fs sp n bar0 f xs H0 = some (.ret v, H1)) (bar : Nat) (H : Heap) :
    Rn fs sp bar f xs H = some (.ret v, H) := by
  have h1 := (Rn_iff hs).2 ⟨n, h⟩
  rw [Rn_eq hs hf, hp, hc] at h1 ⊢
  simp only [cond_true] at h1 ⊢
  cases hx : runI fs sp 0 F xs [] with
  | none => rw [hx] at h1; cases h1
  | some q =>
    obtain ⟨o, K⟩ := q
    rw [hx] at h1
    cases o with
    | ret u =>
      simp only [pureR] at h1 ⊢
      split at h1
      · rename_i w hw
        simp only [Option.some.injEq, Prod.mk.injEq, Out.ret.injEq] at h1
        rw [h1.1]
      · cases h1
    | pan u =>
      simp only [pureR] at h1
      split at h1
      · cases h1
      · cases h1

/-- No special function. -/
def S0 : Sp := ⟨fun _ _ _ => fun _ _ _ => none, fun _ _ _ _ _ _ _ f xs H r h => by cases h⟩

end Go.Ak

namespace Go.Ak

def SA : Sp := ⟨spA, fun n m c d bar _ _ f xs H r h => h⟩

section
variable {bar : Nat} {xs : List AV} {H : Heap}
theorem Rn_check : Rn fsT SA.sp bar 79 xs H = spCheck bar xs H := (Rn_sp SA.mono rfl bar xs H).trans (limit_const _)
theorem Rn_string : Rn fsT SA.sp bar 55 xs H = spString bar xs H := (Rn_sp SA.mono rfl bar xs H).trans (limit_const _)
theorem Rn_index : Rn fsT SA.sp bar 112 xs H = spIndex xs H := (Rn_sp SA.mono rfl bar xs H).trans (limit_const _)
end

theorem indexByte_at : ∀ (l : List UInt8) (c : UInt8), Lib.indexByte l c = -1 ∨ ∃ n : Nat, n < l.length ∧ Lib.indexByte l c = n
  | [], _ => .inl rfl
  | b :: l, c => by
    simp only [Lib.indexByte]
    by_cases h : b = c
    · exact .inr ⟨0, by simp, by simp [h]⟩
    · have hb : (b == c) = false := by simpa using h
      rcases indexByte_at l c with e | ⟨n, h1, h2⟩
      · exact .inl (by simp [hb, e])
      · refine .inr ⟨n + 1, by simpa using h1, ?_⟩
        rw [if_neg (by simp [hb]), h2, if_neg (by simp <;> omega)]
        rfl

end Go.Ak

namespace Go.Ak
attribute [local simp] evI_skip Wp_skip Wp_exit Wp_ret Wp_some Ws_some andThen_norm andThen_ret andThen_exit andThen_pan outOf_norm outOf_ret outOf_pan outOf_exit fin_norm fin_ret fin_pan thaw_ret thaw_pan
  evSteps stepE wanted evOp opd opdL live look_mkE upd_mkE look_cons ver_cons st_at put slotty esc escs arg1 args drop1 nbeq nble nblt binA binI rd wr cellsN sub AV.cells pack one setCells resOf resV resAll roOf evPlan sameR beqE_refl beqH_refl fillA fillS newRow newObj step hdOk_nil hdOk_cons contents take flat look lim natOf bound sliceA remake eqS eqL eqA ver
  frz_bool frz_int frz_str frz_nils frz_nilp
  List.getElem?_cons_zero List.getElem?_cons_succ hget_eq hget_new hget_cons_zero hget_cons_succ hget_nil
attribute [-simp] getElem?_pos

/-- A builder's two cells: where it lies ('me'); its bytes, in an object of its own. -/
def Bd (H : Heap) (own : Nat → Nat) (me : AV) (tag size : Nat) (b0 b1 : AV) : Prop := (b0 = .nilp ∨ b0 = me) ∧ (b1 = .nils ∨ ∃ r n cs, b1 = .bsl r n ∧ hget H r = some (some cs) ∧ n ≤ cs.length ∧ n ≤ size ∧ own r = tag)

/-- What a text written to a builder leaves. -/
def BWrote (H : Heap) (own : Nat → Nat) (q tag size n : Nat) (me : AV) (mk : AV → List AV) (H' : Heap) : Prop :=
  ∃ own' b1, H.length ≤ H'.length ∧ (∀ i, i < H.length → own' i = own i) ∧ (∀ i, i < H.length → i ≠ q → own i ≠ tag → hget H' i = hget H i) ∧ hget H' q = some (some (mk b1)) ∧ Bd H' own' me tag (size + n) me b1

theorem BWrote.new {H : Heap} {own : Nat → Nat} {q tag size n k : Nat} {me : AV} {mk : AV → List AV} {H' : Heap} {cs : List AV} (hl : H'.length = H.length + 1) (hql : q < H.length) (h1 : ∀ i, i < H.length → i ≠ q → own i ≠ tag → hget H' i = hget H i)
    (h2 : hget H' q = some (some (mk (.bsl H.length k)))) (h3 : hget H' H.length = some (some cs)) (h4 : k ≤ cs.length) (h5 : k ≤ size + n) : BWrote H own q tag size n me mk H' :=
  ⟨fun i => if i = H.length then tag else own i, .bsl H.length k, by omega, fun i hi => if_neg (by omega), h1, h2, .inr rfl, .inr ⟨H.length, k, cs, rfl, h3, h4, h5, if_pos rfl⟩⟩

/-- .. of a sink. -/
theorem sinkWrite {H : Heap} {own : Nat → Nat} {q tag size : Nat} {b0 b1 c2 : AV} {t : List UInt8} (hq : hget H q = some (some [b0, b1, c2])) (hb : Bd H own (.tptr 3 3 q 0) tag size b0 b1) (hown : own q ≠ tag) (ht : t.length ≤ 1000000) (hsz : size ≤ 1000000) :
    Wc (Rn fsT SA.sp 0 51 [.tptr 3 3 q 0, .str t] H) (fun o H' => o = .ret (.tup [num t.length, .nili]) ∧ BWrote H own q tag size t.length (.tptr 3 3 q 0) (fun x => [.tptr 3 3 q 0, x, c2]) H') := by
  have hs := SA.mono
  have hql := hget_lt hq
  refine Wc_heap hs fsT_51 rfl rfl ?_
  rw [env51]
  obtain ⟨hb0, hb1⟩ := hb
  rcases hb1 with rfl | ⟨r, n, cs, rfl, hr, hn1, hn2, hr0⟩
  · cases t with
    | nil =>
      rcases hb0 with rfl | rfl
      all_goals
        simp [a51, a51r0, a51r1, a51r2, a51r3, Wp_seq hs, Wp_region hs, Rn_check, spCheck, okB, hq, hget_set_self, hql, bytesOf]
        refine ⟨own, .nils, by simp, fun _ _ => rfl, fun i hi hne _ => hget_set_ne _ (Ne.symm hne), hget_set_self _ hql, .inr rfl, .inl rfl⟩
    | cons c t =>
      have htl : t.length + 1 ≤ 4294967296 := by simp only [List.length_cons] at ht; omega
      have hfl : List.flatMap AV.cells (List.map (fun b : UInt8 => AV.int .u8 b.toNat) t) = bytesOf t := flat_bytes t
      rcases hb0 with rfl | rfl
      all_goals
        simp [a51, a51r0, a51r1, a51r2, a51r3, Wp_seq hs, Wp_region hs, Rn_check, spCheck, okB, hq, hget_set_self, hql, bytesOf, htl, hfl, hget_app]
        refine BWrote.new (k := t.length + 1) (cs := bytesOf (c :: t)) (by simp) hql (fun i hi hne ho => ?_) ?_ ?_ (by simp [bytesOf]) (by simp <;> omega)
        · rw [hget_app _ (by simpa using hi), hget_set_ne _ (Ne.symm hne)]
        · rw [hget_app _ (by simpa using hql), hget_set_self _ hql]
        · exact hget_new' _ _ _ (by simp)
  · have hrl := hget_lt hr
    have hqr : q ≠ r := fun e => hown (by rw [e]; exact hr0)
    have hrq : r ≠ q := Ne.symm hqr
    have hlim : n + t.length ≤ 4294967296 := by omega
    have hfl : List.flatMap AV.cells (List.map (fun b : UInt8 => AV.int .u8 b.toNat) t) = bytesOf t := flat_bytes t
    rcases hb0 with rfl | rfl
    all_goals
      simp [a51, a51r0, a51r1, a51r2, a51r3, Wp_seq hs, Wp_region hs, Rn_check, spCheck, okB, hq, hr, hn1, hget_set_self, hget_set_ne, hql, hqr, hrq, bytesOf, hlim, hfl, hget_app]
      refine BWrote.new (k := n + t.length) (cs := cs.take n ++ bytesOf t) (by simp) hql (fun i hi hne ho => ?_) ?_ ?_ (by simp [bytesOf]; omega) (by omega)
      · have hir : i ≠ r := fun e => ho (by rw [e]; exact hr0)
        rw [hget_app _ (by simpa using hi)]
        simp [hget_set_ne, Ne.symm hne, Ne.symm hir]
      · rw [hget_app _ (by simpa using hql)]
        first | (rw [hget_set_self _ (by simpa using hql)]; done) | (rw [hget_set_ne _ hrq, hget_set_self _ (by simpa using hql)]; done)
      · exact hget_new' _ _ _ (by simp)

/-- .. of what is printed. -/
theorem outWrite {H : Heap} {own : Nat → Nat} {q tag size : Nat} {b0 b1 c0 c1 c4 c5 c6 : AV} {t : List UInt8} (hq : hget H q = some (some [c0, c1, b0, b1, c4, c5, c6])) (hb : Bd H own (.tptr 2 7 q 2) tag size b0 b1) (hown : own q ≠ tag) (ht : t.length ≤ 1000000) (hsz : size ≤ 1000000) :
    Wc (Rn fsT SA.sp 0 51 [.tptr 2 7 q 2, .str t] H) (fun o H' => o = .ret (.tup [num t.length, .nili]) ∧ BWrote H own q tag size t.length (.tptr 2 7 q 2) (fun x => [c0, c1, .tptr 2 7 q 2, x, c4, c5, c6]) H') := by
  have hs := SA.mono
  have hql := hget_lt hq
  refine Wc_heap hs fsT_51 rfl rfl ?_
  rw [env51]
  obtain ⟨hb0, hb1⟩ := hb
  rcases hb1 with rfl | ⟨r, n, cs, rfl, hr, hn1, hn2, hr0⟩
  · cases t with
    | nil =>
      rcases hb0 with rfl | rfl
      all_goals
        simp [a51, a51r0, a51r1, a51r2, a51r3, Wp_seq hs, Wp_region hs, Rn_check, spCheck, okB, hq, hget_set_self, hql, bytesOf]
        refine ⟨own, .nils, by simp, fun _ _ => rfl, fun i hi hne _ => hget_set_ne _ (Ne.symm hne), hget_set_self _ hql, .inr rfl, .inl rfl⟩
    | cons c t =>
      have htl : t.length + 1 ≤ 4294967296 := by simp only [List.length_cons] at ht; omega
      have hfl : List.flatMap AV.cells (List.map (fun b : UInt8 => AV.int .u8 b.toNat) t) = bytesOf t := flat_bytes t
      rcases hb0 with rfl | rfl
      all_goals
        simp [a51, a51r0, a51r1, a51r2, a51r3, Wp_seq hs, Wp_region hs, Rn_check, spCheck, okB, hq, hget_set_self, hql, bytesOf, htl, hfl, hget_app]
        refine BWrote.new (k := t.length + 1) (cs := bytesOf (c :: t)) (by simp) hql (fun i hi hne ho => ?_) ?_ ?_ (by simp [bytesOf]) (by simp <;> omega)
        · rw [hget_app _ (by simpa using hi), hget_set_ne _ (Ne.symm hne)]
        · rw [hget_app _ (by simpa using hql), hget_set_self _ hql]
        · exact hget_new' _ _ _ (by simp)
  · have hrl := hget_lt hr
    have hqr : q ≠ r := fun e => hown (by rw [e]; exact hr0)
    have hrq : r ≠ q := Ne.symm hqr
    have hlim : n + t.length ≤ 4294967296 := by omega
    have hfl : List.flatMap AV.cells (List.map (fun b : UInt8 => AV.int .u8 b.toNat) t) = bytesOf t := flat_bytes t
    rcases hb0 with rfl | rfl
    all_goals
      simp [a51, a51r0, a51r1, a51r2, a51r3, Wp_seq hs, Wp_region hs, Rn_check, spCheck, okB, hq, hr, hn1, hget_set_self, hget_set_ne, hql, hqr, hrq, bytesOf, hlim, hfl, hget_app]
      refine BWrote.new (k := n + t.length) (cs := cs.take n ++ bytesOf t) (by simp) hql (fun i hi hne ho => ?_) ?_ ?_ (by simp [bytesOf]; omega) (by omega)
      · have hir : i ≠ r := fun e => ho (by rw [e]; exact hr0)
        rw [hget_app _ (by simpa using hi)]
        simp [hget_set_ne, Ne.symm hne, Ne.symm hir]
      · rw [hget_app _ (by simpa using hql)]
        first | (rw [hget_set_self _ (by simpa using hql)]; done) | (rw [hget_set_ne _ hrq, hget_set_self _ (by simpa using hql)]; done)
      · exact hget_new' _ _ _ (by simp)

end Go.Ak

namespace Go.Ak
attribute [local simp] evI_skip Wp_skip Wp_exit Wp_ret Wp_some Ws_some andThen_norm andThen_ret andThen_exit andThen_pan outOf_norm outOf_ret outOf_pan outOf_exit fin_norm fin_ret fin_pan thaw_ret thaw_pan
  evSteps stepE wanted evOp opd opdL live look_mkE upd_mkE look_cons ver_cons st_at put slotty esc escs arg1 args drop1 nbeq nble nblt binA binI rd wr cellsN sub AV.cells pack one setCells resOf resV resAll roOf evPlan sameR beqE_refl beqH_refl fillA fillS newRow newObj step hdOk_nil hdOk_cons contents take flat look lim natOf bound sliceA remake eqS eqL eqA ver
  frz_bool frz_int frz_str frz_nils frz_nilp
  List.getElem?_cons_zero List.getElem?_cons_succ hget_eq hget_new hget_cons_zero hget_cons_succ hget_nil
attribute [-simp] getElem?_pos

theorem map_at {f : Nat → AV} {qs : List Nat} {i q : Nat} (h : qs[i]? = some q) : i + 1 ≤ (qs.map f).length ∧ ((qs.map f).drop i).take 1 = [f q] := by
  have hl := (List.getElem?_eq_some_iff.1 h).1
  have hv := (List.getElem?_eq_some_iff.1 h).2
  refine ⟨by simp; omega, ?_⟩
  rw [List.drop_eq_getElem_cons (by simpa using hl)]
  simp [hv]

theorem binS_eql (a b : List UInt8) : binS .eql a b = some (.bool (beqS a b)) := rfl

/-- The first place of a name. -/
def ixN (name : List UInt8) : List (List UInt8) → Nat → Int
  | [], _ => -1
  | m :: r, i => if beqS m name = true then i else ixN name r (i + 1)

theorem ixN_at (name : List UInt8) : ∀ (l : List (List UInt8)) (i : Nat), ixN name l i = -1 ∨ ∃ k : Nat, k < l.length ∧ ixN name l i = ((i + k : Nat) : Int)
  | [], _ => .inl rfl
  | m :: r, i => by
    simp only [ixN]
    split
    · exact .inr ⟨0, by simp, by simp⟩
    · rcases ixN_at name r (i + 1) with h | ⟨k, h1, h2⟩
      · exact .inl h
      · exact .inr ⟨k + 1, by simpa using h1, by rw [h2]; congr 1; omega⟩

theorem room_ok {H : Heap} {p size n : Nat} {c0 c1 c2 c3 c4 c5 : AV} (h : hget H p = some (some [c0, c1, c2, c3, c4, c5, num size])) (hz : size ≤ 65536) (hn : n ≤ 65536 - size) :
    Rn fsT SA.sp 0 50 [.tptr 2 7 p 0, num n] H = some (.ret (num 0), H.set p (some [c0, c1, c2, c3, c4, c5, num (size + n)])) := by
  have hs := SA.mono
  have hl := hget_lt h
  have e1 : IntKind.i64.wrap (65536 - (size : Int)) = 65536 - (size : Int) := i64_id _ (by omega)
  have e2 : ¬ (65536 - (size : Int)) < (n : Int) := by omega
  have e3 : IntKind.i64.wrap ((size : Int) + (n : Int)) = (size : Int) + n := i64_id _ (by omega)
  refine Wc_eq.1 (Wc_heap hs fsT_50 rfl rfl ?_)
  rw [env50]
  simp [a50, a50r0, a50r1, a50r2, a50r3, a50r4, Wp_seq hs, Wp_region hs, Wp_cond hs, h, e1, e2, e3]
  rfl

theorem room_no {H : Heap} {p size n : Nat} {c0 c1 c2 c3 c4 c5 : AV} (h : hget H p = some (some [c0, c1, c2, c3, c4, c5, num size])) (hz : size ≤ 65536) (hn : ¬ n ≤ 65536 - size) :
    Rn fsT SA.sp 0 50 [.tptr 2 7 p 0, num n] H = some (.ret (num 8), H) := by
  have hs := SA.mono
  have hl := hget_lt h
  have e1 : IntKind.i64.wrap (65536 - (size : Int)) = 65536 - (size : Int) := i64_id _ (by omega)
  have e2 : (65536 - (size : Int)) < (n : Int) := by omega
  refine Wc_eq.1 (Wc_heap hs fsT_50 rfl rfl ?_)
  rw [env50]
  simp [a50, a50r0, a50r1, a50r2, a50r3, a50r4, Wp_seq hs, Wp_region hs, Wp_cond hs, h, e1, e2]

theorem c52_run {bar : Nat} {H : Heap} {q nid : Nat} {x y : AV} {nm name : List UInt8} (hq : hget H q = some (some [x, y, .str nm])) (hn : hget H nid = some (some [.str name])) :
    Rn fsT SA.sp bar 52 [.tptr 3 3 q 0, .ptr nid 0] H = some (.ret (.bool (beqS nm name)), H) := by
  have hs := SA.mono
  refine pureH_eq hs fsT_52 rfl rfl rfl ?_
  rw [env52]
  simp [a52, a52r0, a52p1, Wp_seq hs, Wp_region hs, Wp_draw hs, hq, hn, binS_eql]

theorem c77_run {bar : Nat} {H : Heap} {q nid : Nat} {x y : AV} {nm name : List UInt8} (hq : hget H q = some (some [.str nm, x, y])) (hn : hget H nid = some (some [.str name])) :
    Rn fsT SA.sp bar 77 [.ptr q 0, .ptr nid 0] H = some (.ret (.bool (beqS nm name)), H) := by
  have hs := SA.mono
  refine pureH_eq hs fsT_77 rfl rfl rfl ?_
  rw [env77]
  simp [a77, a77r0, a77p1, Wp_seq hs, Wp_region hs, Wp_draw hs, hq, hn, binS_eql]

/-- Sinks, in the heap. -/
def Row53 (H : Heap) (sk : AV) (qs : List Nat) (nms : List (List UInt8)) : Prop := nms.length = qs.length ∧ qs.length ≤ 1000 ∧ ((qs = [] ∧ sk = .nils) ∨ ∃ r, sk = .msl 1 r 0 qs.length ∧ hget H r = some (some (qs.map fun q => .tptr 3 3 q 0))) ∧
  ∀ (i q : Nat) (nm : List UInt8), qs[i]? = some q → nms[i]? = some nm → ∃ x y, hget H q = some (some [x, y, .str nm])

theorem ix53_loop {bar : Nat} {H : Heap} {nid r : Nat} {name : List UInt8} {qs : List Nat} {nms : List (List UInt8)} (h1 : nms.length = qs.length) (h2 : qs.length ≤ 1000) (hr : hget H r = some (some (qs.map fun q => .tptr 3 3 q 0)))
    (hq : ∀ (i q : Nat) (nm : List UInt8), qs[i]? = some q → nms[i]? = some nm → ∃ x y, hget H q = some (some [x, y, .str nm])) (hn : hget H nid = some (some [.str name])) :
    ∀ (n i : Nat) (v : Nat → AV), i + n = qs.length → v 0 = .msl 1 r 0 qs.length → v 1 = .fn 52 [.ptr nid 0] → v 7 = num qs.length → v 8 = num i →
      Wp (evI fsT SA.sp bar (.loop a53l7) (mkE 66483 v, H)) (fun e t => ∃ v', t = (mkE 66483 v', H) ∧ ((e = .exit 0 ∧ ixN name (nms.drop i) i = -1) ∨ (e = .ret ∧ v' 4 = .int .i64 (ixN name (nms.drop i) i)))) := by
  have hs := SA.mono
  intro n
  induction n with
  | zero =>
    intro i v hi v0 v1 v7 v8
    have hi' : i = qs.length := by omega
    have : nms.drop i = [] := List.drop_eq_nil_of_le (by omega)
    rw [Wp_round hs a53l7.eq_1, this]
    simp [Wp_seq hs, Wp_region hs, Wp_block hs, Wp_cond hs, a53, a53r0, a53r1, a53r2, a53r3, a53r4, a53r5, a53r6, a53r8, v7, v8, hi']
    exact ⟨⟨_, rfl⟩, rfl⟩
  | succ n ih =>
    intro i v hi v0 v1 v7 v8
    have hlt : i < qs.length := by omega
    have hlt' : i < nms.length := by omega
    have e1 : qs[i]? = some qs[i] := List.getElem?_eq_getElem hlt
    have e2 : nms[i]? = some nms[i] := List.getElem?_eq_getElem hlt'
    obtain ⟨x, y, e3⟩ := hq i _ _ e1 e2
    obtain ⟨m1, m2⟩ := map_at (f := fun q => .tptr 3 3 q 0) e1
    have hc := c52_run (bar := bar) e3 hn
    have hdr : nms.drop i = nms[i] :: nms.drop (i + 1) := List.drop_eq_getElem_cons hlt'
    have hw : IntKind.i64.wrap ((i : Int) + 1) = ((i + 1 : Nat) : Int) := by rw [i64_id _ (by omega)]; omega
    have hlI : (i : Int) < (qs.length : Int) := by omega
    rw [Wp_round hs a53l7.eq_1, hdr]
    simp only [List.length_map] at m1
    cases hb : beqS nms[i] name with
    | true =>
      rw [hb] at hc
      simp only [ixN, hb, if_true]
      simp [Wp_seq hs, Wp_region hs, Wp_block hs, Wp_cond hs, a53, a53r0, a53r1, a53r2, a53r3, a53r4, a53r5, a53r6, a53r8, v0, v1, v7, v8, hlt, hlI, hr, m1, m2, hc]
      exact ⟨_, rfl, by simp⟩
    | false =>
      rw [hb] at hc
      simp only [ixN, hb, Bool.false_eq_true, if_false]
      simp [Wp_seq hs, Wp_region hs, Wp_block hs, Wp_cond hs, a53, a53r0, a53r1, a53r2, a53r3, a53r4, a53r5, a53r6, a53r8, v0, v1, v7, v8, hlt, hlI, hr, m1, m2, hc]
      exact (ih (i + 1) _ (by omega) (by simp [v0]) (by simp [v1]) (by simp [v7]) (by simp [v8, hw])).mono fun e t h => h

theorem ix53_run {bar : Nat} {H : Heap} {sk : AV} {nid : Nat} {name : List UInt8} {qs : List Nat} {nms : List (List UInt8)} (h : Row53 H sk qs nms) (hn : hget H nid = some (some [.str name])) :
    Rn fsT SA.sp bar 53 [sk, .fn 52 [.ptr nid 0]] H = some (.ret (.int .i64 (ixN name nms 0)), H) := by
  have hs := SA.mono
  obtain ⟨h1, h2, h3, h4⟩ := h
  refine Wc_eq.1 (Wc_heap hs fsT_53 rfl rfl ?_)
  rw [env53]
  rcases h3 with ⟨rfl, rfl⟩ | ⟨r, rfl, hr⟩
  · have : nms = [] := List.eq_nil_of_length_eq_zero (by simpa using h1)
    subst this
    simp [a53, a53r0, a53r1, Wp_seq hs, Wp_region hs, Wp_block hs]
    rw [Wp_round hs a53l7.eq_1]
    simp [Wp_seq hs, Wp_region hs, Wp_block hs, Wp_cond hs, a53, a53r0, a53r1, a53r2, a53r3, a53r4, a53r5, a53r6, a53r8, ixN]
  · simp [a53, a53r0, a53r1, Wp_seq hs, Wp_region hs, Wp_block hs]
    refine (ix53_loop h1 h2 hr h4 hn qs.length 0 _ (by omega) (by simp) (by simp) (by simp) (by simp)).mono fun e t ht => ?_
    obtain ⟨v', rfl, ht⟩ := ht
    rw [List.drop_zero] at ht
    rcases ht with ⟨rfl, hx⟩ | ⟨rfl, hx⟩
    · simp [a53r8, Wp_seq hs, Wp_region hs, hx]
    · simp [hx]

/-- Sources, in the heap. -/
def Row78 (H : Heap) (sk : AV) (qs : List Nat) (nms : List (List UInt8)) : Prop := nms.length = qs.length ∧ qs.length ≤ 1000 ∧ ((qs = [] ∧ sk = .nils) ∨ ∃ r, sk = .msl 1 r 0 qs.length ∧ hget H r = some (some (qs.map fun q => .ptr q 0))) ∧
  ∀ (i q : Nat) (nm : List UInt8), qs[i]? = some q → nms[i]? = some nm → ∃ x y, hget H q = some (some [.str nm, x, y])

theorem ix78_loop {bar : Nat} {H : Heap} {nid r : Nat} {name : List UInt8} {qs : List Nat} {nms : List (List UInt8)} (h1 : nms.length = qs.length) (h2 : qs.length ≤ 1000) (hr : hget H r = some (some (qs.map fun q => .ptr q 0)))
    (hq : ∀ (i q : Nat) (nm : List UInt8), qs[i]? = some q → nms[i]? = some nm → ∃ x y, hget H q = some (some [.str nm, x, y])) (hn : hget H nid = some (some [.str name])) :
    ∀ (n i : Nat) (v : Nat → AV), i + n = qs.length → v 0 = .msl 1 r 0 qs.length → v 1 = .fn 77 [.ptr nid 0] → v 7 = num qs.length → v 8 = num i →
      Wp (evI fsT SA.sp bar (.loop a78l7) (mkE 66483 v, H)) (fun e t => ∃ v', t = (mkE 66483 v', H) ∧ ((e = .exit 0 ∧ ixN name (nms.drop i) i = -1) ∨ (e = .ret ∧ v' 4 = .int .i64 (ixN name (nms.drop i) i)))) := by
  have hs := SA.mono
  intro n
  induction n with
  | zero =>
    intro i v hi v0 v1 v7 v8
    have hi' : i = qs.length := by omega
    have : nms.drop i = [] := List.drop_eq_nil_of_le (by omega)
    rw [Wp_round hs a78l7.eq_1, this]
    simp [Wp_seq hs, Wp_region hs, Wp_block hs, Wp_cond hs, a78, a78r0, a78r1, a78r2, a78r3, a78r4, a78r5, a78r6, a78r8, v7, v8, hi']
    exact ⟨⟨_, rfl⟩, rfl⟩
  | succ n ih =>
    intro i v hi v0 v1 v7 v8
    have hlt : i < qs.length := by omega
    have hlt' : i < nms.length := by omega
    have e1 : qs[i]? = some qs[i] := List.getElem?_eq_getElem hlt
    have e2 : nms[i]? = some nms[i] := List.getElem?_eq_getElem hlt'
    obtain ⟨x, y, e3⟩ := hq i _ _ e1 e2
    obtain ⟨m1, m2⟩ := map_at (f := fun q => .ptr q 0) e1
    have hc := c77_run (bar := bar) e3 hn
    have hdr : nms.drop i = nms[i] :: nms.drop (i + 1) := List.drop_eq_getElem_cons hlt'
    have hw : IntKind.i64.wrap ((i : Int) + 1) = ((i + 1 : Nat) : Int) := by rw [i64_id _ (by omega)]; omega
    have hlI : (i : Int) < (qs.length : Int) := by omega
    rw [Wp_round hs a78l7.eq_1, hdr]
    simp only [List.length_map] at m1
    cases hb : beqS nms[i] name with
    | true =>
      rw [hb] at hc
      simp only [ixN, hb, if_true]
      simp [Wp_seq hs, Wp_region hs, Wp_block hs, Wp_cond hs, a78, a78r0, a78r1, a78r2, a78r3, a78r4, a78r5, a78r6, a78r8, v0, v1, v7, v8, hlt, hlI, hr, m1, m2, hc]
      exact ⟨_, rfl, by simp⟩
    | false =>
      rw [hb] at hc
      simp only [ixN, hb, Bool.false_eq_true, if_false]
      simp [Wp_seq hs, Wp_region hs, Wp_block hs, Wp_cond hs, a78, a78r0, a78r1, a78r2, a78r3, a78r4, a78r5, a78r6, a78r8, v0, v1, v7, v8, hlt, hlI, hr, m1, m2, hc]
      exact (ih (i + 1) _ (by omega) (by simp [v0]) (by simp [v1]) (by simp [v7]) (by simp [v8, hw])).mono fun e t h => h

theorem ix78_run {bar : Nat} {H : Heap} {sk : AV} {nid : Nat} {name : List UInt8} {qs : List Nat} {nms : List (List UInt8)} (h : Row78 H sk qs nms) (hn : hget H nid = some (some [.str name])) :
    Rn fsT SA.sp bar 78 [sk, .fn 77 [.ptr nid 0]] H = some (.ret (.int .i64 (ixN name nms 0)), H) := by
  have hs := SA.mono
  obtain ⟨h1, h2, h3, h4⟩ := h
  refine Wc_eq.1 (Wc_heap hs fsT_78 rfl rfl ?_)
  rw [env78]
  rcases h3 with ⟨rfl, rfl⟩ | ⟨r, rfl, hr⟩
  · have : nms = [] := List.eq_nil_of_length_eq_zero (by simpa using h1)
    subst this
    simp [a78, a78r0, a78r1, Wp_seq hs, Wp_region hs, Wp_block hs]
    rw [Wp_round hs a78l7.eq_1]
    simp [Wp_seq hs, Wp_region hs, Wp_block hs, Wp_cond hs, a78, a78r0, a78r1, a78r2, a78r3, a78r4, a78r5, a78r6, a78r8, ixN]
  · simp [a78, a78r0, a78r1, Wp_seq hs, Wp_region hs, Wp_block hs]
    refine (ix78_loop h1 h2 hr h4 hn qs.length 0 _ (by omega) (by simp) (by simp) (by simp) (by simp)).mono fun e t ht => ?_
    obtain ⟨v', rfl, ht⟩ := ht
    rw [List.drop_zero] at ht
    rcases ht with ⟨rfl, hx⟩ | ⟨rfl, hx⟩
    · simp [a78r8, Wp_seq hs, Wp_region hs, hx]
    · simp [hx]

end Go.Ak

namespace Go.Ak
attribute [local simp] evI_skip Wp_skip Wp_exit Wp_ret Wp_some Ws_some andThen_norm andThen_ret andThen_exit andThen_pan outOf_norm outOf_ret outOf_pan outOf_exit fin_norm fin_ret fin_pan thaw_ret thaw_pan
  evSteps stepE wanted evOp opd opdL live look_mkE upd_mkE look_cons ver_cons st_at put slotty esc escs arg1 args drop1 nbeq nble nblt binA binI rd wr cellsN sub AV.cells pack one setCells resOf resV resAll roOf evPlan sameR beqE_refl beqH_refl fillA fillS newRow newObj step hdOk_nil hdOk_cons contents take flat look lim natOf bound sliceA remake eqS eqL eqA ver
  frz_bool frz_int frz_str frz_nils frz_nilp
  List.getElem?_cons_zero List.getElem?_cons_succ hget_eq hget_new hget_cons_zero hget_cons_succ hget_nil
attribute [-simp] getElem?_pos

theorem binS_neq (a b : List UInt8) : binS .neq a b = some (.bool (!beqS a b)) := rfl

theorem cut_none {bar : Nat} {H : Heap} {s : List UInt8} {c : UInt8} (h : Lib.indexByte s c = -1) : Rn fsT SA.sp bar 95 [.str s, .str [c]] H = some (.ret (.tup [.str s, .str [], .bool false]), H) := by
  have hs := SA.mono
  have h1 : ∀ (bar : Nat) (H : Heap), Rn fsT SA.sp bar 104 [.str s, .str [c]] H = some (.ret (.tup [.str s, .str [], .bool false]), H) := fun bar H => by
    refine pure_eq hs fsT_104 rfl rfl rfl ?_
    rw [env104]
    simp [a104, a104r0, a104r1, a104r2, a104p3, a104r4, Wp_seq hs, Wp_region hs, Wp_cond hs, Rn_index, spIndex, h, frz, frzL]
  refine pure_eq hs fsT_95 rfl rfl rfl ?_
  rw [env95]
  simp [a95, a95r0, a95r1, Wp_seq hs, Wp_region hs, h1, frz, frzL]

theorem cut_some {bar : Nat} {H : Heap} {s : List UInt8} {c : UInt8} {n : Nat} (h : Lib.indexByte s c = n) (hn : n < s.length) (hl : s.length ≤ 1000000) : Rn fsT SA.sp bar 95 [.str s, .str [c]] H = some (.ret (.tup [.str (s.take n), .str (s.drop (n + 1)), .bool true]), H) := by
  have hs := SA.mono
  have h1 : ∀ (bar : Nat) (H : Heap), Rn fsT SA.sp bar 104 [.str s, .str [c]] H = some (.ret (.tup [.str (s.take n), .str (s.drop (n + 1)), .bool true]), H) := fun bar H => by
    have hw : IntKind.i64.wrap ((n : Int) + 1) = (n : Int) + 1 := i64_id _ (by omega)
    have h0 : (0 : Int) ≤ (n : Int) + 1 := by omega
    have e1 : List.take (s.length - (n + 1)) (s.drop (n + 1)) = s.drop (n + 1) := List.take_of_length_le (by simp)
    have hn1 : n + 1 ≤ s.length := hn
    have hn2 : n ≤ s.length := by omega
    have ht : ((n : Int) + 1).toNat = n + 1 := by omega
    refine pure_eq hs fsT_104 rfl rfl rfl ?_
    rw [env104]
    simp [a104, a104r0, a104r1, a104r2, a104p3, a104r4, Wp_seq hs, Wp_region hs, Wp_draw hs, Wp_cond hs, Rn_index, spIndex, h, frz, frzL, hw, h0, hn1, hn2, ht, e1]
  refine pure_eq hs fsT_95 rfl rfl rfl ?_
  rw [env95]
  simp [a95, a95r0, a95r1, Wp_seq hs, Wp_region hs, h1, frz, frzL]

/-- The next record of those that a byte ends: it, where it ends, whether there is one. -/
def nx (s : List UInt8) (c : UInt8) (at' : Nat) : List UInt8 × Nat × Bool :=
  if s.length ≤ at' then ([], 0, false) else
    if Lib.indexByte (s.drop at') c = -1 then (s.drop at', s.length, true) else ((s.drop at').take (Lib.indexByte (s.drop at') c).toNat, at' + (Lib.indexByte (s.drop at') c).toNat + 1, true)

theorem nx_le (s : List UInt8) (c : UInt8) (at' : Nat) : (nx s c at').2.1 ≤ s.length + 1 := by
  unfold nx
  split
  · simp
  · split
    · simp
    · rcases indexByte_at (s.drop at') c with e | ⟨n, h1, h2⟩
      · rename_i h; exact absurd e h
      · simp only [h2, Int.toNat_natCast]
        simp only [List.length_drop] at h1
        omega

theorem next_run {bar : Nat} {H : Heap} {s : List UInt8} {c : UInt8} {at' : Nat} (hl : s.length ≤ 1000000) (hc : c ≠ 92) :
    Rn fsT SA.sp bar 80 [.str s, num at', .str [c]] H = some (.ret (.tup [.str (nx s c at').1, num (nx s c at').2.1, .bool (nx s c at').2.2, num 0]), H) := by
  have hs := SA.mono
  have hc92 : beqS [c] [92] = false := by
    simp only [beqS, nbeq, Bool.and_true, decide_eq_false_iff_not]
    intro e; exact hc (UInt8.toNat_inj.1 (by simpa using e))
  have hce : beqS [c] [] = false := rfl
  have hneg : ¬ ((at' : Int) < 0) := by omega
  refine pure_eq hs fsT_80 rfl rfl rfl ?_
  rw [env80]
  by_cases h1 : s.length ≤ at'
  · have h1' : (s.length : Int) ≤ (at' : Int) := by omega
    simp [a80, a80r0, a80r1, a80r2, a80r3, a80r4, a80r5, a80r6, a80r7, a80r8, a80r9, a80r10, a80r11, a80r12, a80r13, a80r14, a80r15, a80r16, a80r17, a80p18, Wp_seq hs, Wp_region hs, Wp_cond hs, Wp_block hs, hneg, h1', h1, nx, frz, frzL]
  · have h1' : ¬ (s.length : Int) ≤ (at' : Int) := by omega
    have h2 : at' ≤ s.length := by omega
    rcases indexByte_at (s.drop at') c with e | ⟨n, n1, n2⟩
    · have hcut := cut_none (bar := 0) (H := []) e
      have e1 : List.take (s.length - at') (s.drop at') = s.drop at' := List.take_of_length_le (by simp)
      have hw : IntKind.i64.wrap ((at' : Int) + ((s.length - at' : Nat) : Int)) = (s.length : Int) := by rw [i64_id _ (by omega)]; omega
      simp [a80, a80r0, a80r1, a80r2, a80r3, a80r4, a80r5, a80r6, a80r7, a80r8, a80r9, a80r10, a80r11, a80r12, a80r13, a80r14, a80r15, a80r16, a80r17, a80p18, Wp_seq hs, Wp_region hs, Wp_cond hs, Wp_block hs, hneg, h1', h1, h2, nx, frz, frzL, binS_eql, binS_neq, hc92, hce, e1, hcut, e, hw]
    · have hcut := cut_some (bar := 0) (H := []) n2 n1 (by simp; omega)
      simp only [List.length_drop] at n1
      have e1 : List.take (s.length - at') (s.drop at') = s.drop at' := List.take_of_length_le (by simp)
      have e2 : min n (s.length - at') = n := by omega
      have hw : IntKind.i64.wrap ((at' : Int) + (n : Int)) = (at' : Int) + (n : Int) := i64_id _ (by omega)
      have hw2 : IntKind.i64.wrap ((at' : Int) + (n : Int) + 1) = (at' : Int) + (n : Int) + 1 := i64_id _ (by omega)
      have hne : ¬ ((n : Int) = -1) := by omega
      simp [a80, a80r0, a80r1, a80r2, a80r3, a80r4, a80r5, a80r6, a80r7, a80r8, a80r9, a80r10, a80r11, a80r12, a80r13, a80r14, a80r15, a80r16, a80r17, a80p18, Wp_seq hs, Wp_region hs, Wp_cond hs, Wp_block hs, hneg, h1', h1, h2, nx, frz, frzL, binS_eql, binS_neq, hc92, hce, e1, hcut, n2, e2, hw, hw2, hne]

theorem Row78.app {H : Heap} {sk : AV} {qs : List Nat} {nms : List (List UInt8)} (h : Row78 H sk qs nms) (l : Heap) : Row78 (H ++ l) sk qs nms := by
  obtain ⟨h1, h2, h3, h4⟩ := h
  refine ⟨h1, h2, ?_, fun i q nm a b => ?_⟩
  · rcases h3 with h | ⟨r, a, b⟩
    · exact .inl h
    · exact .inr ⟨r, a, (hget_app _ (hget_lt b)).trans b⟩
  · obtain ⟨x, y, e⟩ := h4 i q nm a b
    exact ⟨x, y, (hget_app _ (hget_lt e)).trans e⟩

theorem file_none {H : Heap} {p : Nat} {c0 fs c2 c3 c4 c5 c6 : AV} {name : List UInt8} {qs : List Nat} {nms : List (List UInt8)} (hp : hget H p = some (some [c0, fs, c2, c3, c4, c5, c6])) (hr : Row78 H fs qs nms) (hx : ixN name nms 0 = -1) :
    Rn fsT SA.sp 0 49 [.tptr 2 7 p 0, .str name] H = some (.ret .nilp, H ++ [some [.str name]]) := by
  have hs := SA.mono
  have hpl := hget_lt hp
  have hi := ix78_run (bar := 0) (hr.app [some [.str name]]) (nid := H.length) (name := name) (hget_new _ _)
  rw [hx] at hi
  obtain ⟨_, _, h3, _⟩ := hr
  refine Wc_eq.1 (Wc_heap hs fsT_49 rfl rfl ?_)
  rw [env49]
  rcases h3 with ⟨rfl, rfl⟩ | ⟨r, rfl, hr⟩ <;> simp [a49, a49r0, a49r1, a49r2, a49r3, a49r4, Wp_seq hs, Wp_region hs, Wp_cond hs, hget_app, hpl, hp, hi]

theorem file_some {H : Heap} {p : Nat} {c0 fs c2 c3 c4 c5 c6 : AV} {name : List UInt8} {qs : List Nat} {nms : List (List UInt8)} {k q : Nat} (hp : hget H p = some (some [c0, fs, c2, c3, c4, c5, c6])) (hr : Row78 H fs qs nms) (hx : ixN name nms 0 = (k : Int)) (hk : qs[k]? = some q) :
    Rn fsT SA.sp 0 49 [.tptr 2 7 p 0, .str name] H = some (.ret (.ptr q 0), H ++ [some [.str name]]) := by
  have hs := SA.mono
  have hpl := hget_lt hp
  have hi := ix78_run (bar := 0) (hr.app [some [.str name]]) (nid := H.length) (name := name) (hget_new _ _)
  rw [hx] at hi
  obtain ⟨_, _, h3, _⟩ := hr
  rcases h3 with ⟨rfl, _⟩ | ⟨r, rfl, hr⟩
  · simp at hk
  · have hrl := hget_lt hr
    have hkl : k < qs.length := (List.getElem?_eq_some_iff.1 hk).1
    obtain ⟨m1, m2⟩ := map_at (f := fun q => .ptr q 0) hk
    simp only [List.length_map] at m1
    have hneg : ¬ ((k : Int) < 0) := by omega
    refine Wc_eq.1 (Wc_heap hs fsT_49 rfl rfl ?_)
    rw [env49]
    simp [a49, a49r0, a49r1, a49r2, a49r3, a49r4, Wp_seq hs, Wp_region hs, Wp_cond hs, hget_app, hpl, hp, hi, hneg, hkl, hrl, hr, m1, m2]

end Go.Ak

namespace Go.Ak
attribute [local simp] evI_skip Wp_skip Wp_exit Wp_ret Wp_some Ws_some andThen_norm andThen_ret andThen_exit andThen_pan outOf_norm outOf_ret outOf_pan outOf_exit fin_norm fin_ret fin_pan thaw_ret thaw_pan
  evSteps stepE wanted evOp opd opdL live look_mkE upd_mkE look_cons ver_cons st_at put slotty esc escs arg1 args drop1 nbeq nble nblt binA binI rd wr cellsN sub AV.cells pack one setCells resOf resV resAll roOf evPlan sameR beqE_refl beqH_refl fillA fillS newRow newObj step hdOk_nil hdOk_cons contents take flat look lim natOf bound sliceA remake eqS eqL eqA ver
  frz_bool frz_int frz_str frz_nils frz_nilp
  List.getElem?_cons_zero List.getElem?_cons_succ hget_eq hget_new hget_cons_zero hget_cons_succ hget_nil
attribute [-simp] getElem?_pos

theorem src_no {H : Heap} {q : Nat} {nm s : List UInt8} {c : UInt8} {at' : Nat} (hq : hget H q = some (some [.str nm, .str s, num at'])) (hl : s.length ≤ 1000000) (hc : c ≠ 92) (hn : s.length ≤ at') :
    Rn fsT SA.sp 0 54 [.ptr q 0, .str [c]] H = some (.ret (.tup [.str [], .bool false, num 0]), H) := by
  have hs := SA.mono
  have h := next_run (bar := 0) (H := H) (s := s) (c := c) (at' := at') hl hc
  have hz : nx s c at' = ([], 0, false) := by simp [nx, hn]
  rw [hz] at h
  refine Wc_eq.1 (Wc_heap hs fsT_54 rfl rfl ?_)
  rw [env54]
  simp at h
  simp [a54, a54r0, a54p1, a54r2, a54r3, a54r4, Wp_seq hs, Wp_region hs, Wp_draw hs, Wp_cond hs, hq, h]

theorem src_yes {H : Heap} {q : Nat} {nm s : List UInt8} {c : UInt8} {at' : Nat} (hq : hget H q = some (some [.str nm, .str s, num at'])) (hl : s.length ≤ 1000000) (hc : c ≠ 92) (hn : ¬ s.length ≤ at') :
    Rn fsT SA.sp 0 54 [.ptr q 0, .str [c]] H = some (.ret (.tup [.str (nx s c at').1, .bool true, num 0]), H.set q (some [.str nm, .str s, num (nx s c at').2.1])) := by
  have hs := SA.mono
  have h := next_run (bar := 0) (H := H) (s := s) (c := c) (at' := at') hl hc
  have hz : (nx s c at').2.2 = true := by
    unfold nx
    rw [if_neg hn]
    split <;> rfl
  rw [hz] at h
  refine Wc_eq.1 (Wc_heap hs fsT_54 rfl rfl ?_)
  rw [env54]
  generalize nx s c at' = z at h
  simp [a54, a54r0, a54p1, a54r2, a54r3, a54r4, Wp_seq hs, Wp_region hs, Wp_draw hs, Wp_cond hs, hq, h]

/-- A file that is read: its name, its text, how far it was. -/
structure Src where
  nm : List UInt8
  s : List UInt8
  at' : Nat

def Src.cells (f : Src) : List AV := [.str f.nm, .str f.s, num f.at']

/-- Files that are read, in the heap. -/
structure FR (H : Heap) (fs : AV) (qs : List Nat) (fl : List Src) : Prop where
  len : fl.length = qs.length
  few : qs.length ≤ 1000
  row : (qs = [] ∧ fs = .nils) ∨ ∃ r, fs = .msl 1 r 0 qs.length ∧ hget H r = some (some (qs.map fun q => .ptr q 0)) ∧ r ∉ qs
  cells : ∀ (i q : Nat) (f : Src), qs[i]? = some q → fl[i]? = some f → hget H q = some (some f.cells)
  nodup : qs.Nodup
  short : ∀ f ∈ fl, f.s.length ≤ 1000000

theorem FR.row78 {H : Heap} {fs : AV} {qs : List Nat} {fl : List Src} (h : FR H fs qs fl) : Row78 H fs qs (fl.map Src.nm) := by
  refine ⟨by simpa using h.len, h.few, ?_, fun i q nm hq hn => ?_⟩
  · rcases h.row with h | ⟨r, a, b, _⟩
    · exact .inl h
    · exact .inr ⟨r, a, b⟩
  · rw [List.getElem?_map] at hn
    cases hf : fl[i]? with
    | none => rw [hf] at hn; cases hn
    | some f =>
      rw [hf] at hn
      simp only [Option.map_some, Option.some.injEq] at hn
      subst hn
      exact ⟨_, _, h.cells i q f hq hf⟩

/-- Files that are read stay where only other objects turn. -/
theorem FR.stay {H H' : Heap} {fs : AV} {qs : List Nat} {fl : List Src} (h : FR H fs qs fl) (hq : ∀ q ∈ qs, hget H' q = hget H q) (hr : ∀ r, fs = .msl 1 r 0 qs.length → hget H' r = hget H r) : FR H' fs qs fl where
  len := h.len
  few := h.few
  row := by
    rcases h.row with k | ⟨r, a, b, c⟩
    · exact .inl k
    · exact .inr ⟨r, a, (hr r a).trans b, c⟩
  cells i q f a b := (hq q (List.mem_of_getElem? a)).trans (h.cells i q f a b)
  nodup := h.nodup
  short := h.short

theorem FR.lt {H : Heap} {fs : AV} {qs : List Nat} {fl : List Src} (h : FR H fs qs fl) : (∀ q ∈ qs, q < H.length) ∧ ∀ r, fs = .msl 1 r 0 qs.length → r < H.length := by
  refine ⟨fun q hq => ?_, fun r e => ?_⟩
  · obtain ⟨i, hi⟩ := List.getElem?_of_mem hq
    have : i < fl.length := by rw [h.len]; exact (List.getElem?_eq_some_iff.1 hi).1
    exact hget_lt (h.cells i q _ hi (List.getElem?_eq_getElem this))
  · rcases h.row with ⟨_, k⟩ | ⟨r', a, b, c⟩
    · rw [k] at e; cases e
    · rw [a] at e; cases e; exact hget_lt b

theorem FR.set {H : Heap} {fs : AV} {qs : List Nat} {fl : List Src} (h : FR H fs qs fl) {k q : Nat} {f f' : Src} (hq : qs[k]? = some q) (hs : f'.s.length ≤ 1000000) : FR (H.set q (some f'.cells)) fs qs (fl.set k f') where
  len := by simpa using h.len
  few := h.few
  row := by
    rcases h.row with k | ⟨r, a, b, c⟩
    · exact .inl k
    · exact .inr ⟨r, a, by rw [hget_set_ne _ (fun e => c (by rw [← e]; exact List.mem_of_getElem? hq))]; exact b, c⟩
  cells i q' g a b := by
    by_cases hik : k = i
    · subst hik
      rw [hq] at a; cases a
      have hlt : k < fl.length := by rw [h.len]; exact (List.getElem?_eq_some_iff.1 hq).1
      rw [List.getElem?_set_self hlt] at b
      cases b
      exact hget_set_self _ (h.lt.1 q (List.mem_of_getElem? hq))
    · rw [List.getElem?_set_ne hik] at b
      have hne : q ≠ q' := fun e => by
        subst e
        exact hik ((List.getElem?_inj (List.getElem?_eq_some_iff.1 hq).1 h.nodup).1 (hq.trans a.symm))
      rw [hget_set_ne _ hne]
      exact h.cells i q' g a b
  nodup := h.nodup
  short g hg := by
    rcases List.mem_or_eq_of_mem_set hg with hg | rfl
    · exact h.short g hg
    · exact hs

/-- What reading tells, and what it leaves of the files. -/
def readF (fl : List Src) (name : List UInt8) (c : UInt8) : AV × List Src :=
  match fl[(ixN name (fl.map Src.nm) 0).toNat]? with
  | some f => if ixN name (fl.map Src.nm) 0 = -1 then (.tup [.str [], .int .i64 (-1), num 0], fl) else
      if f.s.length ≤ f.at' then (.tup [.str [], num 0, num 0], fl) else
        (.tup [.str (nx f.s c f.at').1, num 1, num 0], fl.set (ixN name (fl.map Src.nm) 0).toNat { f with at' := (nx f.s c f.at').2.1 })
  | none => (.tup [.str [], .int .i64 (-1), num 0], fl)

def Reads (H : Heap) (fs : AV) (qs : List Nat) (fl : List Src) (H' : Heap) : Prop := FR H' fs qs fl ∧ H.length ≤ H'.length ∧ ∀ i, i < H.length → i ∉ qs → hget H' i = hget H i

theorem read_run {H : Heap} {p : Nat} {c0 fs c2 c3 c4 c5 c6 : AV} {name : List UInt8} {c : UInt8} {qs : List Nat} {fl : List Src} (hp : hget H p = some (some [c0, fs, c2, c3, c4, c5, c6])) (hf : FR H fs qs fl) (hc : c ≠ 92) :
    ∃ H', Rn fsT SA.sp 0 30 [.tptr 2 7 p 0, .str name, .str [c]] H = some (.ret (readF fl name c).1, H') ∧ Reads H fs qs (readF fl name c).2 H' := by
  have hs := SA.mono
  have hpl := hget_lt hp
  have happ : FR (H ++ [some [.str name]]) fs qs fl := hf.stay (fun q hq => hget_app _ (hf.lt.1 q hq)) (fun r e => hget_app _ (hf.lt.2 r e))
  have hkeep : ∀ i, i < H.length → i ∉ qs → hget (H ++ [some [.str name]]) i = hget H i := fun i hi _ => hget_app _ hi
  rcases ixN_at name (fl.map Src.nm) 0 with hx | ⟨k, hk, hx⟩
  · have hfile := file_none hp hf.row78 hx
    have hF : readF fl name c = (.tup [.str [], .int .i64 (-1), num 0], fl) := by
      unfold readF
      split
      · rw [if_pos hx]
      · rfl
    rw [hF]
    refine ⟨_, Wc_eq.1 (Wc_heap hs fsT_30 rfl rfl ?_), happ, by simp, hkeep⟩
    rw [env30]
    simp [a30, a30r0, a30r1, a30r2, a30r3, a30r4, a30r5, a30r6, a30r7, Wp_seq hs, Wp_region hs, Wp_cond hs, hfile]
  · rw [Nat.zero_add] at hx
    simp only [List.length_map] at hk
    have hkq : k < qs.length := by rw [← hf.len]; exact hk
    have e1 : fl[k]? = some fl[k] := List.getElem?_eq_getElem hk
    have e2 : qs[k]? = some qs[k] := List.getElem?_eq_getElem hkq
    have hfile := file_some hp hf.row78 hx e2
    have hcell := happ.cells k _ _ e2 e1
    have hsh := hf.short _ (List.mem_of_getElem? e1)
    have hne : ¬ ((k : Int) = -1) := by omega
    have hn : (ixN name (fl.map Src.nm) 0).toNat = k := by rw [hx]; rfl
    have hF : readF fl name c = (if fl[k].s.length ≤ fl[k].at' then (.tup [.str [], num 0, num 0], fl) else
        (.tup [.str (nx fl[k].s c fl[k].at').1, num 1, num 0], fl.set k { fl[k] with at' := (nx fl[k].s c fl[k].at').2.1 })) := by
      unfold readF
      rw [hn, e1]
      simp only [hx, if_neg hne]
    rw [hF]
    by_cases hle : fl[k].s.length ≤ fl[k].at'
    · rw [if_pos hle]
      have hnext := src_no (c := c) hcell hsh hc hle
      refine ⟨_, Wc_eq.1 (Wc_heap hs fsT_30 rfl rfl ?_), happ, by simp, hkeep⟩
      rw [env30]
      simp [a30, a30r0, a30r1, a30r2, a30r3, a30r4, a30r5, a30r6, a30r7, Wp_seq hs, Wp_region hs, Wp_cond hs, hfile, hnext]
    · rw [if_neg hle]
      have hnext := src_yes (c := c) hcell hsh hc hle
      have hset := happ.set (f := fl[k]) (f' := { fl[k] with at' := (nx fl[k].s c fl[k].at').2.1 }) e2 hsh
      refine ⟨_, Wc_eq.1 (Wc_heap hs fsT_30 rfl rfl ?_), hset, by simp, fun i hi hq => ?_⟩
      · rw [env30]
        generalize nx fl[k].s c fl[k].at' = z at hnext
        simp [a30, a30r0, a30r1, a30r2, a30r3, a30r4, a30r5, a30r6, a30r7, Wp_seq hs, Wp_region hs, Wp_cond hs, hfile, hnext, Src.cells]
      · rw [hget_set_ne _ (fun e => hq (by rw [← e]; exact List.mem_of_getElem? e2))]
        exact hkeep i hi hq

end Go.Ak

namespace Go.Ak
attribute [local simp] evI_skip Wp_skip Wp_exit Wp_ret Wp_some Ws_some andThen_norm andThen_ret andThen_exit andThen_pan outOf_norm outOf_ret outOf_pan outOf_exit fin_norm fin_ret fin_pan thaw_ret thaw_pan
  evSteps stepE wanted evOp opd opdL live look_mkE upd_mkE look_cons ver_cons st_at put slotty esc escs arg1 args drop1 nbeq nble nblt binA binI rd wr cellsN sub AV.cells pack one setCells resOf resV resAll roOf evPlan sameR beqE_refl beqH_refl fillA fillS newRow newObj step hdOk_nil hdOk_cons contents take flat look lim natOf bound sliceA remake eqS eqL eqA ver
  frz_bool frz_int frz_str frz_nils frz_nilp
  List.getElem?_cons_zero List.getElem?_cons_succ hget_eq hget_new hget_cons_zero hget_cons_succ hget_nil
attribute [-simp] getElem?_pos

/-- A text twice as long, so often. -/
def dbl : Nat → List UInt8 → List UInt8
  | 0, s => s
  | n + 1, s => if s.length < 40000 then dbl n (s ++ s) else s

theorem dbl_le : ∀ (n : Nat) (s : List UInt8), s.length ≤ 80000 → (dbl n s).length ≤ 80000
  | 0, _, h => h
  | n + 1, s, h => by
    simp only [dbl]
    split
    · exact dbl_le n _ (by simp; omega)
    · exact h

theorem text_loop {k : Int} {nm s0 : List UInt8} {more : Bool} {many : Nat} (hm : many < 256) : ∀ (n i : Nat) (s : List UInt8) (v : Nat → AV), i + n = many % 13 → s.length ≤ 80000 → v 1 = .box [.int .i64 k, .str nm, .str s0, .bool more, .int .u8 many] → v 3 = .str s → v 4 = num i →
    Wp (evI fsT SA.sp 0 (.loop a27l6) (mkE 131103 v, [])) (fun e t => e = .exit 0 ∧ ∃ v', t = (mkE 131103 v', []) ∧ v' 3 = .str (dbl n s)) := by
  have hs := SA.mono
  have hmod : ((many : Int).tmod 13) = (many : Int) % 13 := Int.tmod_eq_emod_of_nonneg (by omega)
  have hw0 : IntKind.i64.wrap ((many : Int) % 13) = (many : Int) % 13 := i64_id _ (by omega)
  have h13 : ((13 : Int) == 0) = false := by decide
  intro n
  induction n with
  | zero =>
    intro i s v hi hl v1 v3 v4
    have hlt : ¬ ((i : Int) < (many : Int) % 13) := by omega
    rw [Wp_round hs a27l6.eq_1]
    simp [Wp_seq hs, Wp_region hs, Wp_block hs, Wp_cond hs, a27, a27r0, a27r1, a27r2, a27r3, a27r4, a27r5, a27r7, v1, v3, v4, hmod, hw0, hlt]
    exact ⟨_, rfl, by simp [v3, dbl]⟩
  | succ n ih =>
    intro i s v hi hl v1 v3 v4
    have hlt : ((i : Int) < (many : Int) % 13) := by omega
    rw [Wp_round hs a27l6.eq_1]
    by_cases hsl : s.length < 40000
    · have hsl' : (s.length : Int) < 40000 := by omega
      have hw : IntKind.i64.wrap ((i : Int) + 1) = ((i + 1 : Nat) : Int) := by rw [i64_id _ (by omega)]; omega
      have hadd : binS .add s s = some (.str (s ++ s)) := by
        have : s.length + s.length ≤ 4611686018427387904 := by omega
        simp [binS, nble, this]
      simp [Wp_seq hs, Wp_region hs, Wp_block hs, Wp_cond hs, a27, a27r0, a27r1, a27r2, a27r3, a27r4, a27r5, a27r7, v1, v3, v4, hmod, hw0, hlt, hsl', hadd]
      simp only [dbl, if_pos hsl]
      exact (ih (i + 1) (s ++ s) _ (by omega) (by simp; omega) (by simp [v1]) (by simp) (by simp [hw])).mono fun e t h => by simpa using h
    · have hsl' : ¬ (s.length : Int) < 40000 := by omega
      simp [Wp_seq hs, Wp_region hs, Wp_block hs, Wp_cond hs, a27, a27r0, a27r1, a27r2, a27r3, a27r4, a27r5, a27r7, v1, v3, v4, hmod, hw0, hlt, hsl']
      exact ⟨_, rfl, by simp [v3, dbl, hsl]⟩

theorem text_run {bar : Nat} {H : Heap} {k : Int} {nm s : List UInt8} {more : Bool} {many : Nat} (hm : many < 256) (hl : s.length ≤ 80000) :
    Rn fsT SA.sp bar 27 [.agg [.int .i64 k, .str nm, .str s, .bool more, .int .u8 many]] H = some (.ret (.str (dbl (many % 13) s)), H) := by
  have hs := SA.mono
  refine pure_eq hs fsT_27 rfl rfl rfl ?_
  rw [env27]
  simp [a27, a27r0, a27r1, a27r2, Wp_seq hs, Wp_region hs, Wp_block hs]
  refine (text_loop (k := k) (nm := nm) (s0 := s) (more := more) hm (many % 13) 0 s _ (by omega) hl (by simp) (by simp) (by simp)).mono fun e t ht => ?_
  obtain ⟨rfl, v', rfl, h3⟩ := ht
  simp [a27r7, Wp_seq hs, Wp_region hs, h3]

/-- A file as it is given. -/
def fA (f : List UInt8 × List UInt8) : AV := .agg [.str f.1, .str f.2]

def cutF (f : List UInt8 × List UInt8) : List UInt8 × List UInt8 := (f.1, f.2.take 60)

def shortF (fl : List (List UInt8 × List UInt8)) : List (List UInt8 × List UInt8) := (fl.take 6).map cutF

/-- A row as it is given: its elements, or nil. -/
def isRow (A : AV) (l : List AV) : Prop := A = .slc .ro l ∨ (A = .nils ∧ l = [])

theorem short_loop {fl : List (List UInt8 × List UInt8)} {A : AV} (hA : isRow A (fl.map fA)) : ∀ (n i : Nat) (v : Nat → AV), i + n = min fl.length 6 → v 0 = A → v 3 = .slc .own (((fl.take i).map cutF).map fA) → v 4 = num i →
    Wp (evI fsT SA.sp 0 (.loop a25l9) (mkE 16793661 v, [])) (fun e t => e = .exit 0 ∧ ∃ v', t = (mkE 16793661 v', []) ∧ v' 3 = .slc .own ((shortF fl).map fA)) := by
  have hs := SA.mono
  intro n
  induction n with
  | zero =>
    intro i v hi v0 v3 v4
    rw [Wp_round hs a25l9.eq_1]
    have htk : fl.take i = fl.take 6 := by
      rcases Nat.le_total fl.length 6 with h | h
      · rw [List.take_of_length_le (by omega), List.take_of_length_le h]
      · have : i = 6 := by omega
        rw [this]
    rcases hA with rfl | ⟨rfl, hl⟩
    · by_cases h6 : i < fl.length
      · have hi6 : i = 6 := by omega
        subst hi6
        have h6' : (6 : Int) < (fl.length : Int) := by omega
        simp [Wp_seq hs, Wp_region hs, Wp_block hs, Wp_cond hs, a25, a25r0, a25r1, a25r2, a25r3, a25r4, a25r5, a25r6, a25r7, a25r8, a25r10, v0, v3, v4, h6']
        exact ⟨_, rfl, by simp [v3, shortF]⟩
      · have h6' : ¬ (i : Int) < (fl.length : Int) := by omega
        simp [Wp_seq hs, Wp_region hs, Wp_block hs, Wp_cond hs, a25, a25r0, a25r1, a25r2, a25r3, a25r4, a25r5, a25r6, a25r7, a25r8, a25r10, v0, v3, v4, h6']
        exact ⟨_, rfl, by rw [htk] at v3; simp [v3, shortF]⟩
    · have hf : fl = [] := List.map_eq_nil_iff.1 hl
      subst hf
      have hi0 : ¬ ((i : Int) < 0) := by omega
      simp [Wp_seq hs, Wp_region hs, Wp_block hs, Wp_cond hs, a25, a25r0, a25r1, a25r2, a25r3, a25r4, a25r5, a25r6, a25r7, a25r8, a25r10, v0, v3, v4, hi0]
      exact ⟨_, rfl, by simp [v3, shortF]⟩
  | succ n ih =>
    intro i v hi v0 v3 v4
    rw [Wp_round hs a25l9.eq_1]
    have hlt : i < fl.length := by omega
    have h6 : (i : Int) < 6 := by omega
    have hlI : (i : Int) < (fl.length : Int) := by omega
    have hrow : A = .slc .ro (fl.map fA) := by
      rcases hA with h | ⟨_, h⟩
      · exact h
      · rw [List.map_eq_nil_iff.1 h] at hlt; simp at hlt
    have e1 : fl[i]? = some fl[i] := List.getElem?_eq_getElem hlt
    have e2 : (fl.map fA)[i]? = some (.agg [.str fl[i].1, .str fl[i].2]) := by rw [List.getElem?_map, e1]; rfl
    have htk : fl.take (i + 1) = fl.take i ++ [fl[i]] := by rw [List.take_add_one, e1]; rfl
    have hw : IntKind.i64.wrap ((i : Int) + 1) = ((i + 1 : Nat) : Int) := by rw [i64_id _ (by omega)]; omega
    have hhd : hdOk 2 (((fl.take i).map cutF).map fA) = true := by
      cases (fl.take i) with | nil => rfl | cons a l => rfl
    have hlim : ((((fl.take i).map cutF).map fA).length + 1) * 2 ≤ 4294967296 := by simp; omega
    have hacc2 : (((fl.take (i + 1)).map cutF).map fA) = (((fl.take i).map cutF).map fA) ++ [fA (cutF fl[i])] := by rw [htk, List.map_append, List.map_append]; rfl
    generalize ((fl.take i).map cutF).map fA = acc at v3 hhd hlim hacc2
    generalize fl[i] = f at e2 hacc2
    obtain ⟨nm, s⟩ := f
    rw [hrow] at v0
    by_cases h60 : 60 < s.length
    · have h60' : (60 : Int) < (s.length : Int) := by omega
      have h60n : 60 ≤ s.length := by omega
      simp [Wp_seq hs, Wp_region hs, Wp_block hs, Wp_cond hs, a25, a25r0, a25r1, a25r2, a25r3, a25r4, a25r5, a25r6, a25r7, a25r8, a25r10, v0, v3, v4, hlI, h6, e2, h60', h60n, hw, hhd, hlim]
      refine (ih (i + 1) _ (by omega) ?_ ?_ ?_).mono fun e t h => by simpa using h
      · simp [v0, hrow]
      · rw [hacc2]; simp [cutF, fA]
      · simp [hw]
    · have h60' : ¬ (60 : Int) < (s.length : Int) := by omega
      have htake : s.take 60 = s := List.take_of_length_le (by omega)
      simp [Wp_seq hs, Wp_region hs, Wp_block hs, Wp_cond hs, a25, a25r0, a25r1, a25r2, a25r3, a25r4, a25r5, a25r6, a25r7, a25r8, a25r10, v0, v3, v4, hlI, h6, e2, h60', hw, hhd, hlim]
      refine (ih (i + 1) _ (by omega) ?_ ?_ ?_).mono fun e t h => by simpa using h
      · simp [v0, hrow]
      · rw [hacc2]; simp [cutF, fA, htake]
      · simp [hw]

theorem short_run {bar : Nat} {H : Heap} {fl : List (List UInt8 × List UInt8)} {A : AV} (hA : isRow A (fl.map fA)) (hc : clo A = true) : Rn fsT SA.sp bar 25 [A] H = some (.ret (.slc .own ((shortF fl).map fA)), H) := by
  have hs := SA.mono
  refine pure_eq hs fsT_25 rfl (by simp [cloL, hc]) rfl ?_
  rw [env25]
  have hf : ∀ (l : List (List UInt8 × List UInt8)), frzL 0 [] (l.map fA) = some (l.map fA) := fun l => by
    induction l with
    | nil => rfl
    | cons f l ih => simp [frzL, fA, frz] at ih ⊢; rw [ih]
  have hloop := short_loop hA
  rcases hA with rfl | ⟨rfl, _⟩
  all_goals
    simp [a25, a25r0, a25r1, a25r2, Wp_seq hs, Wp_region hs, Wp_block hs]
    refine (hloop (min fl.length 6) 0 _ (by omega) ?_ ?_ ?_).mono fun e t ht => ?_
    · simp
    · simp
    · simp
    · obtain ⟨rfl, v', rfl, h3⟩ := ht
      generalize hg : shortF fl = g at h3
      simp [a25r10, Wp_seq hs, Wp_region hs, h3, frz, hf]

end Go.Ak

