/- What the functions of streams and fields compute that the law reaches; that the law answers true. -/
import Derived.Test.YtfcgnpphabplbaaGreatJe
import Derived.Test.YtfcgnpphabplbaaGreatJd
import Derived.Test.YtfcgnpphabplbaaGreatJg
set_option linter.unusedVariables false
set_option linter.unusedSimpArgs false

namespace Go.Ak

/-- The special functions of the laws. -/
structure Sp where
  sp : Nat → (Nat → CallF) → Nat → CallF
  mono : SpMono sp

abbrev u64 (n : Nat) : AV := .int .u64 n

/-- A row as a slice's value. -/
def rowOf : List AV → AV
  | [] => .nils
  | a :: l => .slc .ro (a :: l)

mutual
def Re.av : Re → AV
  | .mk k set mn mx l => .agg (.int .i64 k :: (set.map u64 ++ [.int .i64 mn, .int .i64 mx, rowOf (Re.avs l)]))
def Re.avs : List Re → List AV
  | [] => []
  | x :: l => x.av :: Re.avs l
end

def NS.cells (x : NS) : List AV := num x.op :: (x.set.map u64 ++ [num x.next, num x.two])

theorem Re.avs_map : ∀ (l : List Re), Re.avs l = l.map Re.av
  | [] => rfl
  | x :: l => by rw [Re.avs, Re.avs_map l]; rfl

/-- A row of states as cells. -/
def cellsOf (L : List NS) : List AV := L.flatMap NS.cells

/-- Sets are of four numbers. -/
def Wide (L : List NS) : Prop := ∀ x ∈ L, x.set.length = 4

theorem cellsOf_length {L : List NS} (h : Wide L) : (cellsOf L).length = L.length * 7 := by
  unfold cellsOf
  induction L with
  | nil => rfl
  | cons x L ih =>
    rw [List.flatMap_cons, List.length_append, ih (fun y hy => h y (by simp [hy]))]
    have := h x (by simp)
    simp [NS.cells, this]; omega

theorem cellsOf_snoc (L : List NS) (x : NS) : cellsOf (L ++ [x]) = cellsOf L ++ x.cells := by simp [cellsOf]

/-- A machine's states, in the heap. -/
def PRow (H : Heap) (p : Nat) (L : List NS) (lv : AV) : Prop := Wide L ∧ ((L = [] ∧ lv = .nils) ∨ ∃ r, lv = .msl 7 r 0 L.length ∧ p < r ∧ hget H r = some (some (cellsOf L)))

/-- A machine that is built, in the heap. -/
def PH (H : Heap) (p : Nat) (L : List NS) (first : Nat) : Prop := ∃ lv, hget H p = some (some [lv, num first]) ∧ PRow H p L lv

/-- All ahead of an object stays. -/
def Front (p : Nat) (H H' : Heap) : Prop := p < H'.length ∧ ∀ i, i < p → hget H' i = hget H i

theorem beqS_refl : ∀ (l : List UInt8), beqS l l = true
  | [] => rfl
  | a :: l => by simp [beqS, nbeq, beqS_refl l]

mutual
theorem beqA_refl : ∀ (a : AV), beqA a a = true
  | .undef => rfl
  | .bool b => by simp [beqA]
  | .int k n => by simp [beqA]
  | .str s => by simp [beqA, beqS_refl]
  | .nilp | .nils | .nilf | .nili => rfl
  | .ptr a b => by simp [beqA, nbeq]
  | .rptr a b => by simp [beqA, nbeq, beqL_refl a]
  | .slc p a => by simp [beqA, beqL_refl a]
  | .msl a b c d => by simp [beqA, nbeq]
  | .tptr a b c d => by simp [beqA, nbeq]
  | .bsl a b => by simp [beqA, nbeq]
  | .agg a => by simp [beqA, beqL_refl a]
  | .tup a => by simp [beqA, beqL_refl a]
  | .fn a b => by simp [beqA, nbeq, beqL_refl b]
  | .ifc a b => by simp [beqA, nbeq, beqA_refl b]
  | .box a => by simp [beqA, beqL_refl a]
  | .loc a b c => by simp [beqA, nbeq]
  | .eloc a b c d => by simp [beqA, nbeq]
  | .ref a b c d => by simp [beqA, nbeq]
theorem beqL_refl : ∀ (l : List AV), beqL l l = true
  | [] => rfl
  | a :: l => by simp [beqL, beqA_refl a, beqL_refl l]
end

theorem beqE_refl : ∀ (l : List (Nat × AV)), beqE l l = true
  | [] => rfl
  | (k, a) :: l => by simp [beqE, nbeq, beqA_refl a, beqE_refl l]

theorem beqH_refl : ∀ (l : Heap), beqH l l = true
  | [] => rfl
  | none :: l => by simp [beqH, beqH_refl l]
  | some a :: l => by simp [beqH, beqL_refl a, beqH_refl l]

theorem norm_self (E F : List (Nat × AV)) (a b : List (Nat × AV)) (c d : List Nat) (H K : Heap) (h : E = F) (h' : H = K) : sameR (.norm, ⟨E, a, c, H⟩) (.norm, ⟨F, b, d, K⟩) = true := by
  subst h h'; simp [sameR, beqE_refl, beqH_refl]

/-- Both ways through a region that draws its order end alike. -/
theorem evPlan_alt_eq {c : CallF} {bar i : Nat} {s : AStep} {p q : Plan} {σ : St} {E : List (Nat × AV)} {H : Heap} {a b : List (Nat × AV)} {m n : List Nat} (h1 : evPlan c bar (.seq i s p) σ = some (.norm, ⟨E, a, m, H⟩)) (h2 : evPlan c bar q σ = some (.norm, ⟨E, b, n, H⟩)) :
    evPlan c bar (.alt i s p q) σ = some (.norm, ⟨E, a, m, H⟩) := by
  rw [evPlan_alt, h1, h2]
  simp [sameR, beqE_refl, beqH_refl]

theorem evPlan_one (c : CallF) (bar i : Nat) (s : AStep) (p : Plan) (σ : St) : evPlan c bar (.one i s p) σ = evPlan c bar (.seq i s p) σ := rfl

end Go.Ak

namespace Go.Ak

theorem pure_any {fs : Nat → Option AFunc} {sp : Nat → (Nat → CallF) → Nat → CallF} (hs : SpMono sp) {f : Nat} {F : AFunc} (hf : fs f = some F) (hp : F.pure = true) {xs : List AV} (hc : cloL xs = true) {v : AV} {bar0 n : Nat} {H0 H1 : Heap} (h : run fs sp n bar0 f xs H0 = some (.ret v, H1)) (bar : Nat) (H : Heap) :
    Rn fs sp bar f xs H = some (.ret v, H) := by
  have h1 := (Rn_iff hs).2 ⟨n, h⟩
  rw [Rn_eq hs hf, hp, hc] at h1 ⊢
  simp only [cond_true] at h1 ⊢
  cases hx : runI fs sp 0 F xs [] with
  | none => rw [hx] at h1; cases h1
  | some q =>
    obtain ⟨o, K⟩ := q
    rw [hx] at h1
    cases o with
    | ret u =>
      simp only [pureR] at h1 ⊢
      split at h1
      · rename_i w hw
        simp only [Option.some.injEq, Prod.mk.injEq, Out.ret.injEq] at h1
        rw [h1.1]
      · cases h1
    | pan u =>
      simp only [pureR] at h1
      split at h1
      · cases h1
      · cases h1

/-- No special function. -/
def S0 : Sp := ⟨fun _ _ _ => fun _ _ _ => none, fun _ _ _ _ _ _ _ f xs H r h => by cases h⟩

end Go.Ak

namespace Go.Ak

def SA : Sp := ⟨spA, fun n m c d bar _ _ f xs H r h => h⟩

section
variable {bar : Nat} {xs : List AV} {H : Heap}
theorem Rn_check : Rn fsT SA.sp bar 79 xs H = spCheck bar xs H := (Rn_sp SA.mono rfl bar xs H).trans (limit_const _)
theorem Rn_string : Rn fsT SA.sp bar 55 xs H = spString bar xs H := (Rn_sp SA.mono rfl bar xs H).trans (limit_const _)
theorem Rn_index : Rn fsT SA.sp bar 112 xs H = spIndex xs H := (Rn_sp SA.mono rfl bar xs H).trans (limit_const _)
end

theorem indexByte_at : ∀ (l : List UInt8) (c : UInt8), Lib.indexByte l c = -1 ∨ ∃ n : Nat, n < l.length ∧ Lib.indexByte l c = n
  | [], _ => .inl rfl
  | b :: l, c => by
    simp only [Lib.indexByte]
    by_cases h : b = c
    · exact .inr ⟨0, by simp, by simp [h]⟩
    · have hb : (b == c) = false := by simpa using h
      rcases indexByte_at l c with e | ⟨n, h1, h2⟩
      · exact .inl (by simp [hb, e])
      · refine .inr ⟨n + 1, by simpa using h1, ?_⟩
        rw [if_neg (by simp [hb]), h2, if_neg (by simp <;> omega)]
        rfl

end Go.Ak

namespace Go.Ak
attribute [local simp] evI_skip Wp_skip Wp_exit Wp_ret Wp_some Ws_some andThen_norm andThen_ret andThen_exit andThen_pan outOf_norm outOf_ret outOf_pan outOf_exit fin_norm fin_ret fin_pan thaw_ret thaw_pan
  evSteps stepE wanted evOp opd opdL live look_mkE upd_mkE look_cons ver_cons st_at put slotty esc escs arg1 args drop1 nbeq nble nblt binA binI rd wr cellsN sub AV.cells pack one setCells resOf resV resAll roOf evPlan sameR beqE_refl beqH_refl fillA fillS newRow newObj step hdOk_nil hdOk_cons contents take flat look lim natOf bound sliceA remake eqS eqL eqA ver
  frz_bool frz_int frz_str frz_nils frz_nilp
  List.getElem?_cons_zero List.getElem?_cons_succ hget_eq hget_new hget_cons_zero hget_cons_succ hget_nil
attribute [-simp] getElem?_pos

/-- A builder's two cells: where it lies ('me'); its bytes, in an object of its own. -/
def Bd (H : Heap) (own : Nat → Nat) (me : AV) (tag size : Nat) (b0 b1 : AV) : Prop := (b0 = .nilp ∨ b0 = me) ∧ (b1 = .nils ∨ ∃ r n cs, b1 = .bsl r n ∧ hget H r = some (some cs) ∧ n ≤ cs.length ∧ n ≤ size ∧ own r = tag)

/-- What a text written to a builder leaves. -/
def BWrote (H : Heap) (own : Nat → Nat) (q tag size n : Nat) (me : AV) (mk : AV → List AV) (H' : Heap) : Prop :=
  ∃ own' b1, H.length ≤ H'.length ∧ (∀ i, i < H.length → own' i = own i) ∧ (∀ i, i < H.length → i ≠ q → own i ≠ tag → hget H' i = hget H i) ∧ hget H' q = some (some (mk b1)) ∧ Bd H' own' me tag (size + n) me b1

theorem BWrote.new {H : Heap} {own : Nat → Nat} {q tag size n k : Nat} {me : AV} {mk : AV → List AV} {H' : Heap} {cs : List AV} (hl : H'.length = H.length + 1) (hql : q < H.length) (h1 : ∀ i, i < H.length → i ≠ q → own i ≠ tag → hget H' i = hget H i)
    (h2 : hget H' q = some (some (mk (.bsl H.length k)))) (h3 : hget H' H.length = some (some cs)) (h4 : k ≤ cs.length) (h5 : k ≤ size + n) : BWrote H own q tag size n me mk H' :=
  ⟨fun i => if i = H.length then tag else own i, .bsl H.length k, by omega, fun i hi => if_neg (by omega), h1, h2, .inr rfl, .inr ⟨H.length, k, cs, rfl, h3, h4, h5, if_pos rfl⟩⟩

/-- .. of a sink. -/
theorem sinkWrite {H : Heap} {own : Nat → Nat} {q tag size : Nat} {b0 b1 c2 : AV} {t : List UInt8} (hq : hget H q = some (some [b0, b1, c2])) (hb : Bd H own (.tptr 3 3 q 0) tag size b0 b1) (hown : own q ≠ tag) (ht : t.length ≤ 1000000) (hsz : size ≤ 1000000) :
    Wc (Rn fsT SA.sp 0 51 [.tptr 3 3 q 0, .str t] H) (fun o H' => o = .ret (.tup [num t.length, .nili]) ∧ BWrote H own q tag size t.length (.tptr 3 3 q 0) (fun x => [.tptr 3 3 q 0, x, c2]) H') := by
  have hs := SA.mono
  have hql := hget_lt hq
  refine Wc_heap hs fsT_51 rfl rfl ?_
  rw [env51]
  obtain ⟨hb0, hb1⟩ := hb
  rcases hb1 with rfl | ⟨r, n, cs, rfl, hr, hn1, hn2, hr0⟩
  · cases t with
    | nil =>
      rcases hb0 with rfl | rfl
      all_goals
        simp [a51, a51r0, a51r1, a51r2, a51r3, Wp_seq hs, Wp_region hs, Rn_check, spCheck, okB, hq, hget_set_self, hql, bytesOf]
        refine ⟨own, .nils, by simp, fun _ _ => rfl, fun i hi hne _ => hget_set_ne _ (Ne.symm hne), hget_set_self _ hql, .inr rfl, .inl rfl⟩
    | cons c t =>
      have htl : t.length + 1 ≤ 4294967296 := by simp only [List.length_cons] at ht; omega
      have hfl : List.flatMap AV.cells (List.map (fun b : UInt8 => AV.int .u8 b.toNat) t) = bytesOf t := flat_bytes t
      rcases hb0 with rfl | rfl
      all_goals
        simp [a51, a51r0, a51r1, a51r2, a51r3, Wp_seq hs, Wp_region hs, Rn_check, spCheck, okB, hq, hget_set_self, hql, bytesOf, htl, hfl, hget_app]
        refine BWrote.new (k := t.length + 1) (cs := bytesOf (c :: t)) (by simp) hql (fun i hi hne ho => ?_) ?_ ?_ (by simp [bytesOf]) (by simp <;> omega)
        · rw [hget_app _ (by simpa using hi), hget_set_ne _ (Ne.symm hne)]
        · rw [hget_app _ (by simpa using hql), hget_set_self _ hql]
        · exact hget_new' _ _ _ (by simp)
  · have hrl := hget_lt hr
    have hqr : q ≠ r := fun e => hown (by rw [e]; exact hr0)
    have hrq : r ≠ q := Ne.symm hqr
    have hlim : n + t.length ≤ 4294967296 := by omega
    have hfl : List.flatMap AV.cells (List.map (fun b : UInt8 => AV.int .u8 b.toNat) t) = bytesOf t := flat_bytes t
    rcases hb0 with rfl | rfl
    all_goals
      simp [a51, a51r0, a51r1, a51r2, a51r3, Wp_seq hs, Wp_region hs, Rn_check, spCheck, okB, hq, hr, hn1, hget_set_self, hget_set_ne, hql, hqr, hrq, bytesOf, hlim, hfl, hget_app]
      refine BWrote.new (k := n + t.length) (cs := cs.take n ++ bytesOf t) (by simp) hql (fun i hi hne ho => ?_) ?_ ?_ (by simp [bytesOf]; omega) (by omega)
      · have hir : i ≠ r := fun e => ho (by rw [e]; exact hr0)
        rw [hget_app _ (by simpa using hi)]
        simp [hget_set_ne, Ne.symm hne, Ne.symm hir]
      · rw [hget_app _ (by simpa using hql)]
        first | (rw [hget_set_self _ (by simpa using hql)]; done) | (rw [hget_set_ne _ hrq, hget_set_self _ (by simpa using hql)]; done)
      · exact hget_new' _ _ _ (by simp)

/-- .. of what is printed. -/
theorem outWrite {H : Heap} {own : Nat → Nat} {q tag size : Nat} {b0 b1 c0 c1 c4 c5 c6 : AV} {t : List UInt8} (hq : hget H q = some (some [c0, c1, b0, b1, c4, c5, c6])) (hb : Bd H own (.tptr 2 7 q 2) tag size b0 b1) (hown : own q ≠ tag) (ht : t.length ≤ 1000000) (hsz : size ≤ 1000000) :
    Wc (Rn fsT SA.sp 0 51 [.tptr 2 7 q 2, .str t] H) (fun o H' => o = .ret (.tup [num t.length, .nili]) ∧ BWrote H own q tag size t.length (.tptr 2 7 q 2) (fun x => [c0, c1, .tptr 2 7 q 2, x, c4, c5, c6]) H') := by
  have hs := SA.mono
  have hql := hget_lt hq
  refine Wc_heap hs fsT_51 rfl rfl ?_
  rw [env51]
  obtain ⟨hb0, hb1⟩ := hb
  rcases hb1 with rfl | ⟨r, n, cs, rfl, hr, hn1, hn2, hr0⟩
  · cases t with
    | nil =>
      rcases hb0 with rfl | rfl
      all_goals
        simp [a51, a51r0, a51r1, a51r2, a51r3, Wp_seq hs, Wp_region hs, Rn_check, spCheck, okB, hq, hget_set_self, hql, bytesOf]
        refine ⟨own, .nils, by simp, fun _ _ => rfl, fun i hi hne _ => hget_set_ne _ (Ne.symm hne), hget_set_self _ hql, .inr rfl, .inl rfl⟩
    | cons c t =>
      have htl : t.length + 1 ≤ 4294967296 := by simp only [List.length_cons] at ht; omega
      have hfl : List.flatMap AV.cells (List.map (fun b : UInt8 => AV.int .u8 b.toNat) t) = bytesOf t := flat_bytes t
      rcases hb0 with rfl | rfl
      all_goals
        simp [a51, a51r0, a51r1, a51r2, a51r3, Wp_seq hs, Wp_region hs, Rn_check, spCheck, okB, hq, hget_set_self, hql, bytesOf, htl, hfl, hget_app]
        refine BWrote.new (k := t.length + 1) (cs := bytesOf (c :: t)) (by simp) hql (fun i hi hne ho => ?_) ?_ ?_ (by simp [bytesOf]) (by simp <;> omega)
        · rw [hget_app _ (by simpa using hi), hget_set_ne _ (Ne.symm hne)]
        · rw [hget_app _ (by simpa using hql), hget_set_self _ hql]
        · exact hget_new' _ _ _ (by simp)
  · have hrl := hget_lt hr
    have hqr : q ≠ r := fun e => hown (by rw [e]; exact hr0)
    have hrq : r ≠ q := Ne.symm hqr
    have hlim : n + t.length ≤ 4294967296 := by omega
    have hfl : List.flatMap AV.cells (List.map (fun b : UInt8 => AV.int .u8 b.toNat) t) = bytesOf t := flat_bytes t
    rcases hb0 with rfl | rfl
    all_goals
      simp [a51, a51r0, a51r1, a51r2, a51r3, Wp_seq hs, Wp_region hs, Rn_check, spCheck, okB, hq, hr, hn1, hget_set_self, hget_set_ne, hql, hqr, hrq, bytesOf, hlim, hfl, hget_app]
      refine BWrote.new (k := n + t.length) (cs := cs.take n ++ bytesOf t) (by simp) hql (fun i hi hne ho => ?_) ?_ ?_ (by simp [bytesOf]; omega) (by omega)
      · have hir : i ≠ r := fun e => ho (by rw [e]; exact hr0)
        rw [hget_app _ (by simpa using hi)]
        simp [hget_set_ne, Ne.symm hne, Ne.symm hir]
      · rw [hget_app _ (by simpa using hql)]
        first | (rw [hget_set_self _ (by simpa using hql)]; done) | (rw [hget_set_ne _ hrq, hget_set_self _ (by simpa using hql)]; done)
      · exact hget_new' _ _ _ (by simp)

end Go.Ak

namespace Go.Ak
attribute [local simp] evI_skip Wp_skip Wp_exit Wp_ret Wp_some Ws_some andThen_norm andThen_ret andThen_exit andThen_pan outOf_norm outOf_ret outOf_pan outOf_exit fin_norm fin_ret fin_pan thaw_ret thaw_pan
  evSteps stepE wanted evOp opd opdL live look_mkE upd_mkE look_cons ver_cons st_at put slotty esc escs arg1 args drop1 nbeq nble nblt binA binI rd wr cellsN sub AV.cells pack one setCells resOf resV resAll roOf evPlan sameR beqE_refl beqH_refl fillA fillS newRow newObj step hdOk_nil hdOk_cons contents take flat look lim natOf bound sliceA remake eqS eqL eqA ver
  frz_bool frz_int frz_str frz_nils frz_nilp
  List.getElem?_cons_zero List.getElem?_cons_succ hget_eq hget_new hget_cons_zero hget_cons_succ hget_nil
attribute [-simp] getElem?_pos

theorem map_at {f : Nat → AV} {qs : List Nat} {i q : Nat} (h : qs[i]? = some q) : i + 1 ≤ (qs.map f).length ∧ ((qs.map f).drop i).take 1 = [f q] := by
  have hl := (List.getElem?_eq_some_iff.1 h).1
  have hv := (List.getElem?_eq_some_iff.1 h).2
  refine ⟨by simp; omega, ?_⟩
  rw [List.drop_eq_getElem_cons (by simpa using hl)]
  simp [hv]

theorem binS_eql (a b : List UInt8) : binS .eql a b = some (.bool (beqS a b)) := rfl

/-- The first place of a name. -/
def ixN (name : List UInt8) : List (List UInt8) → Nat → Int
  | [], _ => -1
  | m :: r, i => if beqS m name = true then i else ixN name r (i + 1)

theorem ixN_at (name : List UInt8) : ∀ (l : List (List UInt8)) (i : Nat), ixN name l i = -1 ∨ ∃ k : Nat, k < l.length ∧ ixN name l i = ((i + k : Nat) : Int)
  | [], _ => .inl rfl
  | m :: r, i => by
    simp only [ixN]
    split
    · exact .inr ⟨0, by simp, by simp⟩
    · rcases ixN_at name r (i + 1) with h | ⟨k, h1, h2⟩
      · exact .inl h
      · exact .inr ⟨k + 1, by simpa using h1, by rw [h2]; congr 1; omega⟩

theorem room_ok {H : Heap} {p size n : Nat} {c0 c1 c2 c3 c4 c5 : AV} (h : hget H p = some (some [c0, c1, c2, c3, c4, c5, num size])) (hz : size ≤ 65536) (hn : n ≤ 65536 - size) :
    Rn fsT SA.sp 0 50 [.tptr 2 7 p 0, num n] H = some (.ret (num 0), H.set p (some [c0, c1, c2, c3, c4, c5, num (size + n)])) := by
  have hs := SA.mono
  have hl := hget_lt h
  have e1 : IntKind.i64.wrap (65536 - (size : Int)) = 65536 - (size : Int) := i64_id _ (by omega)
  have e2 : ¬ (65536 - (size : Int)) < (n : Int) := by omega
  have e3 : IntKind.i64.wrap ((size : Int) + (n : Int)) = (size : Int) + n := i64_id _ (by omega)
  refine Wc_eq.1 (Wc_heap hs fsT_50 rfl rfl ?_)
  rw [env50]
  simp [a50, a50r0, a50r1, a50r2, a50r3, a50r4, Wp_seq hs, Wp_region hs, Wp_cond hs, h, e1, e2, e3]
  rfl

theorem room_no {H : Heap} {p size n : Nat} {c0 c1 c2 c3 c4 c5 : AV} (h : hget H p = some (some [c0, c1, c2, c3, c4, c5, num size])) (hz : size ≤ 65536) (hn : ¬ n ≤ 65536 - size) :
    Rn fsT SA.sp 0 50 [.tptr 2 7 p 0, num n] H = some (.ret (num 8), H) := by
  have hs := SA.mono
  have hl := hget_lt h
  have e1 : IntKind.i64.wrap (65536 - (size : Int)) = 65536 - (size : Int) := i64_id _ (by omega)
  have e2 : (65536 - (size : Int)) < (n : Int) := by omega
  refine Wc_eq.1 (Wc_heap hs fsT_50 rfl rfl ?_)
  rw [env50]
  simp [a50, a50r0, a50r1, a50r2, a50r3, a50r4, Wp_seq hs, Wp_region hs, Wp_cond hs, h, e1, e2]

theorem c52_run {bar : Nat} {H : Heap} {q nid : Nat} {x y : AV} {nm name : List UInt8} (hq : hget H q = some (some [x, y, .str nm])) (hn : hget H nid = some (some [.str name])) :
    Rn fsT SA.sp bar 52 [.tptr 3 3 q 0, .ptr nid 0] H = some (.ret (.bool (beqS nm name)), H) := by
  have hs := SA.mono
  refine pureH_eq hs fsT_52 rfl rfl rfl ?_
  rw [env52]
  simp [a52, a52r0, a52p1, Wp_seq hs, Wp_region hs, Wp_draw hs, hq, hn, binS_eql]

theorem c77_run {bar : Nat} {H : Heap} {q nid : Nat} {x y : AV} {nm name : List UInt8} (hq : hget H q = some (some [.str nm, x, y])) (hn : hget H nid = some (some [.str name])) :
    Rn fsT SA.sp bar 77 [.ptr q 0, .ptr nid 0] H = some (.ret (.bool (beqS nm name)), H) := by
  have hs := SA.mono
  refine pureH_eq hs fsT_77 rfl rfl rfl ?_
  rw [env77]
  simp [a77, a77r0, a77p1, Wp_seq hs, Wp_region hs, Wp_draw hs, hq, hn, binS_eql]

/-- Sinks, in the heap. -/
def Row53 (H : Heap) (sk : AV) (qs : List Nat) (nms : List (List UInt8)) : Prop := nms.length = qs.length ∧ qs.length ≤ 1000 ∧ ((qs = [] ∧ sk = .nils) ∨ ∃ r, sk = .msl 1 r 0 qs.length ∧ hget H r = some (some (qs.map fun q => .tptr 3 3 q 0))) ∧
  ∀ (i q : Nat) (nm : List UInt8), qs[i]? = some q → nms[i]? = some nm → ∃ x y, hget H q = some (some [x, y, .str nm])

theorem ix53_loop {bar : Nat} {H : Heap} {nid r : Nat} {name : List UInt8} {qs : List Nat} {nms : List (List UInt8)} (h1 : nms.length = qs.length) (h2 : qs.length ≤ 1000) (hr : hget H r = some (some (qs.map fun q => .tptr 3 3 q 0)))
    (hq : ∀ (i q : Nat) (nm : List UInt8), qs[i]? = some q → nms[i]? = some nm → ∃ x y, hget H q = some (some [x, y, .str nm])) (hn : hget H nid = some (some [.str name])) :
    ∀ (n i : Nat) (v : Nat → AV), i + n = qs.length → v 0 = .msl 1 r 0 qs.length → v 1 = .fn 52 [.ptr nid 0] → v 7 = num qs.length → v 8 = num i →
      Wp (evI fsT SA.sp bar (.loop a53l7) (mkE 66483 v, H)) (fun e t => ∃ v', t = (mkE 66483 v', H) ∧ ((e = .exit 0 ∧ ixN name (nms.drop i) i = -1) ∨ (e = .ret ∧ v' 4 = .int .i64 (ixN name (nms.drop i) i)))) := by
  have hs := SA.mono
  intro n
  induction n with
  | zero =>
    intro i v hi v0 v1 v7 v8
    have hi' : i = qs.length := by omega
    have : nms.drop i = [] := List.drop_eq_nil_of_le (by omega)
    rw [Wp_round hs a53l7.eq_1, this]
    simp [Wp_seq hs, Wp_region hs, Wp_block hs, Wp_cond hs, a53, a53r0, a53r1, a53r2, a53r3, a53r4, a53r5, a53r6, a53r8, v7, v8, hi']
    exact ⟨⟨_, rfl⟩, rfl⟩
  | succ n ih =>
    intro i v hi v0 v1 v7 v8
    have hlt : i < qs.length := by omega
    have hlt' : i < nms.length := by omega
    have e1 : qs[i]? = some qs[i] := List.getElem?_eq_getElem hlt
    have e2 : nms[i]? = some nms[i] := List.getElem?_eq_getElem hlt'
    obtain ⟨x, y, e3⟩ := hq i _ _ e1 e2
    obtain ⟨m1, m2⟩ := map_at (f := fun q => .tptr 3 3 q 0) e1
    have hc := c52_run (bar := bar) e3 hn
    have hdr : nms.drop i = nms[i] :: nms.drop (i + 1) := List.drop_eq_getElem_cons hlt'
    have hw : IntKind.i64.wrap ((i : Int) + 1) = ((i + 1 : Nat) : Int) := by rw [i64_id _ (by omega)]; omega
    have hlI : (i : Int) < (qs.length : Int) := by omega
    rw [Wp_round hs a53l7.eq_1, hdr]
    simp only [List.length_map] at m1
    cases hb : beqS nms[i] name with
    | true =>
      rw [hb] at hc
      simp only [ixN, hb, if_true]
      simp [Wp_seq hs, Wp_region hs, Wp_block hs, Wp_cond hs, a53, a53r0, a53r1, a53r2, a53r3, a53r4, a53r5, a53r6, a53r8, v0, v1, v7, v8, hlt, hlI, hr, m1, m2, hc]
      exact ⟨_, rfl, by simp⟩
    | false =>
      rw [hb] at hc
      simp only [ixN, hb, Bool.false_eq_true, if_false]
      simp [Wp_seq hs, Wp_region hs, Wp_block hs, Wp_cond hs, a53, a53r0, a53r1, a53r2, a53r3, a53r4, a53r5, a53r6, a53r8, v0, v1, v7, v8, hlt, hlI, hr, m1, m2, hc]
      exact (ih (i + 1) _ (by omega) (by simp [v0]) (by simp [v1]) (by simp [v7]) (by simp [v8, hw])).mono fun e t h => h

theorem ix53_run {bar : Nat} {H : Heap} {sk : AV} {nid : Nat} {name : List UInt8} {qs : List Nat} {nms : List (List UInt8)} (h : Row53 H sk qs nms) (hn : hget H nid = some (some [.str name])) :
    Rn fsT SA.sp bar 53 [sk, .fn 52 [.ptr nid 0]] H = some (.ret (.int .i64 (ixN name nms 0)), H) := by
  have hs := SA.mono
  obtain ⟨h1, h2, h3, h4⟩ := h
  refine Wc_eq.1 (Wc_heap hs fsT_53 rfl rfl ?_)
  rw [env53]
  rcases h3 with ⟨rfl, rfl⟩ | ⟨r, rfl, hr⟩
  · have : nms = [] := List.eq_nil_of_length_eq_zero (by simpa using h1)
    subst this
    simp [a53, a53r0, a53r1, Wp_seq hs, Wp_region hs, Wp_block hs]
    rw [Wp_round hs a53l7.eq_1]
    simp [Wp_seq hs, Wp_region hs, Wp_block hs, Wp_cond hs, a53, a53r0, a53r1, a53r2, a53r3, a53r4, a53r5, a53r6, a53r8, ixN]
  · simp [a53, a53r0, a53r1, Wp_seq hs, Wp_region hs, Wp_block hs]
    refine (ix53_loop h1 h2 hr h4 hn qs.length 0 _ (by omega) (by simp) (by simp) (by simp) (by simp)).mono fun e t ht => ?_
    obtain ⟨v', rfl, ht⟩ := ht
    rw [List.drop_zero] at ht
    rcases ht with ⟨rfl, hx⟩ | ⟨rfl, hx⟩
    · simp [a53r8, Wp_seq hs, Wp_region hs, hx]
    · simp [hx]

/-- Sources, in the heap. -/
def Row78 (H : Heap) (sk : AV) (qs : List Nat) (nms : List (List UInt8)) : Prop := nms.length = qs.length ∧ qs.length ≤ 1000 ∧ ((qs = [] ∧ sk = .nils) ∨ ∃ r, sk = .msl 1 r 0 qs.length ∧ hget H r = some (some (qs.map fun q => .ptr q 0))) ∧
  ∀ (i q : Nat) (nm : List UInt8), qs[i]? = some q → nms[i]? = some nm → ∃ x y, hget H q = some (some [.str nm, x, y])

theorem ix78_loop {bar : Nat} {H : Heap} {nid r : Nat} {name : List UInt8} {qs : List Nat} {nms : List (List UInt8)} (h1 : nms.length = qs.length) (h2 : qs.length ≤ 1000) (hr : hget H r = some (some (qs.map fun q => .ptr q 0)))
    (hq : ∀ (i q : Nat) (nm : List UInt8), qs[i]? = some q → nms[i]? = some nm → ∃ x y, hget H q = some (some [.str nm, x, y])) (hn : hget H nid = some (some [.str name])) :
    ∀ (n i : Nat) (v : Nat → AV), i + n = qs.length → v 0 = .msl 1 r 0 qs.length → v 1 = .fn 77 [.ptr nid 0] → v 7 = num qs.length → v 8 = num i →
      Wp (evI fsT SA.sp bar (.loop a78l7) (mkE 66483 v, H)) (fun e t => ∃ v', t = (mkE 66483 v', H) ∧ ((e = .exit 0 ∧ ixN name (nms.drop i) i = -1) ∨ (e = .ret ∧ v' 4 = .int .i64 (ixN name (nms.drop i) i)))) := by
  have hs := SA.mono
  intro n
  induction n with
  | zero =>
    intro i v hi v0 v1 v7 v8
    have hi' : i = qs.length := by omega
    have : nms.drop i = [] := List.drop_eq_nil_of_le (by omega)
    rw [Wp_round hs a78l7.eq_1, this]
    simp [Wp_seq hs, Wp_region hs, Wp_block hs, Wp_cond hs, a78, a78r0, a78r1, a78r2, a78r3, a78r4, a78r5, a78r6, a78r8, v7, v8, hi']
    exact ⟨⟨_, rfl⟩, rfl⟩
  | succ n ih =>
    intro i v hi v0 v1 v7 v8
    have hlt : i < qs.length := by omega
    have hlt' : i < nms.length := by omega
    have e1 : qs[i]? = some qs[i] := List.getElem?_eq_getElem hlt
    have e2 : nms[i]? = some nms[i] := List.getElem?_eq_getElem hlt'
    obtain ⟨x, y, e3⟩ := hq i _ _ e1 e2
    obtain ⟨m1, m2⟩ := map_at (f := fun q => .ptr q 0) e1
    have hc := c77_run (bar := bar) e3 hn
    have hdr : nms.drop i = nms[i] :: nms.drop (i + 1) := List.drop_eq_getElem_cons hlt'
    have hw : IntKind.i64.wrap ((i : Int) + 1) = ((i + 1 : Nat) : Int) := by rw [i64_id _ (by omega)]; omega
    have hlI : (i : Int) < (qs.length : Int) := by omega
    rw [Wp_round hs a78l7.eq_1, hdr]
    simp only [List.length_map] at m1
    cases hb : beqS nms[i] name with
    | true =>
      rw [hb] at hc
      simp only [ixN, hb, if_true]
      simp [Wp_seq hs, Wp_region hs, Wp_block hs, Wp_cond hs, a78, a78r0, a78r1, a78r2, a78r3, a78r4, a78r5, a78r6, a78r8, v0, v1, v7, v8, hlt, hlI, hr, m1, m2, hc]
      exact ⟨_, rfl, by simp⟩
    | false =>
      rw [hb] at hc
      simp only [ixN, hb, Bool.false_eq_true, if_false]
      simp [Wp_seq hs, Wp_region hs, Wp_block hs, Wp_cond hs, a78, a78r0, a78r1, a78r2, a78r3, a78r4, a78r5, a78r6, a78r8, v0, v1, v7, v8, hlt, hlI, hr, m1, m2, hc]
      exact (ih (i + 1) _ (by omega) (by simp [v0]) (by simp [v1]) (by simp [v7]) (by simp [v8, hw])).mono fun e t h => h

theorem ix78_run {bar : Nat} {H : Heap} {sk : AV} {nid : Nat} {name : List UInt8} {qs : List Nat} {nms : List (List UInt8)} (h : Row78 H sk qs nms) (hn : hget H nid = some (some [.str name])) :
    Rn fsT SA.sp bar 78 [sk, .fn 77 [.ptr nid 0]] H = some (.ret (.int .i64 (ixN name nms 0)), H) := by
  have hs := SA.mono
  obtain ⟨h1, h2, h3, h4⟩ := h
  refine Wc_eq.1 (Wc_heap hs fsT_78 rfl rfl ?_)
  rw [env78]
  rcases h3 with ⟨rfl, rfl⟩ | ⟨r, rfl, hr⟩
  · have : nms = [] := List.eq_nil_of_length_eq_zero (by simpa using h1)
    subst this
    simp [a78, a78r0, a78r1, Wp_seq hs, Wp_region hs, Wp_block hs]
    rw [Wp_round hs a78l7.eq_1]
    simp [Wp_seq hs, Wp_region hs, Wp_block hs, Wp_cond hs, a78, a78r0, a78r1, a78r2, a78r3, a78r4, a78r5, a78r6, a78r8, ixN]
  · simp [a78, a78r0, a78r1, Wp_seq hs, Wp_region hs, Wp_block hs]
    refine (ix78_loop h1 h2 hr h4 hn qs.length 0 _ (by omega) (by simp) (by simp) (by simp) (by simp)).mono fun e t ht => ?_
    obtain ⟨v', rfl, ht⟩ := ht
    rw [List.drop_zero] at ht
    rcases ht with ⟨rfl, hx⟩ | ⟨rfl, hx⟩
    · simp [a78r8, Wp_seq hs, Wp_region hs, hx]
    · simp [hx]

end Go.Ak

namespace Go.Ak
attribute [local simp] evI_skip Wp_skip Wp_exit Wp_ret Wp_some Ws_some andThen_norm andThen_ret andThen_exit andThen_pan outOf_norm outOf_ret outOf_pan outOf_exit fin_norm fin_ret fin_pan thaw_ret thaw_pan
  evSteps stepE wanted evOp opd opdL live look_mkE upd_mkE look_cons ver_cons st_at put slotty esc escs arg1 args drop1 nbeq nble nblt binA binI rd wr cellsN sub AV.cells pack one setCells resOf resV resAll roOf evPlan sameR beqE_refl beqH_refl fillA fillS newRow newObj step hdOk_nil hdOk_cons contents take flat look lim natOf bound sliceA remake eqS eqL eqA ver
  frz_bool frz_int frz_str frz_nils frz_nilp
  List.getElem?_cons_zero List.getElem?_cons_succ hget_eq hget_new hget_cons_zero hget_cons_succ hget_nil
attribute [-simp] getElem?_pos

theorem binS_neq (a b : List UInt8) : binS .neq a b = some (.bool (!beqS a b)) := rfl

theorem cut_none {bar : Nat} {H : Heap} {s : List UInt8} {c : UInt8} (h : Lib.indexByte s c = -1) : Rn fsT SA.sp bar 95 [.str s, .str [c]] H = some (.ret (.tup [.str s, .str [], .bool false]), H) := by
  have hs := SA.mono
  have h1 : ∀ (bar : Nat) (H : Heap), Rn fsT SA.sp bar 104 [.str s, .str [c]] H = some (.ret (.tup [.str s, .str [], .bool false]), H) := fun bar H => by
    refine pure_eq hs fsT_104 rfl rfl rfl ?_
    rw [env104]
    simp [a104, a104r0, a104r1, a104r2, a104p3, a104r4, Wp_seq hs, Wp_region hs, Wp_cond hs, Rn_index, spIndex, h, frz, frzL]
  refine pure_eq hs fsT_95 rfl rfl rfl ?_
  rw [env95]
  simp [a95, a95r0, a95r1, Wp_seq hs, Wp_region hs, h1, frz, frzL]

theorem cut_some {bar : Nat} {H : Heap} {s : List UInt8} {c : UInt8} {n : Nat} (h : Lib.indexByte s c = n) (hn : n < s.length) (hl : s.length ≤ 1000000) : Rn fsT SA.sp bar 95 [.str s, .str [c]] H = some (.ret (.tup [.str (s.take n), .str (s.drop (n + 1)), .bool true]), H) := by
  have hs := SA.mono
  have h1 : ∀ (bar : Nat) (H : Heap), Rn fsT SA.sp bar 104 [.str s, .str [c]] H = some (.ret (.tup [.str (s.take n), .str (s.drop (n + 1)), .bool true]), H) := fun bar H => by
    have hw : IntKind.i64.wrap ((n : Int) + 1) = (n : Int) + 1 := i64_id _ (by omega)
    have h0 : (0 : Int) ≤ (n : Int) + 1 := by omega
    have e1 : List.take (s.length - (n + 1)) (s.drop (n + 1)) = s.drop (n + 1) := List.take_of_length_le (by simp)
    have hn1 : n + 1 ≤ s.length := hn
    have hn2 : n ≤ s.length := by omega
    have ht : ((n : Int) + 1).toNat = n + 1 := by omega
    refine pure_eq hs fsT_104 rfl rfl rfl ?_
    rw [env104]
    simp [a104, a104r0, a104r1, a104r2, a104p3, a104r4, Wp_seq hs, Wp_region hs, Wp_draw hs, Wp_cond hs, Rn_index, spIndex, h, frz, frzL, hw, h0, hn1, hn2, ht, e1]
  refine pure_eq hs fsT_95 rfl rfl rfl ?_
  rw [env95]
  simp [a95, a95r0, a95r1, Wp_seq hs, Wp_region hs, h1, frz, frzL]

/-- The next record of those that a byte ends: it, where it ends, whether there is one. -/
def nx (s : List UInt8) (c : UInt8) (at' : Nat) : List UInt8 × Nat × Bool :=
  if s.length ≤ at' then ([], 0, false) else
    if Lib.indexByte (s.drop at') c = -1 then (s.drop at', s.length, true) else ((s.drop at').take (Lib.indexByte (s.drop at') c).toNat, at' + (Lib.indexByte (s.drop at') c).toNat + 1, true)

theorem nx_le (s : List UInt8) (c : UInt8) (at' : Nat) : (nx s c at').2.1 ≤ s.length + 1 := by
  unfold nx
  split
  · simp
  · split
    · simp
    · rcases indexByte_at (s.drop at') c with e | ⟨n, h1, h2⟩
      · rename_i h; exact absurd e h
      · simp only [h2, Int.toNat_natCast]
        simp only [List.length_drop] at h1
        omega

theorem next_run {bar : Nat} {H : Heap} {s : List UInt8} {c : UInt8} {at' : Nat} (hl : s.length ≤ 1000000) (hc : c ≠ 92) :
    Rn fsT SA.sp bar 80 [.str s, num at', .str [c]] H = some (.ret (.tup [.str (nx s c at').1, num (nx s c at').2.1, .bool (nx s c at').2.2, num 0]), H) := by
  have hs := SA.mono
  have hc92 : beqS [c] [92] = false := by
    simp only [beqS, nbeq, Bool.and_true, decide_eq_false_iff_not]
    intro e; exact hc (UInt8.toNat_inj.1 (by simpa using e))
  have hce : beqS [c] [] = false := rfl
  have hneg : ¬ ((at' : Int) < 0) := by omega
  refine pure_eq hs fsT_80 rfl rfl rfl ?_
  rw [env80]
  by_cases h1 : s.length ≤ at'
  · have h1' : (s.length : Int) ≤ (at' : Int) := by omega
    simp [a80, a80r0, a80r1, a80r2, a80r3, a80r4, a80r5, a80r6, a80r7, a80r8, a80r9, a80r10, a80r11, a80r12, a80r13, a80r14, a80r15, a80r16, a80r17, a80p18, Wp_seq hs, Wp_region hs, Wp_cond hs, Wp_block hs, hneg, h1', h1, nx, frz, frzL]
  · have h1' : ¬ (s.length : Int) ≤ (at' : Int) := by omega
    have h2 : at' ≤ s.length := by omega
    rcases indexByte_at (s.drop at') c with e | ⟨n, n1, n2⟩
    · have hcut := cut_none (bar := 0) (H := []) e
      have e1 : List.take (s.length - at') (s.drop at') = s.drop at' := List.take_of_length_le (by simp)
      have hw : IntKind.i64.wrap ((at' : Int) + ((s.length - at' : Nat) : Int)) = (s.length : Int) := by rw [i64_id _ (by omega)]; omega
      simp [a80, a80r0, a80r1, a80r2, a80r3, a80r4, a80r5, a80r6, a80r7, a80r8, a80r9, a80r10, a80r11, a80r12, a80r13, a80r14, a80r15, a80r16, a80r17, a80p18, Wp_seq hs, Wp_region hs, Wp_cond hs, Wp_block hs, hneg, h1', h1, h2, nx, frz, frzL, binS_eql, binS_neq, hc92, hce, e1, hcut, e, hw]
    · have hcut := cut_some (bar := 0) (H := []) n2 n1 (by simp; omega)
      simp only [List.length_drop] at n1
      have e1 : List.take (s.length - at') (s.drop at') = s.drop at' := List.take_of_length_le (by simp)
      have e2 : min n (s.length - at') = n := by omega
      have hw : IntKind.i64.wrap ((at' : Int) + (n : Int)) = (at' : Int) + (n : Int) := i64_id _ (by omega)
      have hw2 : IntKind.i64.wrap ((at' : Int) + (n : Int) + 1) = (at' : Int) + (n : Int) + 1 := i64_id _ (by omega)
      have hne : ¬ ((n : Int) = -1) := by omega
      simp [a80, a80r0, a80r1, a80r2, a80r3, a80r4, a80r5, a80r6, a80r7, a80r8, a80r9, a80r10, a80r11, a80r12, a80r13, a80r14, a80r15, a80r16, a80r17, a80p18, Wp_seq hs, Wp_region hs, Wp_cond hs, Wp_block hs, hneg, h1', h1, h2, nx, frz, frzL, binS_eql, binS_neq, hc92, hce, e1, hcut, n2, e2, hw, hw2, hne]

theorem Row78.app {H : Heap} {sk : AV} {qs : List Nat} {nms : List (List UInt8)} (h : Row78 H sk qs nms) (l : Heap) : Row78 (H ++ l) sk qs nms := by
  obtain ⟨h1, h2, h3, h4⟩ := h
  refine ⟨h1, h2, ?_, fun i q nm a b => ?_⟩
  · rcases h3 with h | ⟨r, a, b⟩
    · exact .inl h
    · exact .inr ⟨r, a, (hget_app _ (hget_lt b)).trans b⟩
  · obtain ⟨x, y, e⟩ := h4 i q nm a b
    exact ⟨x, y, (hget_app _ (hget_lt e)).trans e⟩

theorem file_none {H : Heap} {p : Nat} {c0 fs c2 c3 c4 c5 c6 : AV} {name : List UInt8} {qs : List Nat} {nms : List (List UInt8)} (hp : hget H p = some (some [c0, fs, c2, c3, c4, c5, c6])) (hr : Row78 H fs qs nms) (hx : ixN name nms 0 = -1) :
    Rn fsT SA.sp 0 49 [.tptr 2 7 p 0, .str name] H = some (.ret .nilp, H ++ [some [.str name]]) := by
  have hs := SA.mono
  have hpl := hget_lt hp
  have hi := ix78_run (bar := 0) (hr.app [some [.str name]]) (nid := H.length) (name := name) (hget_new _ _)
  rw [hx] at hi
  obtain ⟨_, _, h3, _⟩ := hr
  refine Wc_eq.1 (Wc_heap hs fsT_49 rfl rfl ?_)
  rw [env49]
  rcases h3 with ⟨rfl, rfl⟩ | ⟨r, rfl, hr⟩ <;> simp [a49, a49r0, a49r1, a49r2, a49r3, a49r4, Wp_seq hs, Wp_region hs, Wp_cond hs, hget_app, hpl, hp, hi]

theorem file_some {H : Heap} {p : Nat} {c0 fs c2 c3 c4 c5 c6 : AV} {name : List UInt8} {qs : List Nat} {nms : List (List UInt8)} {k q : Nat} (hp : hget H p = some (some [c0, fs, c2, c3, c4, c5, c6])) (hr : Row78 H fs qs nms) (hx : ixN name nms 0 = (k : Int)) (hk : qs[k]? = some q) :
    Rn fsT SA.sp 0 49 [.tptr 2 7 p 0, .str name] H = some (.ret (.ptr q 0), H ++ [some [.str name]]) := by
  have hs := SA.mono
  have hpl := hget_lt hp
  have hi := ix78_run (bar := 0) (hr.app [some [.str name]]) (nid := H.length) (name := name) (hget_new _ _)
  rw [hx] at hi
  obtain ⟨_, _, h3, _⟩ := hr
  rcases h3 with ⟨rfl, _⟩ | ⟨r, rfl, hr⟩
  · simp at hk
  · have hrl := hget_lt hr
    have hkl : k < qs.length := (List.getElem?_eq_some_iff.1 hk).1
    obtain ⟨m1, m2⟩ := map_at (f := fun q => .ptr q 0) hk
    simp only [List.length_map] at m1
    have hneg : ¬ ((k : Int) < 0) := by omega
    refine Wc_eq.1 (Wc_heap hs fsT_49 rfl rfl ?_)
    rw [env49]
    simp [a49, a49r0, a49r1, a49r2, a49r3, a49r4, Wp_seq hs, Wp_region hs, Wp_cond hs, hget_app, hpl, hp, hi, hneg, hkl, hrl, hr, m1, m2]

end Go.Ak

namespace Go.Ak
attribute [local simp] evI_skip Wp_skip Wp_exit Wp_ret Wp_some Ws_some andThen_norm andThen_ret andThen_exit andThen_pan outOf_norm outOf_ret outOf_pan outOf_exit fin_norm fin_ret fin_pan thaw_ret thaw_pan
  evSteps stepE wanted evOp opd opdL live look_mkE upd_mkE look_cons ver_cons st_at put slotty esc escs arg1 args drop1 nbeq nble nblt binA binI rd wr cellsN sub AV.cells pack one setCells resOf resV resAll roOf evPlan sameR beqE_refl beqH_refl fillA fillS newRow newObj step hdOk_nil hdOk_cons contents take flat look lim natOf bound sliceA remake eqS eqL eqA ver
  frz_bool frz_int frz_str frz_nils frz_nilp
  List.getElem?_cons_zero List.getElem?_cons_succ hget_eq hget_new hget_cons_zero hget_cons_succ hget_nil
attribute [-simp] getElem?_pos

theorem src_no {H : Heap} {q : Nat} {nm s : List UInt8} {c : UInt8} {at' : Nat} (hq : hget H q = some (some [.str nm, .str s, num at'])) (hl : s.length ≤ 1000000) (hc : c ≠ 92) (hn : s.length ≤ at') :
    Rn fsT SA.sp 0 54 [.ptr q 0, .str [c]] H = some (.ret (.tup [.str [], .bool false, num 0]), H) := by
  have hs := SA.mono
  have h := next_run (bar := 0) (H := H) (s := s) (c := c) (at' := at') hl hc
  have hz : nx s c at' = ([], 0, false) := by simp [nx, hn]
  rw [hz] at h
  refine Wc_eq.1 (Wc_heap hs fsT_54 rfl rfl ?_)
  rw [env54]
  simp at h
  simp [a54, a54r0, a54p1, a54r2, a54r3, a54r4, Wp_seq hs, Wp_region hs, Wp_draw hs, Wp_cond hs, hq, h]

theorem src_yes {H : Heap} {q : Nat} {nm s : List UInt8} {c : UInt8} {at' : Nat} (hq : hget H q = some (some [.str nm, .str s, num at'])) (hl : s.length ≤ 1000000) (hc : c ≠ 92) (hn : ¬ s.length ≤ at') :
    Rn fsT SA.sp 0 54 [.ptr q 0, .str [c]] H = some (.ret (.tup [.str (nx s c at').1, .bool true, num 0]), H.set q (some [.str nm, .str s, num (nx s c at').2.1])) := by
  have hs := SA.mono
  have h := next_run (bar := 0) (H := H) (s := s) (c := c) (at' := at') hl hc
  have hz : (nx s c at').2.2 = true := by
    unfold nx
    rw [if_neg hn]
    split <;> rfl
  rw [hz] at h
  refine Wc_eq.1 (Wc_heap hs fsT_54 rfl rfl ?_)
  rw [env54]
  generalize nx s c at' = z at h
  simp [a54, a54r0, a54p1, a54r2, a54r3, a54r4, Wp_seq hs, Wp_region hs, Wp_draw hs, Wp_cond hs, hq, h]

end Go.Ak

namespace Go.Ak
attribute [local simp] evI_skip Wp_skip Wp_exit Wp_ret Wp_some Ws_some andThen_norm andThen_ret andThen_exit andThen_pan outOf_norm outOf_ret outOf_pan outOf_exit fin_norm fin_ret fin_pan thaw_ret thaw_pan
  evSteps stepE wanted evOp opd opdL live look_mkE upd_mkE look_cons ver_cons st_at put slotty esc escs arg1 args drop1 nbeq nble nblt binA binI rd wr cellsN sub AV.cells pack one setCells resOf resV resAll roOf evPlan sameR beqE_refl beqH_refl fillA fillS newRow newObj step hdOk_nil hdOk_cons contents take flat look lim natOf bound sliceA remake eqS eqL eqA ver
  frz_bool frz_int frz_str frz_nils frz_nilp
  List.getElem?_cons_zero List.getElem?_cons_succ hget_eq hget_new hget_cons_zero hget_cons_succ hget_nil
attribute [-simp] getElem?_pos

theorem lives17z (bar : Nat) (H : Heap) : Rn fsT SA.sp bar 33 [] H = some (.ret (.bool true), H) := pure_any SA.mono fsT_33 rfl rfl (bar0 := 0) (n := 400) (H0 := []) (H1 := []) (by kernel_rfl) bar H

theorem ref_loop {s : List UInt8} {c : UInt8} {at' : Nat} (hl : s.length ≤ 1000000) : ∀ (n i : Nat) (v : Nat → AV), i + n = s.length → at' ≤ i → v 0 = .str s → v 1 = num at' → v 2 = .str [c] → v 12 = num i →
    Wp (evI fsT SA.sp 0 (.loop a151l24) (mkE 1393966882245442077970300392704551965425607 v, [])) (fun e t => ∃ v', t = (mkE 1393966882245442077970300392704551965425607 v', []) ∧ ((e = .exit 6 ∧ Lib.indexByte (s.drop i) c = -1 ∧ v' 0 = .str s ∧ v' 1 = num at') ∨
      (e = .ret ∧ ∃ k : Nat, Lib.indexByte (s.drop i) c = k ∧ v' 6 = .str ((s.drop at').take (i + k - at')) ∧ v' 7 = num (i + k + 1) ∧ v' 8 = .bool true ∧ v' 9 = num 0))) := by
  have hs := SA.mono
  intro n
  induction n with
  | zero =>
    intro i v hi ha v0 v1 v2 v12
    have hii : i = s.length := by omega
    have hd : s.drop i = [] := List.drop_eq_nil_of_le (by omega)
    rw [Wp_round hs a151l24.eq_1, hd]
    simp [Wp_seq hs, Wp_region hs, Wp_block hs, Wp_cond hs, a151r20, v0, v12, hii]
    exact ⟨_, rfl, rfl, by simp [v0], by simp [v1]⟩
  | succ n ih =>
    intro i v hi ha v0 v1 v2 v12
    have hlt : i < s.length := by omega
    have hlI : (i : Int) < (s.length : Int) := by omega
    have e1 : s[i]? = some s[i] := List.getElem?_eq_getElem hlt
    have hd : s.drop i = s[i] :: s.drop (i + 1) := List.drop_eq_getElem_cons hlt
    have hw : IntKind.i64.wrap ((i : Int) + 1) = ((i + 1 : Nat) : Int) := by rw [i64_id _ (by omega)]; omega
    generalize s[i] = b at e1 hd
    rw [Wp_round hs a151l24.eq_1]
    by_cases hb : b = c
    · subst hb
      have hib : Lib.indexByte (s.drop i) b = ((0 : Nat) : Int) := by rw [hd]; simp [Lib.indexByte]
      have hle : i ≤ s.length := by omega
      simp [Wp_seq hs, Wp_region hs, Wp_draw hs, Wp_block hs, Wp_cond hs, a151r20, a151p21, a151r22, a151r23, v0, v1, v2, v12, hlI, e1, ha, hle, hw]
      exact ⟨_, rfl, 0, by simpa using hib, by simp, by simp, by simp, by simp⟩
    · have hbb : ((b.toNat : Int) == (c.toNat : Int)) = false := by
        have : b.toNat ≠ c.toNat := fun e => hb (UInt8.toNat_inj.1 e)
        simp; omega
      have hbc : (b == c) = false := by simpa using hb
      simp [Wp_seq hs, Wp_region hs, Wp_draw hs, Wp_block hs, Wp_cond hs, a151r20, a151p21, a151r22, a151r23, v0, v1, v2, v12, hlI, e1, hbb, hw]
      refine (ih (i + 1) _ (by omega) (by omega) ?_ ?_ ?_ ?_).mono fun e t h => ?_
      · simp [v0]
      · simp [v1]
      · simp [v2]
      · simp [hw]
      · obtain ⟨v', rfl, h⟩ := h
        refine ⟨v', rfl, ?_⟩
        rcases h with ⟨rfl, h, g0, g1⟩ | ⟨rfl, k, h, g6, g7, g8, g9⟩
        · refine .inl ⟨rfl, ?_, g0, g1⟩
          rw [hd]; simp [Lib.indexByte, hbc, h]
        · refine .inr ⟨rfl, k + 1, ?_, ?_, ?_, g8, g9⟩
          · rw [hd]
            have hne : ((k : Int) == -1) = false := by simp <;> omega
            simp [Lib.indexByte, hbc, h, hne]
          · rw [g6]; congr 2; omega
          · rw [g7]; congr 2; omega

end Go.Ak

namespace Go.Ak
attribute [local simp] evI_skip Wp_skip Wp_exit Wp_ret Wp_some Ws_some andThen_norm andThen_ret andThen_exit andThen_pan outOf_norm outOf_ret outOf_pan outOf_exit fin_norm fin_ret fin_pan thaw_ret thaw_pan
  evSteps stepE wanted evOp opd opdL live look_mkE upd_mkE look_cons ver_cons st_at put slotty esc escs arg1 args drop1 nbeq nble nblt binA binI rd wr cellsN sub AV.cells pack one setCells resOf resV resAll roOf evPlan sameR beqE_refl beqH_refl fillA fillS newRow newObj step hdOk_nil hdOk_cons contents take flat look lim natOf bound sliceA remake eqS eqL eqA ver
  frz_bool frz_int frz_str frz_nils frz_nilp
  List.getElem?_cons_zero List.getElem?_cons_succ hget_eq hget_new hget_cons_zero hget_cons_succ hget_nil
attribute [-simp] getElem?_pos

theorem refnext_run {bar : Nat} {H : Heap} {s : List UInt8} {c : UInt8} {at' : Nat} (hl : s.length ≤ 1000000) (hc : c ≠ 92) :
    Rn fsT SA.sp bar 151 [.str s, num at', .str [c]] H = some (.ret (.tup [.str (nx s c at').1, num (nx s c at').2.1, .bool (nx s c at').2.2, num 0]), H) := by
  have hs := SA.mono
  have hc92 : beqS [c] [92] = false := by
    simp only [beqS, nbeq, Bool.and_true, decide_eq_false_iff_not]
    intro e; exact hc (UInt8.toNat_inj.1 (by simpa using e))
  have hce : beqS [c] [] = false := rfl
  have hneg : ¬ ((at' : Int) < 0) := by omega
  refine pure_eq hs fsT_151 rfl rfl rfl ?_
  rw [env151]
  by_cases h1 : s.length ≤ at'
  · have h1' : (s.length : Int) ≤ (at' : Int) := by omega
    simp [a151, a151r0, a151r1, a151r2, a151r3, Wp_seq hs, Wp_region hs, Wp_cond hs, Wp_block hs, hneg, h1', h1, nx, frz, frzL]
  · have h1' : ¬ (s.length : Int) ≤ (at' : Int) := by omega
    have h2 : at' ≤ s.length := by omega
    simp [a151, a151r0, a151r1, a151r2, a151r3, a151r18, a151r19, Wp_seq hs, Wp_region hs, Wp_cond hs, Wp_block hs, hneg, h1', binS_eql, binS_neq, hc92, hce]
    refine (ref_loop (c := c) (at' := at') hl (s.length - at') at' _ (by omega) (Nat.le_refl _) (by simp) (by simp) (by simp) (by simp)).mono fun e t ht => ?_
    obtain ⟨v', rfl, ht⟩ := ht
    rcases ht with ⟨rfl, h, g0, g1⟩ | ⟨rfl, k, h, g6, g7, g8, g9⟩
    · have e1 : List.take (s.length - at') (s.drop at') = s.drop at' := List.take_of_length_le (by simp)
      simp [a151r25, Wp_seq hs, Wp_region hs, g0, g1, h2, e1, nx, h1, h, frz, frzL]
    · have hne : ¬ ((k : Int) = -1) := by omega
      have e2 : at' + k - at' = k := by omega
      rw [e2] at g6
      simp [g6, g7, g8, g9, nx, h1, h, hne, frz, frzL]

/-- A new stream without files. -/
theorem new_nil {H : Heap} {main : List UInt8} : Rn fsT SA.sp 0 26 [.str main, .nils] H = some (.ret (.tptr 2 7 (H.length + 1) 0), H ++ [some [.str [], .str main, num 0], some [.ptr H.length 0, .nils, .nilp, .nils, .str [], .nils, num 0]]) := by
  have hs := SA.mono
  refine Wc_eq.1 (Wc_heap hs fsT_26 rfl rfl ?_)
  rw [env26]
  simp [a26, a26r0, a26r1, a26r2, Wp_seq hs, Wp_region hs, Wp_block hs]
  rw [Wp_round hs a26l8.eq_1]
  simp [a26r3, a26r9, Wp_seq hs, Wp_region hs, Wp_block hs, Wp_cond hs]

/-- The stream, so far. -/
def MI (H : Heap) (main : List UInt8) (at' : Nat) : Prop := hget H 1 = some (some [.ptr 0 0, .nils, .nilp, .nils, .str [], .nils, num 0]) ∧ hget H 0 = some (some [.str [], .str main, num at'])

theorem main_no {H : Heap} {main : List UInt8} {c : UInt8} {at' : Nat} (h : MI H main at') (hl : main.length ≤ 1000000) (hc : c ≠ 92) (hn : main.length ≤ at') :
    Rn fsT SA.sp 0 150 [.tptr 2 7 1 0, .str [c]] H = some (.ret (.tup [.str [], .bool false, num 0]), H) := by
  have hs := SA.mono
  obtain ⟨h1, h2⟩ := h
  have hx := src_no h2 hl hc hn
  refine Wc_eq.1 (Wc_heap hs fsT_150 rfl rfl ?_)
  rw [env150]
  simp [a150, a150r0, a150r1, Wp_seq hs, Wp_region hs, h1, hx]

theorem main_yes {H : Heap} {main : List UInt8} {c : UInt8} {at' : Nat} (h : MI H main at') (hl : main.length ≤ 1000000) (hc : c ≠ 92) (hn : ¬ main.length ≤ at') :
    ∃ H', Rn fsT SA.sp 0 150 [.tptr 2 7 1 0, .str [c]] H = some (.ret (.tup [.str (nx main c at').1, .bool true, num 0]), H') ∧ MI H' main (nx main c at').2.1 := by
  have hs := SA.mono
  obtain ⟨h1, h2⟩ := h
  have hx := src_yes h2 hl hc hn
  refine ⟨_, Wc_eq.1 (Wc_heap hs fsT_150 rfl rfl ?_), (hget_set_ne _ (by omega)).trans h1, hget_set_self _ (hget_lt h2)⟩
  rw [env150]
  simp [a150, a150r0, a150r1, Wp_seq hs, Wp_region hs, h1, hx]

theorem all_loop {main : List UInt8} {c : UInt8} (hl : main.length ≤ 1000) (hc : c ≠ 92) : ∀ (n i at' : Nat) (v : Nat → AV) (H : Heap), i + n = main.length + 1 → MI H main at' → v 0 = .str main → v 5 = .tptr 2 7 1 0 → v 6 = .str [c] → v 7 = num at' → v 8 = num i →
    Wp (evI fsT SA.sp 0 (.loop a149l16) (mkE 332041393345029799923 v, H)) (fun e t => e = .exit 0 ∧ ∃ v' H', t = (mkE 332041393345029799923 v', H')) := by
  have hs := SA.mono
  intro n
  induction n with
  | zero =>
    intro i at' v H hi hM v0 v5 v6 v7 v8
    have hgt : ¬ ((i : Int) ≤ (main.length : Int)) := by omega
    rw [Wp_round hs a149l16.eq_1]
    simp [Wp_seq hs, Wp_region hs, Wp_block hs, Wp_cond hs, a149r8, v0, v8, hgt]
    exact ⟨_, rfl⟩
  | succ n ih =>
    intro i at' v H hi hM v0 v5 v6 v7 v8
    have hle : (i : Int) ≤ (main.length : Int) := by omega
    have hw : IntKind.i64.wrap ((i : Int) + 1) = ((i + 1 : Nat) : Int) := by rw [i64_id _ (by omega)]; omega
    rw [Wp_round hs a149l16.eq_1]
    by_cases hn : main.length ≤ at'
    · have h1 := main_no hM (by omega) hc hn
      have h2 := refnext_run (bar := 0) (H := H) (s := main) (c := c) (at' := at') (by omega) hc
      have hz : nx main c at' = ([], 0, false) := by simp [nx, hn]
      rw [hz] at h2
      simp at h2
      simp [Wp_seq hs, Wp_region hs, Wp_block hs, Wp_cond hs, a149r8, a149r9, a149r10, a149r11, a149r12, a149r13, a149r14, a149r15, v0, v5, v6, v7, v8, hle, h1, h2, binS_neq, beqS_refl]
      exact ⟨_, rfl⟩
    · obtain ⟨H', h1, hM'⟩ := main_yes hM (by omega) hc hn
      have h2 := refnext_run (bar := 0) (H := H') (s := main) (c := c) (at' := at') (by omega) hc
      have hz : (nx main c at').2.2 = true := by
        unfold nx
        rw [if_neg hn]
        split <;> rfl
      rw [hz] at h2
      generalize nx main c at' = z at h1 h2 hM'
      simp [Wp_seq hs, Wp_region hs, Wp_block hs, Wp_cond hs, a149r8, a149r9, a149r10, a149r11, a149r12, a149r13, a149r14, a149r15, v0, v5, v6, v7, v8, hle, h1, h2, binS_neq, beqS_refl, hw]
      refine (ih (i + 1) z.2.1 _ H' (by omega) hM' ?_ ?_ ?_ ?_ ?_).mono fun e t h => by simpa using h
      · simp [v0]
      · simp [v5]
      · simp [v6]
      · simp
      · simp [hw]

theorem all_run {main : List UInt8} {c : UInt8} : ∃ H', Rn fsT SA.sp 0 149 [.str main, .int .u8 c.toNat] [] = some (.ret (.bool true), H') := by
  have hs := SA.mono
  have key : Wc (Rn fsT SA.sp 0 149 [.str main, .int .u8 c.toNat] []) (fun o _ => o = .ret (.bool true)) := by
    refine Wc_heap hs fsT_149 rfl rfl ?_
    rw [env149]
    have hlv := lives17z 0 []
    by_cases h200 : 200 < main.length
    · have h2' : (200 : Int) < (main.length : Int) := by omega
      simp [a149, a149r0, a149r1, a149r2, Wp_seq hs, Wp_region hs, Wp_cond hs, h2', hlv]
    · have h2' : ¬ (200 : Int) < (main.length : Int) := by omega
      by_cases hc : c = 92
      · subst hc
        simp [a149, a149r0, a149r1, a149r2, Wp_seq hs, Wp_region hs, Wp_cond hs, h2', hlv]
      · have hcI : ((c.toNat : Int) == 92) = false := by
          have : c.toNat ≠ 92 := fun e => hc (UInt8.toNat_inj.1 (by simpa using e))
          simp; omega
        have hnew := new_nil (H := []) (main := main)
        simp at hnew
        simp [a149, a149r0, a149r1, a149r2, a149p3, a149r4, a149r5, a149r6, a149r7, Wp_seq hs, Wp_region hs, Wp_draw hs, Wp_block hs, Wp_cond hs, h2', hcI, hnew, strOf]
        refine (all_loop (c := c) (main := main) (by omega) hc (main.length + 1) 0 0 _ _ (by omega) ⟨rfl, rfl⟩ ?_ ?_ ?_ ?_ ?_).mono fun e t ht => ?_
        · simp
        · simp
        · simp
        · simp
        · simp
        · obtain ⟨rfl, v', H', rfl⟩ := ht
          have hlv := lives17z 0 H'
          simp [a149r17, Wp_seq hs, Wp_region hs, hlv]
  obtain ⟨o, H', h, rfl⟩ := key
  exact ⟨H', h⟩

end Go.Ak

