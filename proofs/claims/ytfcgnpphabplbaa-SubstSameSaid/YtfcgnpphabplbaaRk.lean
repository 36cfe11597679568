/- Runs, told without a bound: the first rules; builders of one's own; what put computes. -/
import Derived.Test.YtfcgnpphabplbaaRe
import Derived.Test.YtfcgnpphabplbaaQd
import Derived.Test.YtfcgnpphabplbaaRj
import Derived.ProofKit
set_option linter.unusedVariables false
set_option linter.unusedSimpArgs false

namespace Go.Ak

structure Sp where
 sp : Nat → (Nat → CallF) → Nat → CallF
 mono : SpMono sp

abbrev u64 (n : Nat) : AV := .int .u64 n

def rowOf : List AV → AV
 | [] => .nils
 | a :: l => .slc .ro (a :: l)

mutual
def Re.av : Re → AV
 | .mk k set mn mx l => .agg (.int .i64 k :: (set.map u64 ++ [.int .i64 mn, .int .i64 mx, rowOf (Re.avs l)]))
def Re.avs : List Re → List AV
 | [] => []
 | x :: l => x.av :: Re.avs l
end

def NS.cells (x : NS) : List AV := num x.op :: (x.set.map u64 ++ [num x.next, num x.two])

theorem Re.avs_map : ∀ (l : List Re), Re.avs l = l.map Re.av
 | [] => rfl
 | x :: l => by rw [Re.avs,Re.avs_map l]; rfl

def cellsOf (L : List NS) : List AV := L.flatMap NS.cells

def Wide (L : List NS) : Prop := ∀ x ∈ L, x.set.length = 4

theorem cellsOf_length {L : List NS} (h : Wide L) : (cellsOf L).length = L.length * 7 := by
 unfold cellsOf
 induction L with
 | nil => rfl
 | cons x L ih =>
  rw [List.flatMap_cons,List.length_append,ih (fun y hy => h y (by simp [hy]))]
  have := h x (by simp)
  simp [NS.cells,this]; omega

theorem cellsOf_snoc (L : List NS) (x : NS) : cellsOf (L ++ [x]) = cellsOf L ++ x.cells := by simp [cellsOf]

def PRow (H : Heap) (p : Nat) (L : List NS) (lv : AV) : Prop := Wide L ∧ ((L = [] ∧ lv = .nils) ∨ ∃ r, lv = .msl 7 r 0 L.length ∧ p < r ∧ hget H r = some (some (cellsOf L)))

def PH (H : Heap) (p : Nat) (L : List NS) (first : Nat) : Prop := ∃ lv, hget H p = some (some [lv, num first]) ∧ PRow H p L lv

def Front (p : Nat) (H H' : Heap) : Prop := p < H'.length ∧ ∀ i, i < p → hget H' i = hget H i

theorem beqS_refl : ∀ (l : List UInt8), beqS l l = true
 | [] => rfl
 | a :: l => by simp [beqS,nbeq,beqS_refl l]

mutual
theorem beqA_refl : ∀ (a : AV), beqA a a = true
 | .undef => rfl
 | .bool b => by simp [beqA]
 | .int k n => by simp [beqA]
 | .str s => by simp [beqA,beqS_refl]
 | .nilp | .nils | .nilf | .nili => rfl
 | .ptr a b => by simp [beqA,nbeq]
 | .rptr a b => by simp [beqA,nbeq,beqL_refl a]
 | .slc p a => by simp [beqA,beqL_refl a]
 | .msl a b c d => by simp [beqA,nbeq]
 | .tptr a b c d => by simp [beqA,nbeq]
 | .bsl a b => by simp [beqA,nbeq]
 | .agg a => by simp [beqA,beqL_refl a]
 | .tup a => by simp [beqA,beqL_refl a]
 | .fn a b => by simp [beqA,nbeq,beqL_refl b]
 | .ifc a b => by simp [beqA,nbeq,beqA_refl b]
 | .box a => by simp [beqA,beqL_refl a]
 | .loc a b c => by simp [beqA,nbeq]
 | .eloc a b c d => by simp [beqA,nbeq]
 | .ref a b c d => by simp [beqA,nbeq]
theorem beqL_refl : ∀ (l : List AV), beqL l l = true
 | [] => rfl
 | a :: l => by simp [beqL,beqA_refl a,beqL_refl l]
end

theorem beqE_refl : ∀ (l : List (Nat × AV)), beqE l l = true
 | [] => rfl
 | (k, a) :: l => by simp [beqE,nbeq,beqA_refl a,beqE_refl l]

theorem beqH_refl : ∀ (l : Heap), beqH l l = true
 | [] => rfl
 | none :: l => by simp [beqH,beqH_refl l]
 | some a :: l => by simp [beqH,beqL_refl a,beqH_refl l]

end Go.Ak

namespace Go.Ak

theorem pure_any {fs : Nat → Option AFunc} {sp : Nat → (Nat → CallF) → Nat → CallF} (hs : SpMono sp) {f : Nat} {F : AFunc} (hf : fs f = some F) (hp : F.pure = true) {xs : List AV} (hc : cloL xs = true) {v : AV} {bar0 n : Nat} {H0 H1 : Heap} (h : run fs sp n bar0 f xs H0 = some (.ret v, H1)) (bar : Nat) (H : Heap) :
  Rn fs sp bar f xs H = some (.ret v, H) := by
 have h1 := (Rn_iff hs).2 ⟨n, h⟩
 rw [Rn_eq hs hf,hp,hc] at h1 ⊢
 simp only [cond_true] at h1 ⊢
 cases hx : runI fs sp 0 F xs [] with
 | none => rw [hx] at h1; cases h1
 | some q =>
  obtain ⟨o, K⟩ := q
  rw [hx] at h1
  cases o with
  | ret u =>
   simp only [pureR] at h1 ⊢
   split at h1
   ·rename_i w hw
    simp only [Option.some.injEq,Prod.mk.injEq,Out.ret.injEq] at h1
    rw [h1.1]
   ·cases h1
  | pan u =>
   simp only [pureR] at h1
   split at h1
   ·cases h1
   ·cases h1

end Go.Ak

namespace Go.Ak

theorem spB_mono : SpMono spB := fun n m c d bar hn hcd f xs H r h => by
 unfold spB at h ⊢
 cases h1 : Nat.beq f 41 <;> rw [h1] at h <;> simp only [cond_true,cond_false] at h ⊢
 ·cases h2 : Nat.beq f 11 <;> rw [h2] at h <;> simp only [cond_true,cond_false] at h ⊢
  ·exact h
  ·exact spAll_mono hn hcd xs H r h
 ·exact spParse_mono hcd xs H r h

def SA : Sp := ⟨spB, spB_mono⟩

section
variable {bar : Nat} {xs : List AV} {H : Heap}
theorem Rn_check : Rn fsT SA.sp bar 79 xs H = spCheck bar xs H := (Rn_sp SA.mono rfl bar xs H).trans (limit_const _)
theorem Rn_string : Rn fsT SA.sp bar 55 xs H = spString bar xs H := (Rn_sp SA.mono rfl bar xs H).trans (limit_const _)
theorem Rn_parse : Rn fsT SA.sp bar 41 xs H = limit fun n => spParse (run fsT spB n) xs H := Rn_sp SA.mono rfl bar xs H
theorem Rn_all : Rn fsT SA.sp bar 11 xs H = limit fun n => spAll n (run fsT spB n) xs H := Rn_sp SA.mono rfl bar xs H
theorem Rn_index : Rn fsT SA.sp bar 112 xs H = spIndex xs H := (Rn_sp SA.mono rfl bar xs H).trans (limit_const _)
end

theorem binS_neq (a b : List UInt8) : binS .neq a b = some (.bool (!beqS a b)) := rfl

end Go.Ak

namespace Go.Ak
attribute [local simp] evI_skip Wp_skip Wp_exit Wp_ret Wp_some Ws_some andThen_norm andThen_ret andThen_exit andThen_pan outOf_norm outOf_ret outOf_pan outOf_exit fin_norm fin_ret fin_pan thaw_ret thaw_pan
 evSteps stepE wanted evOp opd opdL live look_mkE upd_mkE look_cons ver_cons st_at put slotty esc escs arg1 args drop1 nbeq nble nblt binA binI rd wr cellsN sub AV.cells pack one setCells resOf resV resAll roOf evPlan sameR beqE_refl beqH_refl fillA fillS newRow newObj step hdOk_nil hdOk_cons contents take flat look lim natOf bound sliceA remake eqS eqL eqA ver
 frz_bool frz_int frz_str frz_nils frz_nilp
 List.getElem?_cons_zero List.getElem?_cons_succ hget_eq hget_new hget_cons_zero hget_cons_succ hget_nil
attribute [local simp] mvV mvL mgV mgL asL asI asB ldN ldV ldL ldG stV stL fdL fdV fdG fgL nlC nlG bnI bvI bnL bvL bxI bxU bgI bgL exT lnS lgS clA clB clC clI pkT pkF pvT pvF pgT pgF ixL axV bxV apL
attribute [-simp] getElem?_pos

section

def BC (bar : Nat) (H : Heap) (q : Nat) (s : List UInt8) : Prop :=
 bar ≤ q ∧ ∃ b0, (b0 = .nilp ∨ b0 = .tptr 4 2 q 0) ∧ ((hget H q = some (some [b0, .nils]) ∧ s = []) ∨ ∃ r cs, hget H q = some (some [b0, .bsl r s.length]) ∧ hget H r = some (some cs) ∧ cs.take s.length = bytesOf s ∧ s.length ≤ cs.length ∧ q ≠ r ∧ bar ≤ r ∧ s ≠ [])

theorem bytesOf_append (a b : List UInt8) : bytesOf (a ++ b) = bytesOf a ++ bytesOf b := by simp [bytesOf]

theorem BC.new (bar : Nat) (H : Heap) (h : bar ≤ H.length) : BC bar (H ++ [some [.nilp, .nils]]) H.length [] := ⟨h, .nilp, .inl rfl, .inl ⟨hget_new _ _, rfl⟩⟩

theorem bwrite {bar : Nat} {H : Heap} {q : Nat} {s t : List UInt8} (h : BC bar H q s) (hl : s.length + t.length ≤ 4000000000) :
  ∃ H', Rn fsT SA.sp bar 51 [.tptr 4 2 q 0, .str t] H = some (.ret (.tup [num t.length, .nili]), H') ∧ BC bar H' q (s ++ t) := by
 have hs := SA.mono
 obtain ⟨hb, b0, hb0, hc⟩ := h
 have fin : ∀ {H' : Heap} {o : Out}, Wc (Rn fsT SA.sp bar 51 [.tptr 4 2 q 0, .str t] H) (fun o H' => o = .ret (.tup [num t.length, .nili]) ∧ BC bar H' q (s ++ t)) → ∃ H', Rn fsT SA.sp bar 51 [.tptr 4 2 q 0, .str t] H = some (.ret (.tup [num t.length, .nili]), H') ∧ BC bar H' q (s ++ t) := fun ⟨o, H', h1, h2, h3⟩ => ⟨H', by rw [h1,h2], h3⟩
 refine fin (H' := H) (o := .ret .nili) (Wc_heap hs fsT_51 rfl rfl ?_)
 rw [env51]
 rcases hc with ⟨hq, rfl⟩ | ⟨r, cs, hq, hr, h1, h2, hqr, hbr, hne⟩
 ·have hql := hget_lt hq
  cases t with
  | nil =>
   rcases hb0 with rfl | rfl
   all_goals
    simp [a51,a51r0,a51r1,a51r2,a51r3,Wp_seq hs,Wp_region hs,Rn_check,spCheck,okB,hq,hget_set_self,hql,bytesOf,hb]
    exact ⟨hb, _, .inr rfl, .inl ⟨hget_set_self _ hql, rfl⟩⟩
  | cons c t =>
   have htl : t.length + 1 ≤ 4294967296 := by simp only [List.length_cons] at hl; omega
   have hfl : List.flatMap AV.cells (List.map (fun b : UInt8 => AV.int .u8 b.toNat) t) = bytesOf t := flat_bytes t
   have hne : q ≠ H.length := by omega
   rcases hb0 with rfl | rfl
   all_goals
    simp [a51,a51r0,a51r1,a51r2,a51r3,Wp_seq hs,Wp_region hs,Rn_check,spCheck,okB,hq,hget_set_self,hql,bytesOf,htl,hfl,hget_app,hb]
    refine ⟨hb, _, .inr rfl, .inr ⟨H.length, bytesOf (c :: t), ?_, ?_, ?_, ?_, hne, by omega, by simp⟩⟩
    ·rw [hget_app _ (by simpa using hql)]
     exact hget_set_self _ hql
    ·exact hget_new' _ _ _ (by simp)
    ·exact List.take_of_length_le (by simp [bytesOf])
    ·simp [bytesOf]
 ·have hql := hget_lt hq
  have hrl := hget_lt hr
  have hrq : r ≠ q := Ne.symm hqr
  have hlim : s.length + t.length ≤ 4294967296 := by omega
  have hfl : List.flatMap AV.cells (List.map (fun b : UInt8 => AV.int .u8 b.toNat) t) = bytesOf t := flat_bytes t
  have hq1 : q ≠ H.length := by omega
  rcases hb0 with rfl | rfl
  all_goals
   simp [a51,a51r0,a51r1,a51r2,a51r3,Wp_seq hs,Wp_region hs,Rn_check,spCheck,okB,hq,hr,h2,hget_set_self,hget_set_ne,hql,hqr,hrq,bytesOf,hlim,hfl,hget_app,hb,hbr]
   refine ⟨hb, _, .inr rfl, .inr ⟨H.length, cs.take s.length ++ bytesOf t, ?_, ?_, ?_, ?_, hq1, by omega, by simp [hne]⟩⟩
   ·rw [hget_app _ (by simpa using hql)]
    simp only [List.length_append]
    first | (rw [hget_set_self _ (by simpa using hql)]; done) | (rw [hget_set_ne _ hrq,hget_set_self _ (by simpa using hql)]; done)
   ·exact hget_new' _ _ _ (by simp)
   ·rw [h1,← bytesOf_append,List.take_of_length_le (by simp [bytesOf])]
   ·simp [bytesOf]; omega

theorem bbyte {bar : Nat} {H : Heap} {q : Nat} {s : List UInt8} {c : UInt8} (h : BC bar H q s) (hl : s.length ≤ 4000000000) :
  ∃ H', Rn fsT SA.sp bar 76 [.tptr 4 2 q 0, .int .u8 c.toNat] H = some (.ret .nili, H') ∧ BC bar H' q (s ++ [c]) := by
 have hs := SA.mono
 obtain ⟨hb, b0, hb0, hc⟩ := h
 have fin : Wc (Rn fsT SA.sp bar 76 [.tptr 4 2 q 0, .int .u8 c.toNat] H) (fun o H' => o = .ret .nili ∧ BC bar H' q (s ++ [c])) → ∃ H', Rn fsT SA.sp bar 76 [.tptr 4 2 q 0, .int .u8 c.toNat] H = some (.ret .nili, H') ∧ BC bar H' q (s ++ [c]) := fun ⟨o, H', h1, h2, h3⟩ => ⟨H', by rw [h1,h2], h3⟩
 refine fin (Wc_heap hs fsT_76 rfl rfl ?_)
 rw [env76]
 rcases hc with ⟨hq, rfl⟩ | ⟨r, cs, hq, hr, h1, h2, hqr, hbr, hne⟩
 ·have hql := hget_lt hq
  have hne : q ≠ H.length := by omega
  rcases hb0 with rfl | rfl
  all_goals
   simp [a76,a76r0,a76r1,a76r2,a76r3,Wp_seq hs,Wp_region hs,Rn_check,spCheck,okB,hq,hget_set_self,hql,hget_app,hb,fillS]
   refine ⟨hb, _, .inr rfl, .inr ⟨H.length, bytesOf [c], ?_, ?_, ?_, ?_, hne, by omega, by simp⟩⟩
   ·rw [hget_app _ (by simpa using hql)]
    exact hget_set_self _ hql
   ·exact hget_new' _ _ _ (by simp)
   ·rfl
   ·simp [bytesOf]
 ·have hql := hget_lt hq
  have hrl := hget_lt hr
  have hrq : r ≠ q := Ne.symm hqr
  have hlim : s.length + 1 ≤ 4294967296 := by omega
  have hq1 : q ≠ H.length := by omega
  rcases hb0 with rfl | rfl
  all_goals
   simp [a76,a76r0,a76r1,a76r2,a76r3,Wp_seq hs,Wp_region hs,Rn_check,spCheck,okB,hq,hr,h2,hget_set_self,hget_set_ne,hql,hqr,hrq,hlim,hget_app,hb,hbr,fillS]
   refine ⟨hb, _, .inr rfl, .inr ⟨H.length, cs.take s.length ++ bytesOf [c], ?_, ?_, ?_, ?_, hq1, by omega, by simp⟩⟩
   ·rw [hget_app _ (by simpa using hql)]
    simp only [List.length_append]
    first | (rw [hget_set_self _ (by simpa using hql)]; rfl; done) | (rw [hget_set_ne _ hrq,hget_set_self _ (by simpa using hql)]; rfl; done)
   ·exact hget_new' _ _ _ (by simp)
   ·rw [h1,← bytesOf_append,List.take_of_length_le (by simp [bytesOf])]
   ·simp [bytesOf]; omega

theorem strOf_back : ∀ (s : List UInt8), strOf (bytesOf s) = some s
 | [] => rfl
 | c :: s => by
  have ih := strOf_back s
  simp only [bytesOf] at ih
  simp [bytesOf,strOf,ih]

theorem bstring {bar : Nat} {H : Heap} {q : Nat} {s : List UInt8} (h : BC bar H q s) (hl : s.length ≤ 4000000000) : ∃ H', Rn fsT SA.sp bar 55 [.tptr 4 2 q 0] H = some (.ret (.str s), H') := by
 obtain ⟨hb, b0, hb0, hc⟩ := h
 rw [Rn_string]
 rcases hc with ⟨hq, rfl⟩ | ⟨r, cs, hq, hr, h1, h2, hqr, hbr, hne⟩
 ·rw [hget] at hq
  exact ⟨H, by simp [spString,hq]⟩
 ·rw [hget] at hq hr
  have h1' : 1 ≤ s.length := List.length_pos_iff.2 hne
  have e3 : s.length ≤ 4294967296 := by omega
  exact ⟨_, by simp [spString,hq,hr,hbr,h1',e3,h2,h1,strOf_back,beqL_refl]; rfl⟩

end

section

def putF (part : List UInt8) : List UInt8 → List UInt8
 | [] => []
 | [c] => if c = 38 then part else [c]
 | c :: d :: l => if c = 92 ∧ (d = 38 ∨ d = 92) then d :: putF part l else (if c = 38 then part else [c]) ++ putF part (d :: l)

theorem putF_len (part : List UInt8) : ∀ (l : List UInt8), (putF part l).length ≤ l.length * (part.length + 1)
 | [] => by simp [putF]
 | [c] => by
  simp only [putF]
  split <;> simp
 | c :: d :: l => by
  simp only [putF]
  have h1 := putF_len part l
  have h2 := putF_len part (d :: l)
  split
  ·simp only [List.length_cons] at h2 ⊢
   rw [Nat.succ_mul,Nat.succ_mul]; omega
  ·simp only [List.length_cons,List.length_append] at h2 ⊢
   rw [Nat.succ_mul]
   split <;> simp <;> omega

theorem u8_int (c d : UInt8) : ((c.toNat : Int) == (d.toNat : Int)) = decide (c = d) := by
 by_cases h : c = d
 ·subst h; simp
 ·have : ¬ (c.toNat : Int) = (d.toNat : Int) := fun e => h (UInt8.toNat_inj.1 (by omega))
  simp [h,this]

theorem u8_eq (c : UInt8) (n : Nat) (h : n < 256) : ((c.toNat : Int) == (n : Int)) = decide (c = UInt8.ofNat n) := by
 have := u8_int c (UInt8.ofNat n)
 rw [show (UInt8.ofNat n).toNat = n by simp; omega] at this
 exact this

theorem putF_cons (part : List UInt8) (c : UInt8) (l : List UInt8) (h : ¬ (c = 92 ∧ (l.head? = some 38 ∨ l.head? = some 92))) : putF part (c :: l) = (if c = 38 then part else [c]) ++ putF part l := by
 cases l with
 | nil => simp [putF]
 | cons d l =>
  simp only [List.head?_cons,Option.some.injEq] at h
  rw [putF,if_neg h]

theorem drop_at {s : List UInt8} {i : Nat} {c : UInt8} (h : s[i]? = some c) : s.drop i = c :: s.drop (i + 1) := by
 obtain ⟨hi, rfl⟩ := List.getElem?_eq_some_iff.1 h
 rw [List.drop_eq_getElem_cons hi]

theorem put_loop {bar : Nat} {by' part : List UInt8} (hb : by'.length ≤ 100000) (hp : part.length ≤ 10000) : ∀ (n i : Nat) (v : Nat → AV) (H : Heap) (q : Nat) (out : List UInt8), i + n = by'.length → v 0 = .str by' → v 1 = .str part → v 5 = .tptr 4 2 q 0 → v 6 = num i → BC bar H q out → out ++ putF part (by'.drop i) = putF part by' →
  Wp (evI fsT SA.sp bar (.loop a48l12) (mkE 141287244171507 v, H)) (fun e t => e = .exit 0 ∧ ∃ v' H', t = (mkE 141287244171507 v', H') ∧ v' 5 = .tptr 4 2 q 0 ∧ BC bar H' q (putF part by')) := by
 have hs := SA.mono
 have hpl := putF_len part by'
 have hpl2 : by'.length * (part.length + 1) ≤ 1000100000 := Nat.le_trans (Nat.mul_le_mul hb (Nat.succ_le_succ hp)) (by omega)
 intro n
 induction n using Nat.strongRecOn with
 | ind n ih =>
 intro i v H q out hi v0 v1 v5 v6 hB ho
 have hol : out.length ≤ 1000100000 := by
  have := congrArg List.length ho
  simp only [List.length_append] at this; omega
 cases n with
 | zero =>
  have hge : ¬ ((i : Int) < (by'.length : Int)) := by omega
  have : by'.drop i = [] := List.drop_eq_nil_of_le (by omega)
  rw [this] at ho
  simp only [putF,List.append_nil] at ho
  subst ho
  rw [Wp_round hs a48l12.eq_1]
  simp [Wp_seq hs,Wp_region hs,Wp_block hs,Wp_cond hs,a48r3,v0,v6,hge]
  exact ⟨_, _, ⟨rfl, rfl⟩, by simp [v5], hB⟩
 | succ n =>
  have hlt : i < by'.length := by omega
  have hlt' : ((i : Int) < (by'.length : Int)) := by omega
  obtain ⟨c, hc⟩ : ∃ c, by'[i]? = some c := ⟨by'[i], List.getElem?_eq_getElem hlt⟩
  have hd := drop_at hc
  have hw : IntKind.i64.wrap ((i : Int) + 1) = (i : Int) + 1 := i64_id _ (by omega)
  have h0 : (0 : Int) ≤ (i : Int) + 1 := by omega
  have ht : ((i : Int) + 1).toNat = i + 1 := by omega
  have hw2 : IntKind.i64.wrap ((i : Int) + 1 + 1) = (i : Int) + 1 + 1 := i64_id _ (by omega)
  have c92 := u8_eq c 92 (by omega)
  have c38 := u8_eq c 38 (by omega)
  -- one byte, or a part, is written
  have plain : ¬ (c = 92 ∧ ((by'.drop (i + 1)).head? = some 38 ∨ (by'.drop (i + 1)).head? = some 92)) → out ++ (if c = 38 then part else [c]) ++ putF part (by'.drop (i + 1)) = putF part by' := fun h => by
   rw [hd,putF_cons part c _ h,← List.append_assoc] at ho
   exact ho
  rw [Wp_round hs a48l12.eq_1]
  by_cases h92 : c = 92
  ·subst h92
   by_cases hnext : i + 1 < by'.length
   ·have hnext' : (i : Int) + 1 < (by'.length : Int) := by omega
    obtain ⟨d, hdd⟩ : ∃ d, by'[i + 1]? = some d := ⟨by'[i + 1], List.getElem?_eq_getElem hnext⟩
    have hd2 := drop_at hdd
    have d38 := u8_eq d 38 (by omega)
    have d92 := u8_eq d 92 (by omega)
    by_cases hq : d = 38 ∨ d = 92
    ·have e1 : out ++ [d] ++ putF part (by'.drop (i + 2)) = putF part by' := by
      rw [hd,hd2,putF,if_pos ⟨rfl,hq⟩] at ho
      simpa using ho
     obtain ⟨H', h1, h2⟩ := bbyte (c := d) hB (by omega)
     rcases hq with rfl | rfl
     all_goals
      first
       | replace h1 : Rn fsT SA.sp bar 76 [.tptr 4 2 q 0, .int .u8 38] H = some (.ret .nili, H') := h1
       | replace h1 : Rn fsT SA.sp bar 76 [.tptr 4 2 q 0, .int .u8 92] H = some (.ret .nili, H') := h1
      simp [Wp_seq hs,Wp_region hs,Wp_block hs,Wp_cond hs,a48r3,a48r4,a48r5,a48r6,a48r7,a48r8,a48r9,a48r10,a48r11,v0,v1,v5,v6,hlt',hc,hw,hw2,hnext',h0,ht,hdd,h1]
      refine (ih (n - 1) (by omega) (i + 2) _ H' q _ (by omega) ?_ ?_ ?_ ?_ h2 e1).mono fun e t h => by simpa using h
      ·simp [v0]
      ·simp [v1]
      ·simp [v5]
      ·simp; omega
    ·have hq1 : ¬ d = 38 := fun e => hq (.inl e)
     have hq2 : ¬ d = 92 := fun e => hq (.inr e)
     have f1 : ((d.toNat : Int) == 38) = false := by rw [show (38 : Int) = ((38 : Nat) : Int) from rfl,d38]; simpa using hq1
     have f2 : ((d.toNat : Int) == 92) = false := by rw [show (92 : Int) = ((92 : Nat) : Int) from rfl,d92]; simpa using hq2
     have e1 := plain (by rw [hd2]; simp [hq1,hq2])
     obtain ⟨H', h1, h2⟩ := bbyte (c := 92) hB (by omega)
     have g38 : ¬ (92 : UInt8) = 38 := by decide
     rw [if_neg g38] at e1
     have h1' : Rn fsT SA.sp bar 76 [.tptr 4 2 q 0, .int .u8 92] H = some (.ret .nili, H') := h1
     simp [Wp_seq hs,Wp_region hs,Wp_block hs,Wp_cond hs,a48r3,a48r4,a48r5,a48r6,a48r7,a48r8,a48r9,a48r10,a48r11,v0,v1,v5,v6,hlt',hc,hw,hw2,hnext',h0,ht,hdd,f1,f2,h1']
     refine (ih n (by omega) (i + 1) _ H' q _ (by omega) ?_ ?_ ?_ ?_ h2 e1).mono fun e t h => by simpa using h
     ·simp [v0]
     ·simp [v1]
     ·simp [v5]
     ·simp
   ·have hnext' : ¬ (i : Int) + 1 < (by'.length : Int) := by omega
    have e0 : by'.drop (i + 1) = [] := List.drop_eq_nil_of_le (by omega)
    have e1 := plain (by rw [e0]; simp)
    obtain ⟨H', h1, h2⟩ := bbyte (c := 92) hB (by omega)
    have g38 : ¬ (92 : UInt8) = 38 := by decide
    rw [if_neg g38] at e1
    have h1' : Rn fsT SA.sp bar 76 [.tptr 4 2 q 0, .int .u8 92] H = some (.ret .nili, H') := h1
    simp [Wp_seq hs,Wp_region hs,Wp_block hs,Wp_cond hs,a48r3,a48r4,a48r5,a48r6,a48r7,a48r8,a48r9,a48r10,a48r11,v0,v1,v5,v6,hlt',hc,hw,hw2,hnext',h0,ht,h1']
    refine (ih n (by omega) (i + 1) _ H' q _ (by omega) ?_ ?_ ?_ ?_ h2 e1).mono fun e t h => by simpa using h
    ·simp [v0]
    ·simp [v1]
    ·simp [v5]
    ·simp
  ·have f92 : ((c.toNat : Int) == 92) = false := by rw [show (92 : Int) = ((92 : Nat) : Int) from rfl,c92]; simpa using h92
   have e1 := plain (fun h => h92 h.1)
   by_cases h38 : c = 38
   ·subst h38
    rw [if_pos rfl] at e1
    obtain ⟨H', h1, h2⟩ := bwrite (t := part) hB (by omega)
    simp [Wp_seq hs,Wp_region hs,Wp_block hs,Wp_cond hs,a48r3,a48r4,a48r5,a48r6,a48r7,a48r8,a48r9,a48r10,a48r11,v0,v1,v5,v6,hlt',hc,hw,h1]
    refine (ih n (by omega) (i + 1) _ H' q _ (by omega) ?_ ?_ ?_ ?_ h2 e1).mono fun e t h => by simpa using h
    ·simp [v0]
    ·simp [v1]
    ·simp [v5]
    ·simp
   ·have f38 : ((c.toNat : Int) == 38) = false := by rw [show (38 : Int) = ((38 : Nat) : Int) from rfl,c38]; simpa using h38
    rw [if_neg h38] at e1
    obtain ⟨H', h1, h2⟩ := bbyte (c := c) hB (by omega)
    simp [Wp_seq hs,Wp_region hs,Wp_block hs,Wp_cond hs,a48r3,a48r4,a48r5,a48r6,a48r7,a48r8,a48r9,a48r10,a48r11,v0,v1,v5,v6,hlt',hc,hw,h1,f92,f38]
    refine (ih n (by omega) (i + 1) _ H' q _ (by omega) ?_ ?_ ?_ ?_ h2 e1).mono fun e t h => by simpa using h
    ·simp [v0]
    ·simp [v1]
    ·simp [v5]
    ·simp

end

section

theorem put_run {bar : Nat} {H : Heap} {by' part : List UInt8} (hb : by'.length ≤ 100000) (hp : part.length ≤ 10000) : Rn fsT SA.sp bar 48 [.str by', .str part] H = some (.ret (.str (putF part by')), H) := by
 have hs := SA.mono
 have hpl := putF_len part by'
 have hpl2 : by'.length * (part.length + 1) ≤ 1000100000 := Nat.le_trans (Nat.mul_le_mul hb (Nat.succ_le_succ hp)) (by omega)
 refine pure_eq hs fsT_48 rfl rfl rfl ?_
 rw [env48]
 simp [a48,a48r0,a48r1,a48r2,Wp_seq hs,Wp_region hs,Wp_block hs]
 refine (put_loop (bar := 0) hb hp by'.length 0 _ _ 0 [] (by omega) ?_ ?_ ?_ ?_ (BC.new 0 [] (Nat.zero_le _)) (by simp)).mono fun e t h => ?_
 ·simp
 ·simp
 ·simp
 ·simp
 ·obtain ⟨rfl, v', H', rfl, v5, hB⟩ := h
  obtain ⟨H2, h2⟩ := bstring hB (by omega)
  simp [a48r13,Wp_seq hs,Wp_region hs,v5,h2]

end

end Go.Ak

namespace Go.Ak
set_option maxRecDepth 100000

theorem lives08_run : run fsT spB 200 0 19 [] [] = some (.ret (.bool true), []) := by kernel_rfl

theorem lives08 (bar : Nat) (H : Heap) : Rn fsT SA.sp bar 19 [] H = some (.ret (.bool true), H) := pure_any SA.mono fsT_19 rfl rfl lives08_run bar H

end Go.Ak

