/- The evaluator's soundness, parts 13 to 20. No program stands here. -/
import Derived.Test.YtfcgnpphabplbaaPa
import Derived.Lib.ConvBytes
import Derived.Laws.MakeOwn
import Derived.Laws.BytesString
set_option linter.unusedVariables false
set_option linter.unusedSimpArgs false

namespace Go.Ak
section
variable {T : Tr} {bar : Nat} {vs : List Nat} {N : Nat} {g : Gh} {w : World} {σ : St} {tm : Array Value} {ds : List Deferred} {o : Oper} {r : OpR}

def chkEq (P : Program) (t k : Nat) (x y : Operand) : Bool :=
  match k, P.underlying t with
  | 0, some .bool => true
  | 1, some (.pointer _) => true
  | 2, some (.slice _) => true
  | 3, some (.func _ _ _) => true
  | 4, some (.interface _) => (match x with | .const _ => true | _ => false) || (match y with | .const _ => true | _ => false)
  | _, _ => false

theorem bif_not (neg b : Bool) : (bif neg then !b else b) = (if neg then !b else b) := by cases neg <;> rfl

theorem of_equal {P : Program} {t : Nat} {va vb : Value} {b : Bool} (hn : (∀ k n, va ≠ .int k n) ∧ (∀ s, va ≠ .string s) ∧ (∀ k n, va ≠ .float k n) ∧ (∀ k x y, va ≠ .complex k x y)) (w : World) (h : (Op.equal t va vb).run P w = .ok b w) :
    (binOp .eql t va vb).run P w = .ok (.bool b) w ∧ (binOp .neq t va vb).run P w = .ok (.bool !b) w := by
  have e1 : binOp .eql t va vb = (do pure (.bool (← Op.equal t va vb))) := by
    cases va <;> first | rfl | (exact absurd rfl (hn.1 _ _)) | (exact absurd rfl (hn.2.1 _)) | (exact absurd rfl (hn.2.2.1 _ _)) | (exact absurd rfl (hn.2.2.2 _ _ _))
  have e2 : binOp .neq t va vb = (do pure (.bool (!(← Op.equal t va vb)))) := by
    cases va <;> first | rfl | (exact absurd rfl (hn.1 _ _)) | (exact absurd rfl (hn.2.1 _)) | (exact absurd rfl (hn.2.2.1 _ _)) | (exact absurd rfl (hn.2.2.2 _ _ _))
  rw [e1, e2]
  simp only [Sem.run_bind, h, Result.andThen_ok, Sem.run_pure, and_self]

theorem in_ptr {P : Program} {t e : Nat} (hu : P.underlying t = some (.pointer e)) (a b : Option Addr) (hn : a = none ∨ b = none) (d : Nat) (w : World) : (Op.equalIn (d + 1) t (.pointer a) (.pointer b)).run P w = .ok (a.isNone && b.isNone) w := by
  rcases hn with rfl | rfl
  · cases b <;> simp [Op.equalIn, run_underlying hu]
  · cases a <;> simp [Op.equalIn, run_underlying hu]
theorem in_slc {P : Program} {t e : Nat} (hu : P.underlying t = some (.slice e)) (a b : Option Addr) (l c l' c' : Nat) (hn : a = none ∨ b = none) (d : Nat) (w : World) : (Op.equalIn (d + 1) t (.slice a l c) (.slice b l' c')).run P w = .ok (a.isNone && b.isNone) w := by
  rcases hn with rfl | rfl
  · cases b <;> simp [Op.equalIn, run_underlying hu]
  · cases a <;> simp [Op.equalIn, run_underlying hu]

theorem equal_ptr {P : Program} {t e : Nat} (hu : P.underlying t = some (.pointer e)) (a b : Option Addr) (hn : a = none ∨ b = none) (w : World) :
    (binOp .eql t (.pointer a) (.pointer b)).run P w = .ok (.bool (a.isNone && b.isNone)) w ∧ (binOp .neq t (.pointer a) (.pointer b)).run P w = .ok (.bool !(a.isNone && b.isNone)) w :=
  of_equal (by simp) w (in_ptr hu a b hn 9999 w)

theorem equal_slc {P : Program} {t e : Nat} (hu : P.underlying t = some (.slice e)) (a b : Option Addr) (l c l' c' : Nat) (hn : (a = none) ∨ (b = none)) (w : World) :
    (binOp .eql t (.slice a l c) (.slice b l' c')).run P w = .ok (.bool (a.isNone && b.isNone)) w ∧ (binOp .neq t (.slice a l c) (.slice b l' c')).run P w = .ok (.bool !(a.isNone && b.isNone)) w :=
  of_equal (by simp) w (in_slc hu a b l c l' c' hn 9999 w)

theorem in_fn {P : Program} {t : Nat} {ps rs : Array TypeId} {vd : Bool} (hu : P.underlying t = some (.func ps rs vd)) (d : Nat) (w : World) :
    (Op.equalIn (d + 1) t .nilFunc .nilFunc).run P w = .ok true w ∧ (∀ f a c, (Op.equalIn (d + 1) t .nilFunc (.func f a c)).run P w = .ok false w) ∧ ∀ f a c, (Op.equalIn (d + 1) t (.func f a c) .nilFunc).run P w = .ok false w := by
  refine ⟨?_, fun f a c => ?_, fun f a c => ?_⟩ <;> simp [Op.equalIn, run_underlying hu]
theorem in_ifc {P : Program} {t : Nat} {ms : Array (String × TypeId)} (hu : P.underlying t = some (.interface ms)) (d : Nat) (w : World) :
    (Op.equalIn (d + 1) t .nilIface .nilIface).run P w = .ok true w ∧ (∀ u x, (Op.equalIn (d + 1) t .nilIface (.iface u x)).run P w = .ok false w) ∧ ∀ u x, (Op.equalIn (d + 1) t (.iface u x) .nilIface).run P w = .ok false w := by
  refine ⟨?_, fun f a => ?_, fun f a => ?_⟩ <;> simp [Op.equalIn, run_underlying hu]

theorem equal_fn {P : Program} {t : Nat} {ps rs : Array TypeId} {vd : Bool} (hu : P.underlying t = some (.func ps rs vd)) (w : World) :
    ((binOp .eql t .nilFunc .nilFunc).run P w = .ok (.bool true) w ∧ (binOp .neq t .nilFunc .nilFunc).run P w = .ok (.bool !true) w) ∧
    (∀ f a c, (binOp .eql t .nilFunc (.func f a c)).run P w = .ok (.bool false) w ∧ (binOp .neq t .nilFunc (.func f a c)).run P w = .ok (.bool !false) w) ∧
    (∀ f a c, (binOp .eql t (.func f a c) .nilFunc).run P w = .ok (.bool false) w ∧ (binOp .neq t (.func f a c) .nilFunc).run P w = .ok (.bool !false) w) :=
  ⟨of_equal (by simp) w (in_fn hu 9999 w).1, fun f a c => of_equal (by simp) w ((in_fn hu 9999 w).2.1 f a c), fun f a c => of_equal (by simp) w ((in_fn hu 9999 w).2.2 f a c)⟩

theorem equal_ifc {P : Program} {t : Nat} {ms : Array (String × TypeId)} (hu : P.underlying t = some (.interface ms)) (w : World) :
    ((binOp .eql t .nilIface .nilIface).run P w = .ok (.bool true) w ∧ (binOp .neq t .nilIface .nilIface).run P w = .ok (.bool !true) w) ∧
    (∀ d x, (binOp .eql t .nilIface (.iface d x)).run P w = .ok (.bool false) w ∧ (binOp .neq t .nilIface (.iface d x)).run P w = .ok (.bool !false) w) ∧
    (∀ d x, (binOp .eql t (.iface d x) .nilIface).run P w = .ok (.bool false) w ∧ (binOp .neq t (.iface d x) .nilIface).run P w = .ok (.bool !false) w) :=
  ⟨of_equal (by simp) w (in_ifc hu 9999 w).1, fun u x => of_equal (by simp) w ((in_ifc hu 9999 w).2.1 u x), fun u x => of_equal (by simp) w ((in_ifc hu 9999 w).2.2 u x)⟩

theorem run_eqop {P : Program} {t : Nat} {x y : Operand} {op : BinOp} {va vb : Value} {b : Bool} {neg : Bool} (hop : op = if neg then .neq else .eql) (hg : (eqGuard op t x y va vb).run P w = .ok () w)
    (h1 : (binOp .eql t va vb).run P w = .ok (.bool b) w) (h2 : (binOp .neq t va vb).run P w = .ok (.bool !b) w) :
    (do eqGuard op t x y va vb; binOp op t va vb : Sem Value).run P w = .ok (.bool (bif neg then !b else b)) w := by
  subst hop
  cases neg
  · simp only [Bool.false_eq_true, if_false, Sem.run_bind] at hg ⊢
    simp [hg, h1]
  · simp only [if_true, Sem.run_bind] at hg ⊢
    simp [hg, h2]

theorem op_eq (h : Rel T vs N g w σ tm) {x1 x2 : Operand} {y1 y2 : Opd} {op : BinOp} {neg : Bool} {t k ty : Nat} {call : CallF} (ho : o.op = .binOp op t x1 x2 ty) (hop : op = if neg then .neq else .eql) (h1 : chkX T vs N x1 y1 = true) (h2 : chkX T vs N x2 y2 = true)
    (hk : chkEq T.P t k x1 x2 = true) (he : evOp call bar (.eq neg k y1 y2) σ = some r) : OpYes T bar vs N g w tm (execOp (Act.mk tm ds).eval o) r := by
  have hr1 := opd_rel (ds := ds) h h1
  have hr2 := opd_rel (ds := ds) h h2
  simp only [evOp] at he
  split at he
  · rename_i b hb
    simp only [Option.some.injEq] at he
    have fin : ∀ {va vb : Value}, (Act.mk tm ds).eval x1 = va → (Act.mk tm ds).eval x2 = vb → (∀ w, (eqGuard op t x1 x2 va vb).run T.P w = .ok () w) → (∀ w, (binOp .eql t va vb).run T.P w = .ok (.bool b) w) → (∀ w, (binOp .neq t va vb).run T.P w = .ok (.bool !b) w) →
        OpYes T bar vs N g w tm (execOp (Act.mk tm ds).eval o) r := fun {va vb} e1 e2 e3 e4 e5 => by
      refine ok_y (v := .bool (bif neg then !b else b)) (fun w => ?_) h he.symm (.of_V (.bool _))
      have := run_eqop (x := x1) (y := x2) hop (e3 w) (e4 w) (e5 w)
      simp only [execOp, ho, e1, e2, Sem.run_bind] at this ⊢
      simp only [this, Result.andThen_ok, Sem.run_pure]
    -- a slice's own shape
    have sl : ∀ {a : AV} {v : Value} {own : Own}, AVR T g w σ tm own a v → live σ a = true → (∃ p es, a = .slc p es) ∨ (∃ st id off n, a = .msl st id off n) ∨ (∃ t k lo n, a = .ref t k lo n) → ∃ ad l c, v = .slice (some ad) l c := fun {a v own} hv hl hs => by
      rcases hs with ⟨p, es, rfl⟩ | ⟨st, id, off, n, rfl⟩ | ⟨t, k, lo, n, rfl⟩
      · cases p with
        | ro => obtain ⟨_, b, o', us, st, cap, _, _, _, _, _, e⟩ := V.slc_inv hv; exact ⟨_, _, _, e⟩
        | own => obtain ⟨b, off, cap, arr, st, e, _⟩ := hv; exact ⟨_, _, _, e⟩
        | app => obtain ⟨b, off, cap, arr, st, e, _⟩ := hv; exact ⟨_, _, _, e⟩
      · obtain ⟨b, cap, ty, m, _, _, _, _, _, e⟩ := V.msl_inv hv; exact ⟨_, _, _, e⟩
      · obtain ⟨_, p, es, _, _, b, o', cap, st, xx, cap', _, _, e, _⟩ := live_ref hl hv; exact ⟨_, _, _, e⟩
    generalize hL1 : opdL σ y1 = A1 at hb
    generalize hL2 : opdL σ y2 = A2 at hb
    have get : A1 ≠ .undef → A2 ≠ .undef → AVR T g w σ tm (ownX y1) A1 ((Act.mk tm ds).eval x1) ∧ live σ A1 = true ∧ AVR T g w σ tm (ownX y2) A2 ((Act.mk tm ds).eval x2) ∧ live σ A2 = true := fun n1 n2 => by
      obtain ⟨a1, l1⟩ := opdL_some hL1 n1
      obtain ⟨a2, l2⟩ := opdL_some hL2 n2
      exact ⟨by rw [← a1]; exact hr1, l1, by rw [← a2]; exact hr2, l2⟩
    have gd : ∀ {va vb : Value}, (∀ cs, va ≠ .agg cs) → va ≠ .nilIface → ∀ w, (eqGuard op t x1 x2 va vb).run T.P w = .ok () w := fun {va vb} n1 n2 w => by
      rw [hop]
      cases neg <;> cases va <;> first | (simp [eqGuard]; done) | (exact absurd rfl n2) | (exact absurd rfl (n1 _))
    have gd2 : ∀ {va vb : Value}, vb ≠ .nilIface → va = .nilIface → ∀ w, (eqGuard op t x1 x2 va vb).run T.P w = .ok () w := fun {va vb} n1 n2 w => by
      subst n2
      rw [hop]
      cases neg <;> cases vb <;> first | (simp [eqGuard]; done) | (exact absurd rfl n1)
    have ptr : ∀ {e : Nat} {a1 a2 : Option Addr}, T.P.underlying t = some (.pointer e) → (Act.mk tm ds).eval x1 = .pointer a1 → (Act.mk tm ds).eval x2 = .pointer a2 → (a1 = none ∨ a2 = none) → b = (a1.isNone && a2.isNone) →
        OpYes T bar vs N g w tm (execOp (Act.mk tm ds).eval o) r := fun {e a1 a2} hu e1 e2 hn hbb => by
      exact fin e1 e2 (gd (by simp) (by simp)) (fun w => by rw [(equal_ptr hu a1 a2 hn w).1, hbb]) (fun w => by rw [(equal_ptr hu a1 a2 hn w).2, hbb])
    have slc : ∀ {e : Nat} {a1 a2 : Option Addr} {l1 c1 l2 c2 : Nat}, T.P.underlying t = some (.slice e) → (Act.mk tm ds).eval x1 = .slice a1 l1 c1 → (Act.mk tm ds).eval x2 = .slice a2 l2 c2 → (a1 = none ∨ a2 = none) → b = (a1.isNone && a2.isNone) →
        OpYes T bar vs N g w tm (execOp (Act.mk tm ds).eval o) r := fun {e a1 a2 l1 c1 l2 c2} hu e1 e2 hn hbb => by
      exact fin e1 e2 (gd (by simp) (by simp)) (fun w => by rw [(equal_slc hu a1 a2 l1 c1 l2 c2 hn w).1, hbb]) (fun w => by rw [(equal_slc hu a1 a2 l1 c1 l2 c2 hn w).2, hbb])
    have u1 : k = 1 → ∃ e, T.P.underlying t = some (.pointer e) := fun e => by subst e; unfold chkEq at hk; split at hk <;> first | exact ⟨_, by assumption⟩ | (simp at *; done) | cases hk
    have u2 : k = 2 → ∃ e, T.P.underlying t = some (.slice e) := fun e => by subst e; unfold chkEq at hk; split at hk <;> first | exact ⟨_, by assumption⟩ | (simp at *; done) | cases hk
    have u3 : k = 3 → ∃ ps rs vd, T.P.underlying t = some (.func ps rs vd) := fun e => by subst e; unfold chkEq at hk; split at hk <;> first | exact ⟨_, _, _, by assumption⟩ | (simp at *; done) | cases hk
    have u4 : k = 4 → ∃ ms, T.P.underlying t = some (.interface ms) ∧ ((∃ c, x1 = .const c) ∨ ∃ c, x2 = .const c) := fun e => by
      subst e; unfold chkEq at hk
      split at hk
      all_goals first | (cases hk; done) | (exact absurd ‹(4 : Nat) = _› (by decide)) | skip
      · rename_i ms _ hu
        refine ⟨ms, hu, ?_⟩
        simp only [Bool.or_eq_true] at hk
        rcases hk with hk | hk
        · split at hk
          · exact .inl ⟨_, rfl⟩
          · cases hk
        · split at hk
          · exact .inr ⟨_, rfl⟩
          · cases hk
    unfold eqA at hb
    split at hb
    · -- truths
      rename_i b1 b2
      simp only [Option.some.injEq] at hb
      subst hb
      obtain ⟨a1, _, a2, _⟩ := get (by simp) (by simp)
      have e1 := V.bool_inv a1
      have e2 := V.bool_inv a2
      unfold chkEq at hk
      split at hk <;> first | (cases hk; done) | skip
      all_goals first | (rename_i hu; refine fin e1 e2 (gd (by simp) (by simp)) (fun w => run_eql_bool w t _ _ hu) (fun w => run_neq_bool w t _ _ hu); done) | (simp at *; done)
    -- pointers
    · simp only [Option.some.injEq] at hb
      obtain ⟨e, hu⟩ := u1 rfl
      obtain ⟨a1, _, a2, _⟩ := get (by simp) (by simp)
      exact ptr hu (V.nilp_inv a1) (V.nilp_inv a2) (.inl rfl) hb.symm
    · simp only [Option.some.injEq] at hb
      obtain ⟨e, hu⟩ := u1 rfl
      obtain ⟨a1, _, a2, _⟩ := get (by simp) (by simp)
      obtain ⟨_, _, e2⟩ := V.ptr_inv a2
      exact ptr hu (V.nilp_inv a1) e2 (.inl rfl) hb.symm
    · simp only [Option.some.injEq] at hb
      obtain ⟨e, hu⟩ := u1 rfl
      obtain ⟨a1, _, a2, _⟩ := get (by simp) (by simp)
      obtain ⟨_, _, e1⟩ := V.ptr_inv a1
      exact ptr hu e1 (V.nilp_inv a2) (.inr rfl) hb.symm
    · simp only [Option.some.injEq] at hb
      obtain ⟨e, hu⟩ := u1 rfl
      obtain ⟨a1, _, a2, _⟩ := get (by simp) (by simp)
      obtain ⟨_, _, _, e2⟩ := V.tptr_inv a2
      exact ptr hu (V.nilp_inv a1) e2 (.inl rfl) hb.symm
    · simp only [Option.some.injEq] at hb
      obtain ⟨e, hu⟩ := u1 rfl
      obtain ⟨a1, _, a2, _⟩ := get (by simp) (by simp)
      obtain ⟨_, _, _, e1⟩ := V.tptr_inv a1
      exact ptr hu e1 (V.nilp_inv a2) (.inr rfl) hb.symm
    · simp only [Option.some.injEq] at hb
      obtain ⟨e, hu⟩ := u1 rfl
      obtain ⟨a1, _, a2, _⟩ := get (by simp) (by simp)
      obtain ⟨_, _, _, _, _, e2⟩ := V.rptr_inv a2
      exact ptr hu (V.nilp_inv a1) e2 (.inl rfl) hb.symm
    · simp only [Option.some.injEq] at hb
      obtain ⟨e, hu⟩ := u1 rfl
      obtain ⟨a1, _, a2, _⟩ := get (by simp) (by simp)
      obtain ⟨_, _, _, _, _, e1⟩ := V.rptr_inv a1
      exact ptr hu e1 (V.nilp_inv a2) (.inr rfl) hb.symm
    -- slices
    · simp only [Option.some.injEq] at hb
      obtain ⟨e, hu⟩ := u2 rfl
      obtain ⟨a1, _, a2, _⟩ := get (by simp) (by simp)
      exact slc hu (V.nils_inv a1) (V.nils_inv a2) (.inl rfl) hb.symm
    · simp only [Option.some.injEq] at hb
      obtain ⟨e, hu⟩ := u2 rfl
      obtain ⟨a1, _, a2, l2⟩ := get (by simp) (by simp)
      obtain ⟨_, _, _, e2⟩ := sl a2 l2 (.inl ⟨_, _, rfl⟩)
      exact slc hu (V.nils_inv a1) e2 (.inl rfl) hb.symm
    · simp only [Option.some.injEq] at hb
      obtain ⟨e, hu⟩ := u2 rfl
      obtain ⟨a1, l1, a2, l2⟩ := get (by simp) (by simp)
      obtain ⟨_, _, _, e1⟩ := sl a1 l1 (.inl ⟨_, _, rfl⟩)
      exact slc hu e1 (V.nils_inv a2) (.inr rfl) hb.symm
    · simp only [Option.some.injEq] at hb
      obtain ⟨e, hu⟩ := u2 rfl
      obtain ⟨a1, _, a2, l2⟩ := get (by simp) (by simp)
      obtain ⟨_, _, _, e2⟩ := sl a2 l2 (.inr (.inl ⟨_, _, _, _, rfl⟩))
      exact slc hu (V.nils_inv a1) e2 (.inl rfl) hb.symm
    · simp only [Option.some.injEq] at hb
      obtain ⟨e, hu⟩ := u2 rfl
      obtain ⟨a1, l1, a2, l2⟩ := get (by simp) (by simp)
      obtain ⟨_, _, _, e1⟩ := sl a1 l1 (.inr (.inl ⟨_, _, _, _, rfl⟩))
      exact slc hu e1 (V.nils_inv a2) (.inr rfl) hb.symm
    · simp only [Option.some.injEq] at hb
      obtain ⟨e, hu⟩ := u2 rfl
      obtain ⟨a1, _, a2, l2⟩ := get (by simp) (by simp)
      obtain ⟨_, _, _, e2⟩ := sl a2 l2 (.inr (.inr ⟨_, _, _, _, rfl⟩))
      exact slc hu (V.nils_inv a1) e2 (.inl rfl) hb.symm
    · simp only [Option.some.injEq] at hb
      obtain ⟨e, hu⟩ := u2 rfl
      obtain ⟨a1, l1, a2, l2⟩ := get (by simp) (by simp)
      obtain ⟨_, _, _, e1⟩ := sl a1 l1 (.inr (.inr ⟨_, _, _, _, rfl⟩))
      exact slc hu e1 (V.nils_inv a2) (.inr rfl) hb.symm
    -- functions
    · simp only [Option.some.injEq] at hb
      subst hb
      obtain ⟨_, _, _, hu⟩ := u3 rfl
      obtain ⟨a1, _, a2, _⟩ := get (by simp) (by simp)
      exact fin (V.nilf_inv a1) (V.nilf_inv a2) (gd (by simp) (by simp)) (fun w => (equal_fn hu w).1.1) (fun w => (equal_fn hu w).1.2)
    · simp only [Option.some.injEq] at hb
      subst hb
      obtain ⟨_, _, _, hu⟩ := u3 rfl
      obtain ⟨a1, _, a2, _⟩ := get (by simp) (by simp)
      obtain ⟨_, _, e2⟩ := V.fn_inv a2
      exact fin (V.nilf_inv a1) e2 (gd (by simp) (by simp)) (fun w => ((equal_fn hu w).2.1 _ _ _).1) (fun w => ((equal_fn hu w).2.1 _ _ _).2)
    · simp only [Option.some.injEq] at hb
      subst hb
      obtain ⟨_, _, _, hu⟩ := u3 rfl
      obtain ⟨a1, _, a2, _⟩ := get (by simp) (by simp)
      obtain ⟨_, _, e1⟩ := V.fn_inv a1
      exact fin e1 (V.nilf_inv a2) (gd (by simp) (by simp)) (fun w => ((equal_fn hu w).2.2 _ _ _).1) (fun w => ((equal_fn hu w).2.2 _ _ _).2)
    -- interfaces
    · simp only [Option.some.injEq] at hb
      subst hb
      obtain ⟨_, hu, hcn⟩ := u4 rfl
      obtain ⟨a1, _, a2, _⟩ := get (by simp) (by simp)
      refine fin (V.nili_inv a1) (V.nili_inv a2) ?_ (fun w => (equal_ifc hu w).1.1) (fun w => (equal_ifc hu w).1.2)
      rcases hcn with ⟨c, rfl⟩ | ⟨c, rfl⟩
      · rw [hop]; cases neg <;> simp [eqGuard]
      · rw [hop]; cases neg <;> cases x1 <;> simp [eqGuard]
    · simp only [Option.some.injEq] at hb
      subst hb
      obtain ⟨_, hu, _⟩ := u4 rfl
      obtain ⟨a1, _, a2, _⟩ := get (by simp) (by simp)
      obtain ⟨_, _, e2⟩ := V.ifc_inv a2
      exact fin (V.nili_inv a1) e2 (gd2 (by simp) rfl) (fun w => ((equal_ifc hu w).2.1 _ _).1) (fun w => ((equal_ifc hu w).2.1 _ _).2)
    · simp only [Option.some.injEq] at hb
      subst hb
      obtain ⟨_, hu, _⟩ := u4 rfl
      obtain ⟨a1, _, a2, _⟩ := get (by simp) (by simp)
      obtain ⟨_, _, e1⟩ := V.ifc_inv a1
      exact fin e1 (V.nili_inv a2) (gd (by simp) (by simp)) (fun w => ((equal_ifc hu w).2.2 _ _).1) (fun w => ((equal_ifc hu w).2.2 _ _).2)
    · cases hb
  · cases he

theorem op_eqG (h : Rel T vs N g w σ tm) {x1 x2 : Operand} {y1 y2 : Opd} {op : BinOp} {neg : Bool} {t ty : Nat} {ks : List Nat} {call : CallF} (ho : o.op = .binOp op t x1 x2 ty) (hop : op = if neg then .neq else .eql) (h1 : chkX T vs N x1 y1 = true) (h2 : chkX T vs N x2 y2 = true)
    (hk : chkAgg T.P t ks = true) (he : evOp call bar (.eqG neg ks y1 y2) σ = some r) : OpYes T bar vs N g w tm (execOp (Act.mk tm ds).eval o) r := by
  simp only [evOp] at he
  split at he
  · rename_i xs ys e1 e2
    split at he
    · rename_i b hb
      simp only [Option.some.injEq] at he
      obtain ⟨us1, j1, _, v1⟩ := (opd_V (ds := ds) h h1 e1 rfl).agg_inv
      obtain ⟨us2, j2, _, v2⟩ := (opd_V (ds := ds) h h2 e2 rfl).agg_inv
      have hgt : T.P.eqGuardType T.P.depth t = false := by
        unfold chkAgg at hk
        simp only [Bool.and_eq_true, Bool.not_eq_true'] at hk
        exact hk.1
      refine ok_y (v := .bool (bif neg then !b else b)) (fun w' => ?_) h he.symm (.of_V (.bool _))
      have hq := run_equalIn_aggs (w := w) hk hb j1 j2 9998 w'
      have k1 := run_eql_struct (P := T.P) w' t us1.toArray us2.toArray
      have k2 := run_neq_struct (P := T.P) w' t us1.toArray us2.toArray
      rw [hq] at k1 k2
      have := run_eqop (x := x1) (y := x2) hop (run_eqGuard_agg w' op t x1 x2 _ _ hgt) k1 k2
      simp only [execOp, ho, v1, v2, Sem.run_bind] at this ⊢
      simp only [this, Result.andThen_ok, Sem.run_pure]
    · cases he
  · cases he

end
end Go.Ak

namespace Go.Ak

def chkCs : List AV → List Value → Bool
  | [], [] => true
  | a :: as, v :: vs => chkC a v && chkCs as vs
  | _, _ => false

theorem chkC_one {a : AV} {v : Value} (h : chkC a v = true) : v.oneCell' = true := by
  unfold chkC at h
  split at h <;> first | rfl | cases h

theorem chkCs_Vs {T : Tr} {g : Gh} {w : World} : ∀ {as : List AV} {vs : List Value}, chkCs as vs = true → Vs T g w as vs ∧ ∀ v ∈ vs, v.oneCell' = true
  | [], [], _ => ⟨.nil, by simp⟩
  | [], _ :: _, h => by simp [chkCs] at h
  | _ :: _, [], h => by simp [chkCs] at h
  | a :: as, v :: vs, h => by
    simp only [chkCs, Bool.and_eq_true] at h
    obtain ⟨h1, h2⟩ := chkCs_Vs (T := T) (g := g) (w := w) h.2
    refine ⟨.cons _ _ _ _ (chkC_V h.1) h1, fun x hx => ?_⟩
    rcases List.mem_cons.1 hx with rfl | hx
    · exact chkC_one h.1
    · exact h2 x hx

/-- A type's zero value, cell by cell. -/
def chkZ (P : Program) (t : Nat) (z : List AV) : Bool :=
  match P.info? t with
  | some i => match i.zero with
    | some v => chkCs z v.cells.toList
    | none => false
  | none => false

section
variable {T : Tr} {bar : Nat} {vs : List Nat} {N : Nat} {g : Gh} {w : World} {σ : St} {tm : Array Value} {ds : List Deferred} {o : Oper} {r : OpR}

theorem chkZ_get {P : Program} {t : Nat} {z : List AV} (h : chkZ P t z = true) : ∃ i v, P.info? t = some i ∧ i.zero = some v ∧ chkCs z v.cells.toList = true := by
  unfold chkZ at h
  split at h
  · rename_i i hi
    split at h
    · rename_i v hv; exact ⟨i, v, hi, hv, h⟩
    · cases h
  · cases h

theorem run_zero {P : Program} {t : Nat} {i : TypeInfo} {v : Value} (h1 : P.info? t = some i) (h2 : i.zero = some v) (w : World) : (zeroValue t).run P w = .ok v w := by simp [zeroValue, typeInfo, h1, h2]

/-- A world with one block more. -/
structure More (w w1 : World) (ob : Obj) : Prop where
  heap : w1.heap = w.heap.push ob
  os : w1.os = w.os
  out : (w1.output, w1.tape) = (w.output, w.tape)

theorem More.old {w w1 : World} {ob : Obj} (h : More w w1 ob) {b : Nat} (hb : b < w.heap.size) : w1.heap[b]? = w.heap[b]? := by
  rw [h.heap, Array.getElem?_push]
  simp only [show b ≠ w.heap.size by omega, if_false]

theorem More.new {w w1 : World} {ob : Obj} (h : More w w1 ob) : w1.heap[w.heap.size]? = some ob := by
  rw [h.heap, Array.getElem?_push]; simp

theorem More.size {w w1 : World} {ob : Obj} (h : More w w1 ob) : w1.heap.size = w.heap.size + 1 := by rw [h.heap]; simp

theorem More.ext {w1 : World} {ob : Obj} (h : More w w1 ob) {H : Heap} (hf : HeapR T g w H) (g' : Gh) (hS : ∀ b, b < w.heap.size → g'.S b = g.S b) (hS' : ∀ b, g.S b ≤ g'.S b) (hown : ∀ b, b < w.heap.size → g'.own b = g.own b) (hob : ∀ id b, g.ob id = some b → g'.ob id = some b) : Ext bar g w g' w1 where
  size := by rw [h.size]; omega
  S := hS'
  cell b off hb := by
    have hlt : b < w.heap.size := by
      rcases Nat.lt_or_ge b w.heap.size with h' | h'
      · exact h'
      · have := (hf.fresh b h').2; omega
    simp only [World.cell?, h.old hlt]
  ob := hob
  shape b x hx := by
    have hlt : b < w.heap.size := by
      rcases Nat.lt_or_ge b w.heap.size with h' | h'
      · exact h'
      · simp [World.shape?, Array.getElem?_eq_none h'] at hx
    simp only [World.shape?, h.old hlt] at hx ⊢
    exact hx
  kept b hb := by
    have hlt : b < w.heap.size := lt_of_own hf (by rw [hb]; simp)
    exact ⟨by rw [hown b hlt, hb], hS b hlt, h.old hlt⟩
  low id b _ _ hb := by
    have hlt : b < w.heap.size := lt_of_own hf (by rw [hb]; simp)
    exact ⟨by rw [hown b hlt, hb], hS b hlt, h.old hlt⟩
  os := h.os
  out := h.out

/-- A new block that the result holds. -/
theorem Rel.more {w1 : World} {ob : Obj} (h : Rel T vs N g w σ tm) (hm : More w w1 ob) : Ext bar g w (g.give w.heap.size .res) w1 ∧ Rel T vs N (g.give w.heap.size .res) w1 σ tm ∧ (g.give w.heap.size .res).own w.heap.size = .res ∧ (g.give w.heap.size .res).S w.heap.size = 0 := by
  have hown : ∀ b, b < w.heap.size → (g.give w.heap.size .res).own b = g.own b := fun b hb => by simp only [Gh.give]; rw [if_neg (by omega)]
  have he : ∀ bar, Ext bar g w (g.give w.heap.size .res) w1 := fun bar => hm.ext h.heap _ (fun _ _ => rfl) (fun _ => Nat.le_refl _) hown (fun _ _ h => h)
  refine ⟨he bar, ?_, by simp [Gh.give], (h.heap.fresh w.heap.size (Nat.le_refl _)).2⟩
  have key : ∀ b, g.own b ≠ .free → (g.give w.heap.size .res).own b = g.own b ∧ (g.give w.heap.size .res).S b = g.S b ∧ w1.heap[b]? = w.heap[b]? := fun b hb => by
    have hlt := lt_of_own h.heap hb
    exact ⟨hown b hlt, rfl, hm.old hlt⟩
  refine h.frame (H' := σ.H) (he 0) (fun b t hb _ => ?_) (fun b t hb _ => ?_) ?_
  · obtain ⟨k1, k2, k3⟩ := key b (by rw [hb]; simp); exact ⟨by rw [k1, hb], k2, k3⟩
  · obtain ⟨k1, k2, k3⟩ := key b (by rw [hb]; simp); exact ⟨by rw [k1, hb], k2, k3⟩
  · refine h.heap.frame (he 0) (fun b id hb => ?_) rfl fun b hb => ?_
    · obtain ⟨k1, k2, k3⟩ := key b (by rw [hb]; simp); exact ⟨by rw [k1, hb], k2, k3⟩
    · rw [hm.size] at hb
      obtain ⟨k1, k2⟩ := h.heap.fresh b (by omega)
      exact ⟨by simp only [Gh.give]; rw [if_neg (by omega)]; exact k1, k2⟩

/-- A new object. -/
def Gh.obj (g : Gh) (id b : Nat) : Gh := { g with ob := fun x => if x = id then some b else g.ob x, own := fun x => if x = b then .obj id else g.own x }

theorem Rel.newObj {w1 : World} {arr : Array Value} {ty : TypeId} {fz : Nat × Nat} {cs : List AV} (h : Rel T vs N g w σ tm) (hm : More w w1 (.cells arr ty fz)) (hfz : ∀ k, k < arr.size → ¬ (fz.1 ≤ k ∧ k < fz.2)) (hone : ∀ v ∈ arr.toList, v.oneCell' = true)
    (hv : Vs T g w cs (arr.toList.take cs.length)) (hl : cs.length ≤ arr.size) :
    Ext bar g w (g.obj σ.H.length w.heap.size) w1 ∧ Rel T vs N (g.obj σ.H.length w.heap.size) w1 { σ with H := σ.H ++ [some cs] } tm ∧ (g.obj σ.H.length w.heap.size).ob σ.H.length = some w.heap.size := by
  have hown : ∀ b, b < w.heap.size → (g.obj σ.H.length w.heap.size).own b = g.own b := fun b hb => by simp only [Gh.obj]; rw [if_neg (by omega)]
  have hob : ∀ id b, g.ob id = some b → (g.obj σ.H.length w.heap.size).ob id = some b := fun id b hb => by
    have := h.heap.ob id b hb
    simp only [Gh.obj]; rw [if_neg (by omega)]; exact hb
  have he : ∀ bar, Ext bar g w (g.obj σ.H.length w.heap.size) w1 := fun bar => hm.ext h.heap _ (fun _ _ => rfl) (fun _ => Nat.le_refl _) hown hob
  refine ⟨he bar, ?_, by simp [Gh.obj]⟩
  have key : ∀ b, g.own b ≠ .free → (g.obj σ.H.length w.heap.size).own b = g.own b ∧ (g.obj σ.H.length w.heap.size).S b = g.S b ∧ w1.heap[b]? = w.heap[b]? := fun b hb => by
    have hlt := lt_of_own h.heap hb
    exact ⟨hown b hlt, rfl, hm.old hlt⟩
  refine h.frame (H' := σ.H ++ [some cs]) (he 0) (fun b t hb _ => ?_) (fun b t hb _ => ?_) ⟨fun id cs' hc => ?_, fun id b hb => ?_, fun b hb => ?_, fun b x hx => by
    obtain ⟨k1, k2⟩ := h.heap.gl b x hx
    obtain ⟨j1, _, j3⟩ := key b (by rw [k1]; simp)
    exact ⟨j1.trans k1, j3.trans k2⟩⟩
  · obtain ⟨k1, k2, k3⟩ := key b (by rw [hb]; simp); exact ⟨by rw [k1, hb], k2, k3⟩
  · obtain ⟨k1, k2, k3⟩ := key b (by rw [hb]; simp); exact ⟨by rw [k1, hb], k2, k3⟩
  · rw [List.getElem?_append] at hc
    split at hc
    · obtain ⟨b, arr', k1, ⟨k2, k3, k4⟩, k5, k6⟩ := h.heap.objs id cs' hc
      obtain ⟨j1, j2, j3⟩ := key b (by rw [k2]; simp)
      exact ⟨b, arr', hob id b k1, ⟨by rw [j1, k2], by rw [j2]; exact k3, k4.congr j3⟩, Vs.mono (he 0) k5, k6⟩
    · rename_i hlt
      have hid : id = σ.H.length := by
        have := (List.getElem?_eq_some_iff.1 hc).1
        simp at this; omega
      subst hid
      simp at hc
      subst hc
      refine ⟨w.heap.size, arr, by simp [Gh.obj], ⟨by simp [Gh.obj], (h.heap.fresh _ (Nat.le_refl _)).2, ⟨⟨ty, fz, hm.new⟩, fun k hk => ?_, hone⟩⟩, Vs.mono (he 0) hv, hl⟩
      simp only [World.frozen?, hm.new]
      have := hfz k hk
      simp only [Bool.and_eq_false_iff, decide_eq_false_iff_not]
      omega
  · simp only [Gh.obj] at hb
    simp only [List.length_append, List.length_cons, List.length_nil]
    split at hb
    · omega
    · have := h.heap.ob id b hb; omega
  · rw [hm.size] at hb
    obtain ⟨k1, k2⟩ := h.heap.fresh b (by omega)
    exact ⟨by simp only [Gh.obj]; rw [if_neg (by omega)]; exact k1, k2⟩

theorem more_alloc (w : World) (ob : Obj) : More w (w.alloc ob) ob := ⟨rfl, rfl, rfl⟩

/-- The block of a new row of cells is nobody's but its holder's. -/
theorem excl_new {w1 : World} {arr : Array Value} {ty : TypeId} {fz : Nat × Nat} {ow : Own} {g' : Gh} (hm : More w w1 (.cells arr ty fz)) (hfz : ∀ k, k < arr.size → ¬ (fz.1 ≤ k ∧ k < fz.2)) (hone : ∀ v ∈ arr.toList, v.oneCell' = true)
    (h1 : g'.own w.heap.size = ow) (h2 : g'.S w.heap.size = 0) : excl g' w1 ow w.heap.size arr := by
  refine ⟨h1, h2, ⟨⟨ty, fz, hm.new⟩, fun k hk => ?_, hone⟩⟩
  simp only [World.frozen?, hm.new]
  have := hfz k hk
  simp only [Bool.and_eq_false_iff, decide_eq_false_iff_not]
  omega

theorem run_newVar {P : Program} (w : World) (t : Nat) (v : Value) : (newVar t v).run P w = .ok ⟨w.heap.size, 0, none⟩ (w.alloc (.cells v.cells t)) := by simp [newVar, Go.newRow]

theorem op_allocL (h : Rel T vs N g w σ tm) {t : Nat} {z : List AV} {call : CallF} (ho : o.op = .alloc t) (hz : chkZ T.P t z = true) (he : evOp call bar (.allocL z) σ = some r) :
    OpOKr T ((execOp (Act.mk tm ds).eval o).run T.P w) (OpPost T bar vs N g w tm r) (PanPost T bar vs N g w tm r) := by
  simp only [evOp, Option.some.injEq] at he
  obtain ⟨i, v, hi, hzv, hc⟩ := chkZ_get hz
  obtain ⟨h1, h2⟩ := chkCs_Vs (T := T) (g := g) (w := w) hc
  obtain ⟨e1, e2, e3, e4⟩ := h.more (bar := bar) (more_alloc w (.cells v.cells t))
  refine ok_val' (v := .pointer (some ⟨w.heap.size, 0, none⟩)) (w' := w.alloc (.cells v.cells t)) ?_ he.symm e1 e2 (AVR.of_SV ?_)
  · simp [execOp, ho, Instr.alloc, run_zero hi hzv, run_newVar]
  · exact ⟨w.heap.size, v.cells, rfl, excl_new (more_alloc w _) (fun k _ => by simp) h2 e3 e4, Vs.mono e1 h1⟩

theorem op_allocH (h : Rel T vs N g w σ tm) {t : Nat} {z : List AV} {call : CallF} (ho : o.op = .alloc t) (hz : chkZ T.P t z = true) (he : evOp call bar (.allocH z) σ = some r) :
    OpOKr T ((execOp (Act.mk tm ds).eval o).run T.P w) (OpPost T bar vs N g w tm r) (PanPost T bar vs N g w tm r) := by
  simp only [evOp, Ak.newObj, Option.some.injEq] at he
  obtain ⟨i, v, hi, hzv, hc⟩ := chkZ_get hz
  obtain ⟨h1, h2⟩ := chkCs_Vs (T := T) (g := g) (w := w) hc
  have hl := h1.length
  obtain ⟨e1, e2, e3⟩ := h.newObj (bar := bar) (cs := z) (more_alloc w (.cells v.cells t)) (fun k _ => by simp) h2 (by rw [List.take_of_length_le (by omega)]; exact h1) (by simp at hl; omega)
  refine ok_val' (v := .pointer (some ⟨w.heap.size, 0, none⟩)) (w' := w.alloc (.cells v.cells t)) ?_ he.symm e1 e2 (.of_V (.ptr _ _ _ e3))
  simp [execOp, ho, Instr.alloc, run_zero hi hzv, run_newVar]


theorem op_allocT (h : Rel T vs N g w σ tm) {t ty : Nat} {z : List AV} {call : CallF} (ho : o.op = .alloc t) (hz : chkZ T.P t z = true) (ht : T.tm ty = t) (he : evOp call bar (.allocT ty z) σ = some r) :
    OpOKr T ((execOp (Act.mk tm ds).eval o).run T.P w) (OpPost T bar vs N g w tm r) (PanPost T bar vs N g w tm r) := by
  simp only [evOp, Option.some.injEq] at he
  obtain ⟨i, v, hi, hzv, hc⟩ := chkZ_get hz
  obtain ⟨h1, h2⟩ := chkCs_Vs (T := T) (g := g) (w := w) hc
  have hl := h1.length
  obtain ⟨e1, e2, e3⟩ := h.newObj (bar := bar) (cs := z) (more_alloc w (.cells v.cells t)) (fun k _ => by simp) h2 (by rw [List.take_of_length_le (by omega)]; exact h1) (by simp at hl; omega)
  refine ok_val' (v := .pointer (some ⟨w.heap.size, 0, none⟩)) (w' := w.alloc (.cells v.cells t)) ?_ he.symm e1 e2 (.of_V (.tptr ty _ _ _ _ e3 (by rw [ht, World.shape?, (more_alloc w (.cells v.cells t)).new]; simp; simpa using hl.symm)))
  simp [execOp, ho, Instr.alloc, run_zero hi hzv, run_newVar]

theorem op_boxL (h : Rel T vs N g w σ tm) {t : Nat} {x : Operand} {y : Opd} {call : CallF} (ho : o.op = .box t x) (hc : chkX T vs N x y = true) (he : evOp call bar (.boxL y) σ = some r) :
    OpOKr T ((execOp (Act.mk tm ds).eval o).run T.P w) (OpPost T bar vs N g w tm r) (PanPost T bar vs N g w tm r) := by
  simp only [evOp] at he
  split at he
  · rename_i a σ' hq
    simp only [Option.some.injEq] at he
    obtain ⟨g1, e1, e2, e3, e4, e5, _⟩ := esc_rel (ds := ds) (bar := bar) h hc hq
    obtain ⟨h1, h2⟩ := V.cells e3 (V.defined e4) e5
    obtain ⟨k1, k2, k3, k4⟩ := e2.more (bar := bar) (more_alloc w (.cells ((Act.mk tm ds).eval x).cells t))
    refine ok_val' (v := .pointer (some ⟨w.heap.size, 0, none⟩)) (w' := w.alloc (.cells ((Act.mk tm ds).eval x).cells t)) ?_ he.symm (e1.trans k1) k2 (AVR.of_SV ?_)
    · simp [execOp, ho, Instr.box, run_newVar]
    · exact ⟨w.heap.size, _, rfl, excl_new (more_alloc w _) (fun k _ => by simp) h2 k3 k4, Vs.mono k1 h1⟩
  · cases he

theorem op_boxH (h : Rel T vs N g w σ tm) {t : Nat} {x : Operand} {y : Opd} {call : CallF} (ho : o.op = .box t x) (hc : chkX T vs N x y = true) (he : evOp call bar (.boxH y) σ = some r) :
    OpOKr T ((execOp (Act.mk tm ds).eval o).run T.P w) (OpPost T bar vs N g w tm r) (PanPost T bar vs N g w tm r) := by
  simp only [evOp] at he
  split at he
  · rename_i a σ' hq
    simp only [Ak.newObj, Option.some.injEq] at he
    obtain ⟨g1, e1, e2, e3, e4, e5, _⟩ := esc_rel (ds := ds) (bar := bar) h hc hq
    obtain ⟨h1, h2⟩ := V.cells e3 (V.defined e4) e5
    have hl := h1.length
    obtain ⟨k1, k2, k3⟩ := e2.newObj (bar := bar) (cs := a.cells) (more_alloc w (.cells ((Act.mk tm ds).eval x).cells t)) (fun k _ => by simp) h2 (by rw [List.take_of_length_le (by omega)]; exact h1) (by simp at hl; omega)
    refine ok_val' (v := .pointer (some ⟨w.heap.size, 0, none⟩)) (w' := w.alloc (.cells ((Act.mk tm ds).eval x).cells t)) ?_ he.symm (e1.trans k1) k2 (.of_V (.ptr _ _ _ k3))
    simp [execOp, ho, Instr.box, run_newVar]
  · cases he


theorem op_boxT (h : Rel T vs N g w σ tm) {t ty : Nat} {x : Operand} {y : Opd} {call : CallF} (ho : o.op = .box t x) (hc : chkX T vs N x y = true) (ht : T.tm ty = t) (he : evOp call bar (.boxT ty y) σ = some r) :
    OpOKr T ((execOp (Act.mk tm ds).eval o).run T.P w) (OpPost T bar vs N g w tm r) (PanPost T bar vs N g w tm r) := by
  simp only [evOp] at he
  split at he
  · rename_i a σ' hq
    simp only [Option.some.injEq] at he
    obtain ⟨g1, e1, e2, e3, e4, e5, _⟩ := esc_rel (ds := ds) (bar := bar) h hc hq
    obtain ⟨h1, h2⟩ := V.cells e3 (V.defined e4) e5
    have hl := h1.length
    obtain ⟨k1, k2, k3⟩ := e2.newObj (bar := bar) (cs := a.cells) (more_alloc w (.cells ((Act.mk tm ds).eval x).cells t)) (fun k _ => by simp) h2 (by rw [List.take_of_length_le (by omega)]; exact h1) (by simp at hl; omega)
    refine ok_val' (v := .pointer (some ⟨w.heap.size, 0, none⟩)) (w' := w.alloc (.cells ((Act.mk tm ds).eval x).cells t)) ?_ he.symm (e1.trans k1) k2 (.of_V (.tptr ty _ _ _ _ k3 (by rw [ht, World.shape?, (more_alloc w (.cells ((Act.mk tm ds).eval x).cells t)).new]; simp; simpa using hl.symm)))
    simp [execOp, ho, Instr.box, run_newVar]
  · cases he

end
end Go.Ak

namespace Go.Ak
section
variable {T : Tr} {bar : Nat} {vs : List Nat} {N : Nat} {g : Gh} {w : World} {σ : St} {tm : Array Value} {ds : List Deferred} {o : Oper} {r : OpR}

theorem run_mapM_list {P : Program} {α β : Type} (f : α → Sem β) (gg : α → β) (w : World) : ∀ (l : List α), (∀ x ∈ l, (f x).run P w = .ok (gg x) w) → (l.mapM f).run P w = .ok (l.map gg) w
  | [], _ => by simp
  | x :: l, h => by
    have ih := run_mapM_list f gg w l fun y hy => h y (by simp [hy])
    simp [List.mapM_cons, h x (by simp), ih]

theorem run_mapM_array {P : Program} {α β : Type} (f : α → Sem β) (gg : α → β) (w : World) (l : Array α) (h : ∀ x ∈ l.toList, (f x).run P w = .ok (gg x) w) : (l.mapM f).run P w = .ok (l.map gg) w := by
  have := run_mapM_list (P := P) f gg w l.toList h
  rw [Array.mapM_eq_mapM_toList]
  simp only [Sem.run_map, this, Result.andThen_ok]
  congr 1
  apply Array.ext'
  simp

theorem fold_setVals (off : Nat) : ∀ (us : List Value) (j : Nat) (cs : Array Value), (us.zipIdx j).foldl (fun cs (c, j) => cs.setIfInBounds (off + j) c) cs = (setVals cs.toList (off + j) us).toArray
  | [], j, cs => by simp [setVals]
  | u :: us, j, cs => by
    simp only [List.zipIdx_cons, List.foldl_cons]
    rw [fold_setVals off us (j + 1)]
    simp only [setVals, Array.toList_setIfInBounds]
    rw [Nat.add_assoc]

theorem fold_setVals_arr (off : Nat) (us : Array Value) (cs : Array Value) : us.zipIdx.foldl (fun cs (c, j) => cs.setIfInBounds (off + j) c) cs = (setVals cs.toList off us.toList).toArray := by
  rw [← Array.foldl_toList]
  have := fold_setVals off us.toList 0 cs
  simpa using this

/-- One part laid. -/
theorem fill_cons {place : Nat → Option (Nat × Nat)} {i off n : Nat} (hp : place i = some (off, n)) {v : Value} (hn : v.cells.size = n) {cells : Array Value} (hle : off + n ≤ cells.size) (rest : List (Nat × Value)) :
    Instr.fill place cells ((i, v) :: rest) = Instr.fill place (setVals cells.toList off v.cells.toList).toArray rest := by
  have h1 : ¬ (v.cells.size ≠ n) := by simp [hn]
  have h2 : ¬ (off + v.cells.size > cells.size) := by omega
  simp only [Instr.fill, hp, fold_setVals_arr, hn, ne_eq, not_true_eq_false, decide_false, Bool.false_or, decide_eq_true_eq]
  rw [if_neg (by omega)]

def chkParts (T : Tr) (vs : List Nat) (N : Nat) (place : Nat → Option (Nat × Nat)) : List (Nat × Operand) → List (Nat × Nat × Opd) → Bool
  | [], [] => true
  | (i, x) :: ps, (off, n, y) :: qs => place i == some (off, n) && chkX T vs N x y && chkParts T vs N place ps qs
  | _, _ => false

theorem fill_rel {place : Nat → Option (Nat × Nat)} : ∀ {ps : List (Nat × Operand)} {qs : List (Nat × Nat × Opd)} {g : Gh} {σ : St} (_ : Rel T vs N g w σ tm) (_ : chkParts T vs N place ps qs = true) {cs out : List AV} {σ' : St} {cells : List Value}
    (_ : Vs T g w cs cells) (_ : ∀ v ∈ cells, v.oneCell' = true) (_ : fillA cs σ qs = some (out, σ')),
    ∃ g' us, Ext bar g w g' w ∧ Rel T vs N g' w σ' tm ∧ Vs T g' w out us ∧ (∀ v ∈ us, v.oneCell' = true) ∧ Instr.fill place cells.toArray (ps.map fun p => (p.1, (Act.mk tm ds).eval p.2)) = some us.toArray ∧ us.length = cells.length ∧ σ'.H = σ.H
  | [], [], g, σ, h, _, cs, out, σ', cells, hv, h1, he => by
    simp only [fillA, Option.some.injEq, Prod.mk.injEq] at he
    obtain ⟨rfl, rfl⟩ := he
    exact ⟨g, cells, .refl _ _ _, h, hv, h1, rfl, rfl, rfl⟩
  | [], _ :: _, _, _, _, hc, _, _, _, _, _, _, _ => by simp [chkParts] at hc
  | _ :: _, [], _, _, _, hc, _, _, _, _, _, _, _ => by simp [chkParts] at hc
  | (i, x) :: ps, (off, n, y) :: qs, g, σ, h, hc, cs, out, σ', cells, hv, h1, he => by
    simp only [chkParts, Bool.and_eq_true, beq_iff_eq] at hc
    obtain ⟨⟨hp, hx⟩, hc⟩ := hc
    simp only [fillA] at he
    split at he
    · rename_i a σ1 hq
      obtain ⟨g1, e1, e2, e3, e4, e5, e6, _⟩ := esc_rel (ds := ds) (bar := bar) h hx hq
      cases hb : (Nat.beq a.cells.length n && Nat.ble (off + n) cs.length) with
      | false => rw [hb] at he; simp at he
      | true =>
        rw [hb] at he
        simp only [cond_true] at he
        simp only [Bool.and_eq_true] at hb
        have hn := beq_nat hb.1
        have hle := Nat.le_of_ble_eq_true hb.2
        obtain ⟨k1, k2⟩ := V.cells e3 (V.defined e4) e5
        have hl := k1.length
        have hv' := Vs.mono e1 hv
        obtain ⟨g2, us, j1, j2, j3, j4, j5, j6, j7⟩ := fill_rel e2 hc (Vs.setCells k1 off hv') (fun v hv => (setVals_mem _ _ _ _ hv).elim (h1 v) (k2 v)) he
        refine ⟨g2, us, e1.trans j1, j2, j3, j4, ?_, ?_, j7.trans e6⟩
        · simp only [List.map_cons]
          have hsz : ((Act.mk tm ds).eval x).cells.size = n := by rw [← hn, hl]; simp
          rw [fill_cons hp hsz (by rw [hv.length] at hle; simpa using hle)]
          exact j5
        · rw [j6, setVals_length]
    · cases he

def placeS (P : Program) (fs : Array Field) (i : Nat) : Option (Nat × Nat) := (fs[i]?).map fun f => (f.offset, P.cellsOf f.type)

def chkBuild (T : Tr) (vs : List Nat) (N : Nat) (t : Nat) (ps : Array (Nat × Operand)) (z : List AV) (qs : List (Nat × Nat × Opd)) : Bool :=
  chkZ T.P t z && match T.P.underlying t with
  | some (.struct fs) => fs.toList.all (fun f => (T.P.info? f.type).isSome) && chkParts T vs N (placeS T.P fs) ps.toList qs
  | some (.array _ e) => match T.P.info? e with
    | some i => chkParts T vs N (fun k => some (k * i.size, i.size)) ps.toList qs
    | none => false
  | _ => false

theorem op_build (h : Rel T vs N g w σ tm) {t : Nat} {ps : Array (Nat × Operand)} {z : List AV} {qs : List (Nat × Nat × Opd)} {call : CallF} (ho : o.op = .build t ps) (hc : chkBuild T vs N t ps z qs = true) (he : evOp call bar (.build z qs) σ = some r) :
    OpYes T bar vs N g w tm (execOp (Act.mk tm ds).eval o) r := by
  unfold chkBuild at hc
  simp only [Bool.and_eq_true] at hc
  obtain ⟨hz, hc⟩ := hc
  obtain ⟨inf, zv, hi, hzv, hcs⟩ := chkZ_get hz
  obtain ⟨h1, h2⟩ := chkCs_Vs (T := T) (g := g) (w := w) hcs
  simp only [evOp] at he
  split at he
  · rename_i cs σ' hq
    simp only [Option.some.injEq] at he
    have hlist : (ps.map fun (i, x) => (i, (Act.mk tm ds).eval x)).toList = ps.toList.map fun p => (p.1, (Act.mk tm ds).eval p.2) := by simp
    split at hc
    · rename_i fs hu
      simp only [Bool.and_eq_true] at hc
      obtain ⟨hinf, hp⟩ := hc
      obtain ⟨g', us, e1, e2, e3, e4, e5, _, _⟩ := fill_rel (ds := ds) (bar := bar) h hp h1 h2 hq
      refine ok_y' (v := .agg us.toArray) (fun w' => ?_) he.symm e1 e2 (.of_V (.agg cs us e3 e4))
      have hm := run_mapM_array (P := T.P) (fun f : Field => do pure (f.offset, ← sizeOf f.type)) (fun f => (f.offset, T.P.cellsOf f.type)) w' fs (fun f hf => by
        obtain ⟨i, hi⟩ := Option.isSome_iff_exists.1 ((List.all_eq_true.1 hinf) f hf)
        simp [run_sizeOf' hi, Program.cellsOf, hi])
      have hpl : (fun i => (fs.map fun f => (f.offset, T.P.cellsOf f.type))[i]?) = placeS T.P fs := by
        funext i
        simp [placeS]
      simp only [Array.toArray_toList] at e5
      simp only [execOp, ho, Instr.build, Sem.run_bind, run_zero hi hzv, Result.andThen_ok, run_underlying hu, hm, hpl, hlist, e5, Sem.run_pure]
    · rename_i n e hu
      split at hc
      · rename_i ei hei
        obtain ⟨g', us, e1, e2, e3, e4, e5, _, _⟩ := fill_rel (ds := ds) (bar := bar) h hc h1 h2 hq
        refine ok_y' (v := .agg us.toArray) (fun w' => ?_) he.symm e1 e2 (.of_V (.agg cs us e3 e4))
        simp only [Array.toArray_toList] at e5
        simp only [execOp, ho, Instr.build, Sem.run_bind, run_zero hi hzv, Result.andThen_ok, run_underlying hu, run_sizeOf' hei, hlist, e5, Sem.run_pure]
      · cases hc
    · cases hc
  · cases he

end
end Go.Ak

namespace Go.Ak

theorem setCells_eq : ∀ (bs xs : List AV) (off : Nat), off + bs.length ≤ xs.length → setCells xs off bs = xs.take off ++ bs ++ xs.drop (off + bs.length)
  | [], xs, off, _ => by simp [setCells]
  | b :: bs, xs, off, h => by
    simp only [List.length_cons] at h
    simp only [setCells]
    rw [setCells_eq bs (xs.set off b) (off + 1) (by simp; omega)]
    have h1 : (xs.set off b).take (off + 1) = xs.take off ++ [b] := by
      rw [List.take_add_one, List.take_set_of_le (Nat.le_refl _), List.getElem?_set_self (by omega)]
      rfl
    rw [h1, List.drop_set_of_lt (by omega)]
    simp [Nat.add_comm 1, Nat.add_assoc]

theorem flat_set_eq {st : Nat} {es : List AV} {i : Nat} {e' : AV} (hu : ∀ e ∈ es, e.cells.length = st) (hi : i < es.length) (hl : e'.cells.length = st) : flat (es.set i e') = setCells (flat es) (i * st) e'.cells := by
  have hfl := flat_length hu
  have hmul : i * st + st ≤ es.length * st := by rw [← Nat.succ_mul]; exact Nat.mul_le_mul_right _ hi
  rw [flat_set hu (List.getElem?_eq_getElem hi) hl, setCells_eq _ _ _ (by omega), hl]

theorem flat_replicate (z : AV) (n : Nat) : flat (List.replicate n z) = (List.replicate n z.cells).flatten := by
  simp [flat, List.flatMap_replicate]

/-- The cells of 'n' zero values. -/
theorem made_rep (z : List Value) (hz : 0 < z.length) : ∀ (n : Nat), (madeCells z.toArray (n * z.length)).toList = (List.replicate n z).flatten
  | 0 => by simp [madeCells]
  | n + 1 => by
    have ih := made_rep z hz n
    simp only [List.replicate_succ', List.flatten_append, List.flatten_cons, List.flatten_nil, List.append_nil, ← ih]
    apply List.ext_getElem?
    intro k
    simp only [madeCells, Array.toList_map, Array.toList_range, List.getElem?_map, List.getElem?_append, List.length_map, List.length_range, List.size_toArray]
    have hn : (n + 1) * z.length = n * z.length + z.length := Nat.succ_mul _ _
    by_cases h1 : k < n * z.length
    · have h2 : k < (n + 1) * z.length := by omega
      simp [h1, h2]
    · by_cases h2 : k < (n + 1) * z.length
      · have h3 : k % z.length = k - n * z.length := by
          obtain ⟨j, rfl⟩ : ∃ j, k = n * z.length + j := ⟨k - n * z.length, by omega⟩
          rw [Nat.mul_comm, Nat.mul_add_mod, Nat.mod_eq_of_lt (by omega)]
          rw [Nat.mul_comm z.length n]; omega
        have h4 : k - n * z.length < z.length := by omega
        simp [h1, h2, h3, h4]
      · have h4 : ¬ k - n * z.length < z.length := by omega
        simp [h1, h2, List.getElem?_eq_none (Nat.le_of_not_lt h4)]

theorem Vs.flatten_rep {T : Tr} {g : Gh} {w : World} {cs : List AV} {us : List Value} (h : Vs T g w cs us) : ∀ n, Vs T g w (List.replicate n cs).flatten (List.replicate n us).flatten
  | 0 => by simpa using .nil
  | n + 1 => by
    simp only [List.replicate_succ, List.flatten_cons]
    exact h.append (Vs.flatten_rep h n)

section
variable {T : Tr} {bar : Nat} {vs : List Nat} {N : Nat} {g : Gh} {w : World} {σ : St} {tm : Array Value} {ds : List Deferred} {o : Oper} {r : OpR}

def chkPartsS (T : Tr) (vs : List Nat) (N : Nat) : List (Nat × Operand) → List (Nat × Opd) → Bool
  | [], [] => true
  | (i, x) :: ps, (j, y) :: qs => i == j && chkX T vs N x y && chkPartsS T vs N ps qs
  | _, _ => false

theorem fillS_rel {st : Nat} : ∀ {ps : List (Nat × Operand)} {qs : List (Nat × Opd)} {g : Gh} {σ : St} (_ : Rel T vs N g w σ tm) (_ : chkPartsS T vs N ps qs = true) {es out : List AV} {σ' : St} {cells : List Value}
    (_ : Vs T g w (flat es) cells) (_ : ∀ e ∈ es, e.cells.length = st) (_ : ∀ v ∈ cells, v.oneCell' = true) (_ : fillS st es σ qs = some (out, σ')),
    ∃ g' us, Ext bar g w g' w ∧ Rel T vs N g' w σ' tm ∧ Vs T g' w (flat out) us ∧ (∀ e ∈ out, e.cells.length = st) ∧ (∀ v ∈ us, v.oneCell' = true) ∧ Instr.fill (fun i => some (i * st, st)) cells.toArray (ps.map fun p => (p.1, (Act.mk tm ds).eval p.2)) = some us.toArray ∧ us.length = cells.length ∧ out.length = es.length ∧ σ'.H = σ.H
  | [], [], g, σ, h, _, es, out, σ', cells, hv, hu, h1, he => by
    simp only [fillS, Option.some.injEq, Prod.mk.injEq] at he
    obtain ⟨rfl, rfl⟩ := he
    exact ⟨g, cells, .refl _ _ _, h, hv, hu, h1, rfl, rfl, rfl, rfl⟩
  | [], _ :: _, _, _, _, hc, _, _, _, _, _, _, _, _ => by simp [chkPartsS] at hc
  | _ :: _, [], _, _, _, hc, _, _, _, _, _, _, _, _ => by simp [chkPartsS] at hc
  | (i, x) :: ps, (j, y) :: qs, g, σ, h, hc, es, out, σ', cells, hv, hu, h1, he => by
    simp only [chkPartsS, Bool.and_eq_true, beq_iff_eq] at hc
    obtain ⟨⟨rfl, hx⟩, hc⟩ := hc
    simp only [fillS] at he
    split at he
    · rename_i a σ1 hq
      obtain ⟨g1, e1, e2, e3, e4, e5, e6, _⟩ := esc_rel (ds := ds) (bar := bar) h hx hq
      cases hb : (Nat.blt i es.length && Nat.beq a.cells.length st) with
      | false => rw [hb] at he; simp at he
      | true =>
        rw [hb] at he
        simp only [cond_true] at he
        simp only [Bool.and_eq_true] at hb
        have hn := beq_nat hb.2
        have hlt := lt_of_blt hb.1
        obtain ⟨k1, k2⟩ := V.cells e3 (V.defined e4) e5
        have hl := k1.length
        have hfl := flat_length hu
        have hmul : i * st + st ≤ es.length * st := by rw [← Nat.succ_mul]; exact Nat.mul_le_mul_right _ hlt
        have hv' := Vs.mono e1 hv
        have hvl := hv.length
        have huni : ∀ e ∈ es.set i a, e.cells.length = st := fun e he => by
          rcases List.mem_or_eq_of_mem_set he with he | rfl
          · exact hu e he
          · exact hn
        obtain ⟨g2, us, j1, j2, j3, j4, j5, j6, j7, j8, j9⟩ := fillS_rel e2 hc (es := es.set i a) (by rw [flat_set_eq hu hlt hn]; exact Vs.setCells k1 (i * st) hv') huni (fun v hv => (setVals_mem _ _ _ _ hv).elim (h1 v) (k2 v)) he
        refine ⟨g2, us, e1.trans j1, j2, j3, j4, j5, ?_, ?_, ?_, j9.trans e6⟩
        · simp only [List.map_cons]
          have hsz : ((Act.mk tm ds).eval x).cells.size = st := by rw [← hn, hl]; simp
          rw [fill_cons (place := fun i => some (i * st, st)) rfl hsz (by simp; omega)]
          exact j6
        · rw [j7, setVals_length]
        · rw [j8]; simp
    · cases he

/-- The element type of a row, and its zero. -/
def chkRow (P : Program) (t : Nat) (z : AV) : Bool :=
  match P.underlying t with
  | some (.slice e) => chkZ P e z.cells && (match P.info? e with | some i => i.size == z.cells.length && i.size != 0 && decide (i.bytes ≤ 24 * i.size) | none => false)
  | _ => false

theorem chkRow_get {P : Program} {t : Nat} {z : AV} (h : chkRow P t z = true) : ∃ e i v, P.underlying t = some (.slice e) ∧ P.info? e = some i ∧ i.zero = some v ∧ chkCs z.cells v.cells.toList = true ∧ i.size = z.cells.length ∧ i.size ≠ 0 ∧ i.bytes ≤ 24 * i.size := by
  unfold chkRow at h
  split at h
  · rename_i e hu
    simp only [Bool.and_eq_true] at h
    obtain ⟨h1, h2⟩ := h
    obtain ⟨i, v, k1, k2, k3⟩ := chkZ_get h1
    rw [k1] at h2
    simp only [Bool.and_eq_true, beq_iff_eq, bne_iff_ne, ne_eq, decide_eq_true_eq] at h2
    exact ⟨e, i, v, hu, k1, k2, k3, h2.1.1, h2.1.2, h2.2⟩
  · cases h

/-- A row made: what the result holds, or a new object. -/
theorem row_made {h0 : Bool} {w1 : World} {arr : Array Value} {ty : TypeId} {fz : Nat × Nat} {es : List AV} {st cap : Nat} {us : List Value} (h : Rel T vs N g w σ tm) (hm : More w w1 (.cells arr ty fz)) (hfz : ∀ k, k < arr.size → ¬ (fz.1 ≤ k ∧ k < fz.2))
    (hone : ∀ v ∈ arr.toList, v.oneCell' = true) (hv : Vs T g w (flat es) us) (hpre : us = arr.toList.take us.length) (hu : ∀ e ∈ es, e.cells.length = st) (hst : 0 < st) (hcap : cap * st ≤ arr.size) (hl : es.length ≤ cap)
    {res : Result Next} (hrun : res = .ok (.value (.slice (some ⟨w.heap.size, 0, none⟩) es.length cap)) w1) (hr : r = bif h0 then Ak.newRow σ st es else .ok (.slc .own es) σ) (h00 : h0 = false → es = [] → cap = 0) :
    OpOKr T res (OpPost T bar vs N g w tm r) (PanPost T bar vs N g w tm r) := by
  have hvl := hv.length
  have hfl := flat_length hu
  have hmul : es.length * st ≤ cap * st := Nat.mul_le_mul_right _ hl
  cases h0 with
  | true =>
    simp only [cond_true, Ak.newRow] at hr
    obtain ⟨e1, e2, e3⟩ := h.newObj (bar := bar) (cs := flat es) hm hfz hone (by rw [hvl, ← hpre]; exact hv) (by omega)
    have hsh : w1.shape? w.heap.size = some (ty, arr.size) := by simp [World.shape?, hm.new]
    exact ok_val' hrun hr e1 e2 (.of_V (.msl st _ 0 es.length _ cap ty arr.size e3 hsh (by omega) hl hst))
  | false =>
    simp only [cond_false] at hr
    obtain ⟨e1, e2, e3, e4⟩ := h.more (bar := bar) hm
    refine ok_val' hrun hr e1 e2 (AVR.of_SV ?_)
    refine ⟨w.heap.size, 0, cap, arr, st, rfl, excl_new hm hfz hone e3 e4, by omega, hl, ⟨hst, h00 rfl⟩, hu, us, Vs.mono e1 hv, fun k v hk => ?_⟩
    rw [hpre, List.getElem?_take] at hk
    split at hk
    · rw [Nat.zero_add, ← Array.getElem?_toList]; exact hk
    · cases hk

theorem run_buildSlice {P : Program} {w : World} {t e n : Nat} {i : TypeInfo} {v : Value} {parts : Array (Nat × Value)} {us : List Value} (hu : P.underlying t = some (.slice e)) (hi : P.info? e = some i) (hz : i.zero = some v) (hle : n * i.size ≤ 16777216)
    (hf : Instr.fill (fun k => some (k * i.size, i.size)) (madeCells v.cells (n * i.size)) parts.toList = some us.toArray) :
    (Instr.buildSlice t n parts).run P w = .ok (.slice (some ⟨w.heap.size, 0, none⟩) n n) (w.alloc (.cells us.toArray e)) := by
  have hgt : ¬ (n * i.size > 2 ^ 24) := by omega
  unfold Instr.buildSlice
  by_cases h0 : n * i.size = 0
  · rw [h0] at hf
    have h4 : ∀ f : Nat → Value, Array.map f (Array.range 0) = madeCells v.cells 0 := fun f => by simp [madeCells, Array.range_zero']
    simp only [Sem.run_bind, run_underlying hu, Result.andThen_ok, run_sizeOf' hi, h0, if_true]
    simp only [h4]
    simp [Go.newRow, hf]
  · have h4 : (Array.map (fun x => v.cells[x % v.cells.size]!) (Array.range (n * i.size))) = madeCells v.cells (n * i.size) := rfl
    simp only [Sem.run_bind, run_underlying hu, Result.andThen_ok, run_sizeOf' hi, h0, if_false, hgt, run_zero hi hz, Sem.run_pure, h4, hf]
    simp [Go.newRow]

theorem op_bslice (h : Rel T vs N g w σ tm) {t n : Nat} {hb : Bool} {ps : Array (Nat × Operand)} {z : AV} {qs : List (Nat × Opd)} {call : CallF} (ho : o.op = .buildSlice t n ps) (hc : chkRow T.P t z = true) (hp : chkPartsS T vs N ps.toList qs = true) (hn : n * z.cells.length ≤ 16777216)
    (he : evOp call bar (.bslice hb z n qs) σ = some r) : OpOKr T ((execOp (Act.mk tm ds).eval o).run T.P w) (OpPost T bar vs N g w tm r) (PanPost T bar vs N g w tm r) := by
  obtain ⟨e, i, v, hu, hi, hz, hcs, hsz, hs0, _⟩ := chkRow_get hc
  obtain ⟨h1, h2⟩ := chkCs_Vs (T := T) (g := g) (w := w) hcs
  have hzl := h1.length
  have hpos : 0 < v.cells.toList.length := by omega
  simp only [evOp] at he
  split at he
  · rename_i es σ' hq
    have hVs : Vs T g w (flat (List.replicate n z)) (madeCells v.cells (n * i.size)).toList := by
      have := made_rep v.cells.toList hpos n
      rw [Array.toArray_toList] at this
      rw [flat_replicate, hsz, hzl, this]
      exact Vs.flatten_rep h1 n
    have hone : ∀ u ∈ (madeCells v.cells (n * i.size)).toList, u.oneCell' = true := fun u hu => by
      have := made_rep v.cells.toList hpos n
      rw [Array.toArray_toList] at this
      rw [hsz, hzl, this] at hu
      obtain ⟨l, hl, hul⟩ := List.mem_flatten.1 hu
      rw [List.eq_of_mem_replicate hl] at hul
      exact h2 u hul
    have huni : ∀ e ∈ List.replicate n z, e.cells.length = z.cells.length := fun e he => by rw [List.eq_of_mem_replicate he]
    obtain ⟨g', us, e1, e2, e3, e4, e5, e6, e7, e8, e9⟩ := fillS_rel (ds := ds) (bar := bar) h hp hVs huni hone hq
    have hlen : es.length = n := by rw [e8]; simp
    have husl : us.length = n * i.size := by rw [e7]; simp [madeCells]
    have hlist : (ps.map fun (i, x) => (i, (Act.mk tm ds).eval x)).toList = ps.toList.map fun p => (p.1, (Act.mk tm ds).eval p.2) := by simp
    have hm : More w (w.alloc (.cells us.toArray e)) (.cells us.toArray e (0, 0)) := ⟨rfl, rfl, rfl⟩
    have hrun : (execOp (Act.mk tm ds).eval o).run T.P w = .ok (.value (.slice (some ⟨w.heap.size, 0, none⟩) es.length es.length)) (w.alloc (.cells us.toArray e)) := by
      rw [hlen]
      simp only [Array.toArray_toList] at e6
      rw [← hsz, ← hlist] at e6
      have := run_buildSlice (w := w) (n := n) hu hi hz (by rw [hsz]; exact hn) e6
      simp only [execOp, ho, Sem.run_bind, this, Result.andThen_ok, Sem.run_pure]
    have hx : r = bif hb then Ak.newRow σ' z.cells.length es else .ok (.slc .own es) σ' := by
      cases hb <;> simp only [cond_true, cond_false, Option.some.injEq] at he ⊢ <;> exact he.symm
    have := row_made (bar := bar) (h0 := hb) e2 hm (fun k _ => by simp) (by simpa using e5) e3 (by simp) e4 (by omega) (by simp; rw [hlen, husl, hsz]; exact Nat.le_refl _) (Nat.le_refl es.length) hrun hx (fun _ e => by rw [e]; rfl)
    revert this
    generalize (execOp (Act.mk tm ds).eval o).run T.P w = res at hrun
    intro this
    rw [hrun] at this ⊢
    obtain ⟨a, s2, g2, k1, k2, k3, k4⟩ := this
    exact ⟨a, s2, g2, k1, e1.trans k2, k3, k4⟩
  · cases he

theorem op_mslice (h : Rel T vs N g w σ tm) {t : Nat} {hb : Bool} {xl xc : Operand} {yl yc : Opd} {z : AV} {call : CallF} (ho : o.op = .makeSlice t xl xc) (hc : chkRow T.P t z = true) (h1 : chkX T vs N xl yl = true) (h2 : chkX T vs N xc yc = true)
    (he : evOp call bar (.mslice hb z yl yc) σ = some r) : OpOKr T ((execOp (Act.mk tm ds).eval o).run T.P w) (OpPost T bar vs N g w tm r) (PanPost T bar vs N g w tm r) := by
  obtain ⟨e, i, v, hu, hi, hz, hcs, hsz, hs0, hby⟩ := chkRow_get hc
  obtain ⟨k1, k2⟩ := chkCs_Vs (T := T) (g := g) (w := w) hcs
  have hzl := k1.length
  have hpos : 0 < v.cells.toList.length := by omega
  simp only [evOp] at he
  split at he
  · rename_i n c hn hcn
    obtain ⟨kl, e1⟩ := opd_nat (ds := ds) h h1 hn
    obtain ⟨kc, e2⟩ := opd_nat (ds := ds) h h2 hcn
    cases hcond : (Nat.ble n c && Nat.ble (c * z.cells.length) lim) with
    | false => rw [hcond] at he; simp at he
    | true =>
      rw [hcond] at he
      simp only [cond_true] at he
      simp only [Bool.and_eq_true] at hcond
      have hnc := Nat.le_of_ble_eq_true hcond.1
      have hlim := Nat.le_of_ble_eq_true hcond.2
      simp only [lim] at hlim
      rw [← hsz] at hlim
      have hcle : c ≤ c * i.size := Nat.le_mul_of_pos_right _ (by omega)
      have hbytes : i.bytes * c ≤ 24 * i.size * c := Nat.mul_le_mul_right _ hby
      have hb2 : 24 * i.size * c = 24 * (c * i.size) := by rw [Nat.mul_assoc, Nat.mul_comm i.size c]
      have hbytes' : ((i.bytes : Int) * (c : Int)) ≤ 281474976710656 := by
        have : ((i.bytes * c : Nat) : Int) ≤ 281474976710656 := by omega
        rwa [Int.natCast_mul] at this
      have hrm := run_make (P := T.P) w t e i v hu hi hz kl kc n c (by omega) (by omega) hbytes' (by omega)
      simp only [Int.toNat_natCast] at hrm
      have hm : More w (w.alloc (.cells (madeCells v.cells (c * i.size)) e)) (.cells (madeCells v.cells (c * i.size)) e (0, 0)) := ⟨rfl, rfl, rfl⟩
      have hmade := made_rep v.cells.toList hpos
      simp only [Array.toArray_toList] at hmade
      have hrun : (execOp (Act.mk tm ds).eval o).run T.P w = .ok (.value (.slice (some ⟨w.heap.size, 0, none⟩) (List.replicate n z).length c)) (w.alloc (.cells (madeCells v.cells (c * i.size)) e)) := by
        simp only [execOp, ho, e1, e2, Sem.run_bind, hrm, Result.andThen_ok, Sem.run_pure, List.length_replicate]
      have hVs : Vs T g w (flat (List.replicate n z)) (madeCells v.cells (n * i.size)).toList := by
        rw [flat_replicate, hsz, hzl, hmade n]
        exact Vs.flatten_rep k1 n
      have hpre : (madeCells v.cells (n * i.size)).toList = (madeCells v.cells (c * i.size)).toList.take (madeCells v.cells (n * i.size)).toList.length := by
        obtain ⟨d, rfl⟩ : ∃ d, c = n + d := ⟨c - n, by omega⟩
        rw [hsz, hzl, hmade n, hmade (n + d), ← List.replicate_append_replicate, List.flatten_append, List.take_left]
      refine row_made (bar := bar) (h0 := hb) (st := z.cells.length) h hm (fun k _ => by simp) (fun u hu => ?_) hVs hpre (fun e he => by rw [List.eq_of_mem_replicate he]) (by omega) (by rw [size_madeCells, hsz]; exact Nat.le_refl _) (by simpa using hnc) hrun ?_ ?_
      · rw [hsz, hzl, hmade c] at hu
        obtain ⟨l, hl, hul⟩ := List.mem_flatten.1 hu
        rw [List.eq_of_mem_replicate hl] at hul
        exact k2 u hul
      · cases hb with
        | true => simp only [cond_true, Option.some.injEq] at he ⊢; exact he.symm
        | false =>
          simp only [cond_false] at he ⊢
          cases hn0 : (Nat.beq n 0 && !Nat.beq c 0) with
          | true => simp [hn0] at he
          | false => simp only [hn0, cond_false, Option.some.injEq] at he; exact he.symm
      · intro e1 e2
        subst e1
        simp only [cond_false] at he
        have : n = 0 := by simpa using e2
        subst this
        cases hn0 : Nat.beq c 0 with
        | true => exact beq_nat hn0
        | false => simp [hn0] at he
  · cases he

end
end Go.Ak

namespace Go.Ak

theorem hdOk_uni {sz st : Nat} {es : List AV} (h : hdOk sz es = true) (hu : ∀ e ∈ es, e.cells.length = st) : ∀ e ∈ es, e.cells.length = step sz := by
  cases es with
  | nil => intro e he; simp at he
  | cons e0 es =>
    have h0 := beq_nat h
    have : st = step sz := (hu e0 (by simp)).symm.trans h0
    subst this
    exact hu

theorem group_flat {sz : Nat} : ∀ (n : Nat) (cs : List AV), cs.length = n * step sz → (∀ c ∈ cs, ∀ l, c ≠ .agg l) → flat (group sz cs n) = cs ∧ (∀ e ∈ group sz cs n, e.cells.length = step sz) ∧ (group sz cs n).length = n
  | 0, cs, h, _ => by
    have : cs = [] := by simpa using h
    subst this
    exact ⟨rfl, by simp [group], rfl⟩
  | n + 1, cs, h, hn => by
    rw [Nat.succ_mul] at h
    simp only [group]
    cases hz : Nat.beq sz 0 with
    | true =>
      have hs : step sz = 1 := by simp [step, hz]
      rw [hs] at h ⊢
      simp only [cond_true]
      match cs, h, hn with
      | [], h, _ => simp at h
      | c :: cs, h, hn =>
        have ih := group_flat (sz := sz) n cs (by rw [hs]; simp at h ⊢; omega) (fun x hx => hn x (by simp [hx]))
        have hc : c.cells = [c] := by
          cases c with
          | agg l => exact absurd rfl (hn _ (by simp) l)
          | _ => rfl
        simp only [List.drop_succ_cons, List.drop_zero]
        refine ⟨?_, fun e he => ?_, by simp [ih.2.2]⟩
        · have := ih.1
          simp only [flat, List.flatMap_cons, hc] at this ⊢
          rw [this]; rfl
        · rcases List.mem_cons.1 he with rfl | he
          · rw [hc]; rfl
          · rw [ih.2.1 e he, hs]
    | false =>
      have hs : step sz = sz := by simp [step, hz]
      rw [hs] at h ⊢
      simp only [cond_false]
      have ih := group_flat (sz := sz) n (cs.drop sz) (by rw [hs]; simp; omega) (fun x hx => hn x (List.mem_of_mem_drop hx))
      refine ⟨?_, fun e he => ?_, by simp [ih.2.2]⟩
      · have := ih.1
        simp only [flat, List.flatMap_cons, AV.cells] at this ⊢
        rw [this, List.take_append_drop]
      · rcases List.mem_cons.1 he with rfl | he
        · simp [AV.cells]; omega
        · rw [ih.2.1 e he, hs]

section
variable {T : Tr} {bar : Nat} {vs : List Nat} {N : Nat} {g : Gh} {w : World} {σ : St} {tm : Array Value} {ds : List Deferred} {o : Oper} {r : OpR}

/-- A row or a text, and its elements. -/
def RowOf (T : Tr) (g : Gh) (w : World) (sz : Nat) (ys : List AV) (v : Value) : Prop :=
  (∀ e ∈ ys, e.cells.length = step sz) ∧ ∃ us, Vs T g w (flat ys) us ∧ (∀ u ∈ us, u.oneCell' = true) ∧
    ((v = .slice none 0 0 ∧ ys = []) ∨ (∃ b off cap, v = .slice (some ⟨b, off, none⟩) ys.length cap ∧ ∀ (k : Nat) (u : Value), us[k]? = some u → w.cell? ⟨b, off + k, none⟩ = some u) ∨
     ∃ s, v = .string ⟨s.toArray⟩ ∧ ys = bytesOf s ∧ step sz = 1 ∧ us = s.map fun b => Value.int .u8 b.toNat)

theorem flat_bytes (s : List UInt8) : flat (bytesOf s) = bytesOf s := by
  induction s with
  | nil => rfl
  | cons b s ih =>
    simp only [flat, bytesOf, List.map_cons, List.flatMap_cons, AV.cells] at ih ⊢
    rw [ih]; rfl

theorem Vs.bytes : ∀ (s : List UInt8), Vs T g w (bytesOf s) (s.map fun b => Value.int .u8 b.toNat)
  | [] => .nil
  | b :: s => .cons _ _ _ _ (.int _ _) (Vs.bytes s)

theorem drop_take_get {us : List Value} {lo n k : Nat} {u : Value} (h : ((us.drop lo).take n)[k]? = some u) : us[lo + k]? = some u := (get_sub h).1

theorem SV.row {o' : Own} {p : Perm} {es : List AV} {v : Value} (hs : SV T g w o' (.slc p es) v) : ∃ b off cap us st, v = .slice (some ⟨b, off, none⟩) es.length cap ∧ Vs T g w (flat es) us ∧ (∀ u ∈ us, u.oneCell' = true) ∧ (∀ e ∈ es, e.cells.length = st) ∧
    ∀ (k : Nat) (u : Value), us[k]? = some u → w.cell? ⟨b, off + k, none⟩ = some u := by
  have fromArr : ∀ {b off : Nat} {arr : Array Value} {us : List Value}, blk w b arr → (∀ (k : Nat) (v : Value), us[k]? = some v → arr[off + k]? = some v) → (∀ u ∈ us, u.oneCell' = true) ∧ ∀ (k : Nat) (u : Value), us[k]? = some u → w.cell? ⟨b, off + k, none⟩ = some u :=
    fun {_ off arr us} hb hu => by
      refine ⟨fun u hm => ?_, fun k u hk => by rw [hb.cell, hu k u hk]⟩
      obtain ⟨k, hk⟩ := List.getElem?_of_mem hm
      have h5 := hu k u hk
      rw [← Array.getElem?_toList] at h5
      exact hb.2.2 u (List.mem_of_getElem? h5)
  cases p with
  | ro =>
    obtain ⟨_, b, o', us, st, cap, k1, k2, k3, _, _, k6⟩ := V.slc_inv hs
    refine ⟨b, o', cap, us, st, k6, k2, fun u hm => ?_, k3, fun k u hk => (k1 k u hk).2.1⟩
    obtain ⟨k, hk⟩ := List.getElem?_of_mem hm
    exact (k1 k u hk).2.2
  | own =>
    obtain ⟨b, off, cap, arr, st, k1, ⟨_, _, k4⟩, _, _, _, k7, us, k8, k9⟩ := hs
    obtain ⟨j1, j2⟩ := fromArr k4 k9
    exact ⟨b, off, cap, us, st, k1, k8, j1, k7, j2⟩
  | app =>
    obtain ⟨b, off, cap, arr, st, k1, _, _, k4, _, _, _, k7, us, k8, k9⟩ := hs
    obtain ⟨j1, j2⟩ := fromArr k4 k9
    exact ⟨b, off, cap, us, st, k1, k8, j1, k7, j2⟩

theorem contents_rel (h : Rel T vs N g w σ tm) {x : Operand} {y : Opd} (hc : chkX T vs N x y = true) {sz : Nat} {ys : List AV} (he : contents σ sz y = some ys) : RowOf T g w sz ys ((Act.mk tm ds).eval x) := by
  have hr := opd_rel (ds := ds) h hc
  unfold contents at he
  split at he
  · rename_i ha
    rw [ha] at hr
    simp only [Option.some.injEq] at he
    subst he
    exact ⟨by simp, [], .nil, by simp, .inl ⟨V.nils_inv hr, rfl⟩⟩
  · rename_i p es ha
    rw [ha] at hr
    cases hh : hdOk sz es with
    | false => simp [hh] at he
    | true =>
      simp only [hh, cond_true, Option.some.injEq] at he
      subst he
      obtain ⟨b, off, cap, us, st, k1, k2, k3, k4, k5⟩ := SV.row (hr.SV_of rfl)
      exact ⟨hdOk_uni hh k4, us, k2, k3, .inr (.inl ⟨b, off, cap, k1, k5⟩)⟩
  · rename_i s ha
    rw [ha] at hr
    cases hh : Nat.beq (step sz) 1 with
    | false => simp [hh] at he
    | true =>
      simp only [hh, cond_true, Option.some.injEq] at he
      subst he
      have h1 := beq_nat hh
      refine ⟨fun e hm => ?_, _, by rw [flat_bytes]; exact Vs.bytes s, fun u hm => ?_, .inr (.inr ⟨s, V.str_inv hr, rfl, h1, rfl⟩)⟩
      · obtain ⟨b, _, rfl⟩ := List.mem_map.1 hm
        rw [h1]; rfl
      · obtain ⟨b, _, rfl⟩ := List.mem_map.1 hm
        rfl
  · rename_i t k lo n ha
    rw [ha] at hr
    cases hk : Nat.beq (ver σ.mods t) k with
    | false => simp [hk] at he
    | true =>
      simp only [hk, cond_true] at he
      split at he
      · rename_i p es hl
        cases hh : hdOk sz es with
        | false => simp [hh] at he
        | true =>
          simp only [hh, cond_true, Option.some.injEq] at he
          subst he
          obtain ⟨hle, b, o', cap, st, xx, cap', j1, j2, j3, j4, j5, j6⟩ := hr.2 (beq_nat hk).symm p es hl
          have hs := h.env t
          rw [hl, j2] at hs
          obtain ⟨b', off', cap'', us, st', k1, k2, k3, k4, k5⟩ := hs.row
          simp only [Value.slice.injEq, Option.some.injEq, Addr.mk.injEq, and_true, true_and] at k1
          obtain ⟨⟨rfl, rfl⟩, rfl⟩ := k1
          have hu := hdOk_uni hh k4
          have hlen : ((es.drop lo).take n).length = n := by simp; omega
          refine ⟨uni_take (uni_drop hu lo) n, (us.drop (lo * step sz)).take (n * step sz), ?_, fun u hm => k3 u (List.mem_of_mem_drop (List.mem_of_mem_take hm)), .inr (.inl ⟨b, xx, cap', by rw [hlen]; exact j3, fun k u hk => ?_⟩)⟩
          · rw [flat_take n (uni_drop hu lo), flat_drop lo hu]
            exact (k2.drop _).take _
          · rcases j4 with j4 | j4
            · subst j4
              simp at hk
            · have hst : st = step sz ∨ es = [] := by
                cases es with
                | nil => exact .inr rfl
                | cons e es => exact .inl ((j1 e (by simp)).symm.trans (hu e (by simp)))
              rcases hst with rfl | rfl
              · have := k5 _ u (drop_take_get hk)
                rw [j4, Nat.add_assoc]; exact this
              · simp at hle
                obtain ⟨_, rfl⟩ := hle
                simp at hk
      · cases he
  · rename_i st id off n ha
    rw [ha] at hr
    cases hst : Nat.beq st (step sz) with
    | false => simp [hst] at he
    | true =>
      simp only [hst, cond_true] at he
      split at he
      · rename_i cs hid
        split at he
        · rename_i l hl
          simp only [Option.some.injEq] at he
          subst he
          obtain ⟨b, cap, ty, m, k1, k2, k3, k4, k5, k6⟩ := V.msl_inv hr
          obtain ⟨b', arr, j1, ⟨_, _, j3⟩, j4, j5⟩ := h.heap.objs id cs hid
          rw [k1] at j1; cases j1
          have hs := beq_nat hst
          obtain ⟨q1, q2⟩ := sub_Vs hl j4
          have hone : ∀ u ∈ ((arr.toList.take cs.length).drop off).take (n * st), u.oneCell' = true := fun u hu => j3.2.2 u (List.mem_of_mem_take (List.mem_of_mem_drop (List.mem_of_mem_take hu)))
          have hll : l.length = n * step sz := by rw [q1.length, q2, hs]
          obtain ⟨p1, p2, p3⟩ := group_flat (sz := sz) n l hll (Vs.noagg q1 hone)
          refine ⟨p2, _, by rw [p1]; exact q1, hone, .inr (.inl ⟨b, off, cap, by rw [p3]; exact k6, fun k u hk => ?_⟩)⟩
          obtain ⟨z1, _⟩ := get_sub hk
          rw [List.getElem?_take] at z1
          split at z1
          · rw [j3.cell, ← Array.getElem?_toList]; exact z1
          · cases z1
        · cases he
      · cases he
  · cases he

/-- What 'append' reads of what is appended. -/
theorem RowOf.read {P : Program} {sz : Nat} {ys : List AV} {v : Value} (h : RowOf T g w sz ys v) : ∃ us, Vs T g w (flat ys) us ∧ (∀ u ∈ us, u.oneCell' = true) ∧ us.length = ys.length * step sz ∧
    (∀ w', w'.heap = w.heap → (Builtin.lenOf v).run P w' = .ok ys.length w' ∧ (Builtin.firstCells (step sz) ys.length v).run P w' = .ok us.toArray w') := by
  obtain ⟨hu, us, h1, h2, h3⟩ := h
  have hl : us.length = ys.length * step sz := by rw [← h1.length, flat_length hu]
  refine ⟨us, h1, h2, hl, fun w' hw => ?_⟩
  rcases h3 with ⟨rfl, rfl⟩ | ⟨b, off, cap, rfl, hc⟩ | ⟨s, rfl, rfl, hs, rfl⟩
  · have : us = [] := by simpa using hl
    subst this
    exact ⟨by simp [Builtin.lenOf], by simp [Builtin.firstCells]⟩
  · refine ⟨by simp [Builtin.lenOf], ?_⟩
    refine run_firstCells_some w' (step sz) ys.length ⟨b, off, none⟩ ys.length cap us hl fun j v hv => ?_
    rw [Addr.add_lit]
    have := hc j v hv
    simpa only [World.cell?, hw] using this
  · have hb : (bytesOf s).length = s.length := by simp [bytesOf]
    have hsz : (⟨s.toArray⟩ : ByteArray).size = s.length := rfl
    refine ⟨by simp only [Builtin.lenOf, Sem.run_pure, hsz, hb], ?_⟩
    simp only [Builtin.firstCells, Sem.run_pure, hb]
    congr 1
    apply Array.ext'
    simp [ByteArray.extract_mk]

set_option maxHeartbeats 4000000 in
theorem run_append_in {P : Program} {w : World} {t u e : Nat} {d : TypeDesc} {i : TypeInfo} {sz n cap : Nat} {base : Option Addr} {v : Value} {ty : Nat} {m : Nat} {news : List Value}
    (ht : P.underlying t = some (.slice e)) (hu : P.underlying u = some d) (hd : ∀ k, d ≠ .int k) (hi : P.info? e = some i) (hs : i.size = step sz)
    (l1 : (Builtin.lenOf v).run P w = .ok m w) (f1 : (Builtin.firstCells (step sz) m v).run P w = .ok news.toArray w) (hr : n + m ≤ cap) : (Builtin.append_ #[t, u] ty #[.slice base n cap, v]).run P w = match base with
      | some a => ((storeCells (a.add (n * step sz)) news).run P w).andThen fun _ w' => .ok (.slice base (n + m) cap) w'
      | none => .ok (.slice base (n + m) cap) w := by
  cases base with
  | none => cases d <;> first | (exact absurd rfl (hd _)) | simp [Builtin.append_, run_underlying ht, run_underlying hu, run_sizeOf' hi, hs, l1, f1, hr]
  | some a => cases d <;> first | (exact absurd rfl (hd _)) | simp [Builtin.append_, run_underlying ht, run_underlying hu, run_sizeOf' hi, hs, l1, f1, hr]

set_option maxHeartbeats 4000000 in
theorem run_append_gen {P : Program} {w : World} {t u e : Nat} {d : TypeDesc} {i : TypeInfo} {z : Value} {sz n cap : Nat} {base : Option Addr} {v : Value} {ty : Nat} {m : Nat} {news : List Value}
    (ht : P.underlying t = some (.slice e)) (hu : P.underlying u = some d) (hd : ∀ k, d ≠ .int k) (hi : P.info? e = some i) (hz : i.zero = some z) (hs : i.size = step sz) (hby : i.bytes ≤ 24 * i.size) (hlim : (n + m) * step sz ≤ lim)
    (hx : ∀ w', w'.heap = w.heap → (Builtin.lenOf v).run P w' = .ok m w' ∧ (Builtin.firstCells (step sz) m v).run P w' = .ok news.toArray w') :
    (n + m ≤ cap → (Builtin.append_ #[t, u] ty #[.slice base n cap, v]).run P w = match base with
      | some a => ((storeCells (a.add (n * step sz)) news).run P w).andThen fun _ w' => .ok (.slice base (n + m) cap) w'
      | none => .ok (.slice base (n + m) cap) w) ∧
    (cap < n + m → ∀ olds : List Value, (∀ w', w'.heap = w.heap → (Builtin.firstCells (step sz) n (.slice base n cap)).run P w' = .ok olds.toArray w') →
      (Builtin.append_ #[t, u] ty #[.slice base n cap, v]).run P w = .ok (.slice (some ⟨w.heap.size, 0, none⟩) (n + m) (grownCap w (n + m) cap e))
        (w.drew.alloc (.cells (olds.toArray ++ news.toArray ++ Builtin.zeroCells z.cells (grownCap w (n + m) cap e - (n + m))) e))) := by
  have hb : (n + m) * i.bytes ≤ 140737488355328 := by
    have h1 : (n + m) * i.bytes ≤ (n + m) * (24 * i.size) := Nat.mul_le_mul_left _ hby
    have h2 : (n + m) * (24 * i.size) = 24 * ((n + m) * i.size) := by rw [← Nat.mul_assoc, Nat.mul_comm (n + m) 24, Nat.mul_assoc]
    rw [hs] at h1 h2
    simp only [lim] at hlim
    omega
  have hnm : n + m ≤ (n + m) * step sz := Nat.le_mul_of_pos_right _ (step_pos sz)
  simp only [lim] at hlim
  obtain ⟨l1, f1⟩ := hx w rfl
  have hdz : (match d with | .int _ => true | _ => false) = false := by cases d <;> first | rfl | exact absurd rfl (hd _)
  refine ⟨fun hr => ?_, fun hg olds ho => ?_⟩
  · exact run_append_in ht hu hd hi hs l1 f1 hr
  · have hn : ¬ (n + m ≤ cap) := by omega
    have h63 : ¬ (9223372036854775807 < ((n : Int) + (m : Int))) := by omega
    have h48 : ¬ (281474976710656 < Builtin.nextslicecap (n + m) cap * i.bytes) := by have := growslice_fits hg hb; omega
    obtain ⟨l2, f2⟩ := hx w.drew rfl
    have o2 := ho w.drew rfl
    have hinf : ∀ w', (typeInfo e).run P w' = .ok i w' := fun w' => by simp [typeInfo, hi]
    cases d <;> first | (exact absurd rfl (hd _)) | skip
    all_goals
      simp [Builtin.append_, run_underlying ht, run_underlying hu, run_sizeOf' hi, hs, l1, f2, o2, hn, h63, h48, hinf, run_zero hi hz, Question.forced, Go.newRow, grownCap]
      congr 2
      apply Array.ext'
      simp [List.append_assoc]

end
end Go.Ak

namespace Go.Ak
section
variable {T : Tr} {bar : Nat} {vs : List Nat} {N : Nat} {g : Gh} {w : World} {σ : St} {tm : Array Value} {ds : List Deferred} {o : Oper} {r : OpR}

/-- The frame where cells of the result's own block are written. -/
theorem Rel.write_res (h : Rel T vs N g w σ tm) {b off : Nat} {us : List Value} (hb : g.own b = .res) (h0 : g.S b ≤ off) : Rel T vs N g (w.setCells b off us) σ tm :=
  h.write hb h0 (by simp) rfl rfl (fun _ _ => rfl) (fun t e => by cases e) (fun t e => by cases e) (fun _ _ _ hc => hc) (fun _ _ e => by cases e) rfl (fun _ e => by cases e)

theorem Rel.settle_res (h : Rel T vs N g w σ tm) {b n : Nat} (hb : g.own b = .res) (h0 : g.S b ≤ n) (hn : b < w.heap.size) : Rel T vs N (g.settle b n) w σ tm :=
  h.settle hb (.inr (.inr rfl)) h0 (fun _ => hn) rfl rfl (fun _ => .inl rfl) (fun t e => by cases e) (fun _ => .inl rfl) (fun t e => by cases e) h.nobox

theorem flat_append (a b : List AV) : flat (a ++ b) = flat a ++ flat b := by simp [flat]

/-- The row behind an append in its place. -/
theorem row_more {arr : Array Value} {off st n m : Nat} {es ys : List AV} {news : List Value} (h : rowAtB T g w arr off st es) (hy : Vs T g w (flat ys) news) (hu : ∀ e ∈ ys, e.cells.length = st) (hn : es.length = n) (hm : ys.length = m) (hfit : off + (n + m) * st ≤ arr.size) :
    rowAtB T g w (setVals arr.toList (off + n * st) news).toArray off st (es ++ ys) := by
  obtain ⟨h1, us, h2, h3⟩ := h
  have hul : us.length = n * st := by rw [← h2.length, flat_length h1, hn]
  have hnl : news.length = m * st := by rw [← hy.length, flat_length hu, hm]
  rw [Nat.add_mul] at hfit
  refine ⟨fun e he => (List.mem_append.1 he).elim (h1 e) (hu e), us ++ news, by rw [flat_append]; exact h2.append hy, fun k v hk => ?_⟩
  rw [List.getElem?_toArray]
  by_cases c : k < us.length
  · rw [List.getElem?_append_left c] at hk
    rw [setVals_get_lt _ _ _ _ (by omega), Array.getElem?_toList]
    exact h3 k v hk
  · rw [List.getElem?_append_right (by omega)] at hk
    have hk2 : k - us.length < news.length := (List.getElem?_eq_some_iff.1 hk).1
    obtain ⟨j, rfl⟩ : ∃ j, k = us.length + j := ⟨k - us.length, by omega⟩
    rw [hul, ← Nat.add_assoc, setVals_get_mid _ _ _ _ (by simp; omega) (by rw [hul] at hk2; omega)]
    rw [Nat.add_sub_cancel_left] at hk
    exact hk

def chkApp (P : Program) (t u sz : Nat) : Bool :=
  match P.underlying t, P.underlying u with
  | some (.slice e), some d => chkElem P e sz && (match d with | .int _ => false | _ => true) && (match P.info? e with
    | some i => decide (i.bytes ≤ 24 * i.size) && (match i.zero with | some z => z.cells.size == i.size && z.cells.toList.all (·.oneCell') | none => false)
    | none => false)
  | _, _ => false

theorem chkApp_get {P : Program} {t u sz : Nat} (h : chkApp P t u sz = true) : ∃ e d i z, P.underlying t = some (.slice e) ∧ P.underlying u = some d ∧ (∀ k, d ≠ .int k) ∧ P.info? e = some i ∧ i.zero = some z ∧ i.size = step sz ∧ i.bytes ≤ 24 * i.size ∧ z.cells.size = i.size ∧ ∀ v ∈ z.cells.toList, v.oneCell' = true := by
  unfold chkApp at h
  split at h
  · rename_i e d hu hv
    simp only [Bool.and_eq_true] at h
    obtain ⟨⟨h1, h2⟩, h3⟩ := h
    obtain ⟨i, hi, hs⟩ := chkElem_size h1
    rw [hi] at h3
    simp only [Bool.and_eq_true, decide_eq_true_eq] at h3
    obtain ⟨h4, h5⟩ := h3
    split at h5
    · rename_i z hz
      simp only [Bool.and_eq_true, beq_iff_eq, List.all_eq_true] at h5
      refine ⟨e, d, i, z, hu, hv, fun k e => ?_, hi, hz, hs, h4, h5.1, h5.2⟩
      subst e; simp at h2
    · cases h5
  · cases h

theorem zeroCells_one {z : Array Value} {n : Nat} (h : ∀ v ∈ z.toList, v.oneCell' = true) : ∀ v ∈ (Builtin.zeroCells z n).toList, v.oneCell' = true := by
  intro v hv
  simp only [Builtin.zeroCells, Array.toList_map, Array.toList_range, List.mem_map, List.mem_range] at hv
  obtain ⟨i, hi, rfl⟩ := hv
  have hpos : 0 < z.size := by
    rcases Nat.eq_zero_or_pos z.size with h0 | h0
    · simp [h0] at hi
    · exact h0
  have hlt : i % z.size < z.size := Nat.mod_lt _ hpos
  rw [getElem!_pos z _ hlt]
  exact h _ (by simp)

/-- The new row that an append makes. -/
theorem app_grown {h0 : Bool} {p : Perm} {e : Nat} {z : Value} {sz n m cap : Nat} {es ys : List AV} {olds news : List Value} (h : Rel T vs N g w σ tm) (hz : ∀ v ∈ z.cells.toList, v.oneCell' = true) (hzs : z.cells.size = step sz)
    (hes : ∀ x ∈ es, x.cells.length = step sz) (hys : ∀ x ∈ ys, x.cells.length = step sz) (ho : Vs T g w (flat es) olds) (hn : Vs T g w (flat ys) news) (ho1 : ∀ u ∈ olds, u.oneCell' = true) (hn1 : ∀ u ∈ news, u.oneCell' = true) (hel : es.length = n) (hyl : ys.length = m) (hp : p = .own) (hnm : 0 < n + m)
    {res : Result Next} (hrun : res = .ok (.value (.slice (some ⟨w.heap.size, 0, none⟩) (n + m) (grownCap w (n + m) cap e))) (w.drew.alloc (.cells (olds.toArray ++ news.toArray ++ Builtin.zeroCells z.cells (grownCap w (n + m) cap e - (n + m))) e)))
    (hr : r = bif h0 then Ak.newRow σ (step sz) (es ++ ys) else .ok (.slc p (es ++ ys)) σ) : OpOKr T res (OpPost T bar vs N g w tm r) (PanPost T bar vs N g w tm r) := by
  subst hp
  have hge := grownCap_ge w (n + m) cap e
  have hol : olds.length = n * step sz := by rw [← ho.length, flat_length hes, hel]
  have hnl : news.length = m * step sz := by rw [← hn.length, flat_length hys, hyl]
  have hm : More w (w.drew.alloc (.cells (olds.toArray ++ news.toArray ++ Builtin.zeroCells z.cells (grownCap w (n + m) cap e - (n + m))) e)) (.cells (olds.toArray ++ news.toArray ++ Builtin.zeroCells z.cells (grownCap w (n + m) cap e - (n + m))) e (0, 0)) := ⟨rfl, rfl, rfl⟩
  have hsize : (olds.toArray ++ news.toArray ++ Builtin.zeroCells z.cells (grownCap w (n + m) cap e - (n + m))).size = grownCap w (n + m) cap e * step sz := by
    simp only [Array.size_append, List.size_toArray, size_zeroCells, hzs, hol, hnl]
    rw [← Nat.add_mul, ← Nat.add_mul]
    congr 1; omega
  have hlen : (es ++ ys).length = n + m := by simp [hel, hyl]
  refine row_made (bar := bar) (h0 := h0) (st := step sz) (es := es ++ ys) (us := olds ++ news) h hm (fun k _ => by simp) (fun v hv => ?_) (by rw [flat_append]; exact ho.append hn) ?_ (fun x hx => (List.mem_append.1 hx).elim (hes x) (hys x)) (step_pos sz) (by rw [hsize]; exact Nat.le_refl _) (by omega) (by rw [hlen]; exact hrun) hr (fun _ e => by rw [e] at hlen; simp at hlen; omega)
  · simp only [Array.toList_append, List.mem_append] at hv
    rcases hv with (hv | hv) | hv
    · exact ho1 v hv
    · exact hn1 v hv
    · exact zeroCells_one hz v hv
  · simp only [Array.toList_append]
    rw [List.take_left']
    simp


/-- An object told no more. -/
theorem Rel.dropObj (h : Rel T vs N g w σ tm) (id : Nat) : Rel T vs N g w { σ with H := σ.H.set id none } tm :=
  ⟨h.size, h.envk, h.lenvk, h.env, fun t => by
    have := h.lenv t
    cases ha : look σ.lenv t with
    | loc a b c => rw [ha] at this; simpa only [ha, AVR] using this
    | eloc a b c d => rw [ha] at this; simpa only [ha, AVR] using this
    | ref a b c d => rw [ha] at this; simpa only [ha, AVR] using this
    | _ => rw [ha] at this; exact AVR.of_SV (AVR.SV_of rfl this), h.nobox, ⟨fun i cs hc => by
      simp only [List.getElem?_set] at hc
      split at hc
      · split at hc
        · simp at hc
        · cases hc
      · exact h.heap.objs i cs hc, fun i b hb => by simpa using h.heap.ob i b hb, h.heap.fresh, h.heap.gl⟩⟩

/-- A block given to a new object. -/
theorem Rel.rename (h : Rel T vs N g w σ tm) {id b : Nat} {arr : Array Value} {cs : List AV} (hbar : bar ≤ id) (hid : σ.H[id]? = some none) (hx : excl g w (.obj id) b arr) (hv : Vs T g w cs (arr.toList.take cs.length)) (hl : cs.length ≤ arr.size) :
    Ext bar g w (g.obj σ.H.length b) w ∧ Rel T vs N (g.obj σ.H.length b) w { σ with H := σ.H ++ [some cs] } tm ∧ (g.obj σ.H.length b).ob σ.H.length = some b := by
  have hob : ∀ i x, g.ob i = some x → (g.obj σ.H.length b).ob i = some x := fun i x hb => by
    have := h.heap.ob i x hb
    simp only [Gh.obj]; rw [if_neg (by omega)]; exact hb
  have key : ∀ x, g.own x ≠ .obj id → (g.obj σ.H.length b).own x = g.own x := fun x hx' => by
    simp only [Gh.obj]; rw [if_neg (fun e => hx' (by rw [e, hx.1]))]
  have he : ∀ bar, bar ≤ id → Ext bar g w (g.obj σ.H.length b) w := fun bar hbar => ⟨Nat.le_refl _, fun _ => Nat.le_refl _, fun _ _ _ => rfl, hob, fun _ _ h => h, fun x hx' => ⟨by rw [key x (by rw [hx']; simp)]; exact hx', rfl, rfl⟩,
    fun i x hi _ hx' => ⟨by rw [key x (by rw [hx']; simp; omega)]; exact hx', rfl, rfl⟩, rfl, rfl⟩
  refine ⟨he bar hbar, ?_, by simp [Gh.obj]⟩
  refine h.frame (H' := σ.H ++ [some cs]) (he 0 (Nat.zero_le _)) (fun x t hb _ => ⟨by rw [key x (by rw [hb]; simp)]; exact hb, rfl, rfl⟩) (fun x t hb _ => ⟨by rw [key x (by rw [hb]; simp)]; exact hb, rfl, rfl⟩) ⟨fun i cs' hc => ?_, fun i x hb => ?_, fun x hb => ?_, fun x ob hx' => by
    obtain ⟨k1, k2⟩ := h.heap.gl x ob hx'
    exact ⟨(key x (by rw [k1]; simp)).trans k1, k2⟩⟩
  · rw [List.getElem?_append] at hc
    split at hc
    · obtain ⟨x, arr', k1, ⟨k2, k3, k4⟩, k5, k6⟩ := h.heap.objs i cs' hc
      have hne : i ≠ id := fun e => by rw [e, hid] at hc; simp at hc
      exact ⟨x, arr', hob i x k1, ⟨by rw [key x (by rw [k2]; simpa using hne)]; exact k2, k3, k4⟩, Vs.mono (he 0 (Nat.zero_le _)) k5, k6⟩
    · have hi : i = σ.H.length := by
        have := (List.getElem?_eq_some_iff.1 hc).1
        simp at this; omega
      subst hi
      simp at hc
      subst hc
      exact ⟨b, arr, by simp [Gh.obj], ⟨by simp [Gh.obj], hx.2.1, hx.2.2⟩, Vs.mono (he 0 (Nat.zero_le _)) hv, hl⟩
  · simp only [Gh.obj] at hb
    simp only [List.length_append, List.length_cons, List.length_nil]
    split at hb
    · omega
    · have := h.heap.ob i x hb; omega
  · obtain ⟨k1, k2⟩ := h.heap.fresh x hb
    exact ⟨by rw [key x (by rw [k1]; simp)]; exact k1, k2⟩

theorem OpPost.weaken {es : List AV} {v : Value} {w' : World} {σ' : St} (h : OpPost T bar vs N g w tm (.ok (.slc .own es) σ') v w') : OpPost T bar vs N g w tm (.ok (.slc .app es) σ') v w' := by
  obtain ⟨a, σ1, g1, e, h1, h2, h3⟩ := h
  cases e
  obtain ⟨b, n, k1, k2, k3, k4, _⟩ := SV.settle (AVR.SV_of rfl h3) (by simp) (by simp)
  refine ⟨_, _, g1.settle b n, rfl, h1.trans (Ext.settle k2 (by rw [k1]; simp) (by rw [k1]; simp)), ?_, .of_SV k4⟩
  by_cases hn : b < w'.heap.size
  · exact h2.settle_res k1 k2 hn
  · have : n = 0 := by
      rcases Nat.eq_zero_or_pos n with h0 | h0
      · exact h0
      · exact absurd (k3 h0) hn
    subst this
    exact absurd (lt_of_own h2.heap (by rw [k1]; simp)) hn

theorem OpOKr.imp {res : Result Next} {R R' : Value → World → Prop} {Pn Pn' : Value → World → Prop} (h : OpOKr T res R Pn) (h1 : ∀ v w, R v w → R' v w) (h2 : ∀ v w, Pn v w → Pn' v w) : OpOKr T res R' Pn' := by
  unfold OpOKr at h ⊢
  split at h <;> rename_i heq
  · exact h1 _ _ h
  · exact h1 _ _ h
  · refine h.mono ?_
    intro e w'' he
    cases e with
    | returned v => exact h1 _ _ he
    | panicked ch =>
      obtain ⟨v, k1, k2⟩ := he
      exact ⟨v, k1, h2 _ _ k2⟩
    | outgrown => exact he
  · exact h2 _ _ h
  · exact h.elim

end
end Go.Ak

namespace Go.Ak
section
variable {T : Tr} {bar : Nat} {vs : List Nat} {N : Nat} {g : Gh} {w : World} {σ : St} {tm : Array Value} {ds : List Deferred} {o : Oper} {r : OpR}

/-- What a machine's 'append' comes to. -/
def appRun (P : Program) (w : World) (e : Nat) (z : Value) (sz n m cap : Nat) (base : Option Addr) (news : List Value) (res : Result Next) : Prop :=
  (n + m ≤ cap → res = match base with
      | some a => (((storeCells (a.add (n * step sz)) news).run P w).andThen fun _ w' => .ok (Value.slice base (n + m) cap) w').andThen fun v w => .ok (.value v) w
      | none => .ok (.value (.slice base (n + m) cap)) w) ∧
    (cap < n + m → ∀ olds : List Value, (∀ w', w'.heap = w.heap → (Builtin.firstCells (step sz) n (.slice base n cap)).run P w' = .ok olds.toArray w') →
      res = .ok (.value (.slice (some ⟨w.heap.size, 0, none⟩) (n + m) (grownCap w (n + m) cap e)))
        (w.drew.alloc (.cells (olds.toArray ++ news.toArray ++ Builtin.zeroCells z.cells (grownCap w (n + m) cap e - (n + m))) e)))

theorem app_msl0 {a : AV} {Q : TypeId → Prop} {e : Nat} {z : Value} {sz st id n m : Nat} {cs l ys : List AV} {news : List Value} (h : Rel T vs N g w σ tm) (hz : ∀ v ∈ z.cells.toList, v.oneCell' = true) (hzs : z.cells.size = step sz)
    {v : Value} {cap : Nat} {base : Option Addr} (hv : V T g w (.msl st id 0 n) v) (hve : v = .slice base n cap) (hst : st = step sz) (hbar : bar ≤ id) (hid : σ.H[id]? = some (some cs)) (hl : sub cs 0 (n * st) = some l) (hys : ∀ x ∈ ys, x.cells.length = step sz)
    (hn : Vs T g w (flat ys) news) (hn1 : ∀ u ∈ news, u.oneCell' = true) (hyl : ys.length = m) {res : Result Next} (hrun : appRun T.P w e z sz n m cap base news res)
    (hQ1 : ∀ b ty k, g.ob id = some b → w.shape? b = some (ty, k) → Q ty) (hQ2 : Q e)
    (ha : ∀ g' w' b cap ty k, g'.ob σ.H.length = some b → w'.shape? b = some (ty, k) → cap * step sz ≤ k → n + m ≤ cap → Q ty → V T g' w' a (.slice (some ⟨b, 0, none⟩) (n + m) cap))
    (hr : r = .ok a { σ with H := σ.H.set id none ++ [some (l ++ flat ys)] }) : OpOKr T res (OpPost T bar vs N g w tm r) (PanPost T bar vs N g w tm r) := by
  subst hst
  obtain ⟨b, cap', ty, sz', k1, k2, k3, k4, k5, k6⟩ := V.msl_inv hv
  rw [hve] at k6
  simp only [Value.slice.injEq] at k6
  obtain ⟨rfl, _, rfl⟩ := k6
  obtain ⟨b', arr, j1, ⟨j2, j3, j4⟩, j5, j6⟩ := h.heap.objs id cs hid
  rw [k1] at j1; cases j1
  obtain ⟨q1, q2⟩ := sub_some hl
  have hnl : news.length = m * step sz := by rw [← hn.length, flat_length hys, hyl]
  have harr : arr.size = sz' := by
    obtain ⟨ty', h'⟩ := j4.shape
    rw [k2] at h'; cases h'; rfl
  have hll : l.length = n * step sz := by rw [q2]; simp at q1 ⊢; omega
  obtain ⟨s1, s2⟩ := sub_Vs hl j5
  have hpre : Vs T g w l (arr.toList.take (n * step sz)) := by
    have : ((arr.toList.take cs.length).drop 0).take (n * step sz) = arr.toList.take (n * step sz) := by
      rw [List.drop_zero, List.take_take]; congr 1; simp at q1; omega
    rw [← this]; exact s1
  have hone : ∀ u ∈ arr.toList.take (n * step sz), u.oneCell' = true := fun u hu => j4.2.2 u (List.mem_of_mem_take hu)
  have hsz : (n + m) * step sz = n * step sz + m * step sz := Nat.add_mul _ _ _
  by_cases hc : n + m ≤ cap
  · have hfit : n * step sz + m * step sz ≤ arr.size := by
      have : (n + m) * step sz ≤ cap * step sz := Nat.mul_le_mul_right _ hc
      omega
    have hst := run_storeCells_blk (P := T.P) j4 (n * step sz) news hn1 (by omega)
    have hres : res = .ok (.value (.slice (some ⟨b, 0, none⟩) (n + m) cap)) (w.setCells b (n * step sz) news) := by
      rw [hrun.1 hc]
      show ((Sem.run T.P (storeCells ((⟨b, 0, none⟩ : Addr).add (n * step sz)) news) w).andThen _).andThen _ = _
      rw [show (⟨b, 0, none⟩ : Addr).add (n * step sz) = ⟨b, n * step sz, none⟩ by rw [Addr.add_lit, Nat.zero_add], hst]; rfl
    have e0 := h.dropObj id
    have e1 : Rel T vs N g (w.setCells b (n * step sz) news) { σ with H := σ.H.set id none } tm := by
      refine (h.dropObj id).write j2 (by rw [j3]; exact Nat.zero_le _) (by simp) rfl rfl (fun _ _ => rfl) (fun t e => by cases e) (fun t e => by cases e) (fun _ _ _ hc => hc) (fun i cs' e hcs => ?_) rfl (fun i e b' hb' => ?_)
      · simp only [Own.obj.injEq] at e
        subst e
        simp only [List.getElem?_set] at hcs
        simp at hcs
      · simp only [Own.obj.injEq] at e
        subst e
        rw [k1] at hb'; simpa using hb'.symm
    have x1 : Ext bar g w g (w.setCells b (n * step sz) news) := Ext.setCells (by rw [j3]; exact Nat.zero_le _) (by rw [j2]; simp) (fun i hi => by rw [j2]; simp; omega)
    have hlt : id < σ.H.length := (List.getElem?_eq_some_iff.1 hid).1
    have hb2 := j4.setCells (n * step sz) news hn1
    have hlen2 : (l ++ flat ys).length = n * step sz + m * step sz := by rw [List.length_append, hll, flat_length hys, hyl]
    obtain ⟨e2, e3, e4⟩ := e1.rename (bar := bar) (cs := l ++ flat ys) hbar (by simp [hlt]) ⟨j2, j3, hb2⟩ (by
      have ht : (setVals arr.toList (n * step sz) news).take (n * step sz + m * step sz) = arr.toList.take (n * step sz) ++ news := by
        apply List.ext_getElem?
        intro k
        rw [List.getElem?_take]
        by_cases c1 : k < n * step sz
        · rw [if_pos (by omega), setVals_get_lt _ _ _ _ c1, List.getElem?_append_left (by simp; omega), List.getElem?_take, if_pos c1]
        · by_cases c2 : k < n * step sz + m * step sz
          · rw [if_pos c2, List.getElem?_append_right (by simp; omega)]
            obtain ⟨j, rfl⟩ : ∃ j, k = n * step sz + j := ⟨k - n * step sz, by omega⟩
            rw [setVals_get_mid _ _ _ _ (by simp; omega) (by omega)]
            congr 1
            simp; omega
          · rw [if_neg c2, List.getElem?_eq_none]
            simp; omega
      rw [hlen2, ht]
      exact (Vs.mono x1 hpre).append (Vs.mono x1 hn)) (by rw [hlen2]; simp [setVals_length]; omega)
    refine ok_val' hres (by rw [hr]) (x1.trans e2) (by simpa using e3) (.of_V ?_)
    exact ha _ _ b cap ty sz' (by simpa using e4) ((x1.trans e2).shape b _ k2) (by simpa using k3) hc (hQ1 b ty sz' k1 k2)
  · have hgc : cap < n + m := by omega
    have hge := grownCap_ge w (n + m) cap e
    have hres := hrun.2 hgc (arr.toList.take (n * step sz)) (fun w' hw => by
      refine run_firstCells_some w' (step sz) n ⟨b, 0, none⟩ n cap _ (by simp; simp at q1; omega) fun j v hv => ?_
      rw [Addr.add_lit]
      rw [List.getElem?_take] at hv
      split at hv
      · have := j4.cell j
        simp only [World.cell?, hw] at this ⊢
        rw [Nat.zero_add, this, ← Array.getElem?_toList]; exact hv
      · cases hv)
    have hlt : id < σ.H.length := (List.getElem?_eq_some_iff.1 hid).1
    have hsize : ((arr.toList.take (n * step sz)).toArray ++ news.toArray ++ Builtin.zeroCells z.cells (grownCap w (n + m) cap e - (n + m))).size = grownCap w (n + m) cap e * step sz := by
      simp only [Array.size_append, List.size_toArray, size_zeroCells, hzs, hnl]
      have : (arr.toList.take (n * step sz)).length = n * step sz := by simp; simp at q1; omega
      rw [this, ← Nat.add_mul, ← Nat.add_mul]
      congr 1; omega
    have hm : More w (w.drew.alloc (.cells ((arr.toList.take (n * step sz)).toArray ++ news.toArray ++ Builtin.zeroCells z.cells (grownCap w (n + m) cap e - (n + m))) e)) (.cells ((arr.toList.take (n * step sz)).toArray ++ news.toArray ++ Builtin.zeroCells z.cells (grownCap w (n + m) cap e - (n + m))) e (0, 0)) := ⟨rfl, rfl, rfl⟩
    have hlen2 : (l ++ flat ys).length = ((arr.toList.take (n * step sz)) ++ news).length := by rw [List.length_append, hll, flat_length hys, hyl, List.length_append, hnl]; simp; simp at q1; omega
    obtain ⟨e1, e2, e3⟩ := (h.dropObj id).newObj (bar := bar) (cs := l ++ flat ys) hm (fun k _ => by simp) (fun v hv => by
      simp only [Array.toList_append, List.mem_append] at hv
      rcases hv with (hv | hv) | hv
      · exact hone v hv
      · exact hn1 v hv
      · exact zeroCells_one hz v hv) (by
      rw [hlen2]
      simp only [Array.toList_append]
      rw [List.take_left' rfl]
      exact hpre.append hn) (by
      rw [hlen2, hsize]
      have : (n + m) * step sz ≤ grownCap w (n + m) cap e * step sz := Nat.mul_le_mul_right _ hge
      rw [List.length_append, hnl]; simp; omega)
    refine ok_val' hres (by rw [hr]) e1 (by simpa using e2) (.of_V ?_)
    refine ha _ _ w.heap.size _ e _ (by simpa using e3) (by simp only [World.shape?, hm.new]; rfl) ?_ hge hQ2
    have := hsize
    simp only [Array.size_append, List.size_toArray] at this ⊢
    omega

theorem app_msl {e : Nat} {z : Value} {sz st id n m : Nat} {cs l ys : List AV} {news : List Value} (h : Rel T vs N g w σ tm) (hz : ∀ v ∈ z.cells.toList, v.oneCell' = true) (hzs : z.cells.size = step sz)
    {v : Value} {cap : Nat} {base : Option Addr} (hv : V T g w (.msl st id 0 n) v) (hve : v = .slice base n cap) (hst : st = step sz) (hbar : bar ≤ id) (hid : σ.H[id]? = some (some cs)) (hl : sub cs 0 (n * st) = some l) (hys : ∀ x ∈ ys, x.cells.length = step sz)
    (hn : Vs T g w (flat ys) news) (hn1 : ∀ u ∈ news, u.oneCell' = true) (hyl : ys.length = m) {res : Result Next} (hrun : appRun T.P w e z sz n m cap base news res)
    (hr : r = .ok (.msl st σ.H.length 0 (n + m)) { σ with H := σ.H.set id none ++ [some (l ++ flat ys)] }) : OpOKr T res (OpPost T bar vs N g w tm r) (PanPost T bar vs N g w tm r) :=
  app_msl0 (Q := fun _ => True) h hz hzs hv hve hst hbar hid hl hys hn hn1 hyl hrun (fun _ _ _ _ _ => trivial) trivial
    (fun _ _ b cap ty k h1 h2 h3 h4 _ => .msl _ _ 0 _ b cap ty k h1 h2 (by rw [hst]; simpa using h3) h4 (by rw [hst]; exact step_pos sz)) hr


theorem app_own {e : Nat} {z : Value} {sz n m : Nat} {p : Perm} {es ys : List AV} {news : List Value} (h : Rel T vs N g w σ tm) (hz : ∀ v ∈ z.cells.toList, v.oneCell' = true) (hzs : z.cells.size = step sz)
    {v : Value} {cap : Nat} {base : Option Addr} (hp : p ≠ .ro) (hv : SV T g w .res (.slc p es) v) (hve : v = .slice base n cap) (hhd : hdOk sz es = true) (hel : es.length = n) (hys : ∀ x ∈ ys, x.cells.length = step sz)
    (hn : Vs T g w (flat ys) news) (hn1 : ∀ u ∈ news, u.oneCell' = true) (hyl : ys.length = m) {res : Result Next} (hrun : appRun T.P w e z sz n m cap base news res)
    (hr : r = .ok (.slc p (es ++ ys)) σ) : OpOKr T res (OpPost T bar vs N g w tm r) (PanPost T bar vs N g w tm r) := by
  obtain ⟨b0, off0, cap0, us, st0, p1, p2, p3, p4, p5⟩ := hv.row
  have hu : ∀ x ∈ es, x.cells.length = step sz := hdOk_uni hhd p4
  have hnl : news.length = m * step sz := by rw [← hn.length, flat_length hys, hyl]
  have hul : us.length = n * step sz := by rw [← p2.length, flat_length hu, hel]
  have hsz : (n + m) * step sz = n * step sz + m * step sz := Nat.add_mul _ _ _
  rw [hve] at p1
  simp only [Value.slice.injEq] at p1
  obtain ⟨rfl, _, rfl⟩ := p1
  by_cases hc : n + m ≤ cap
  · have hnn := hrun.1 hc
    have hadd : (⟨b0, off0, none⟩ : Addr).add (n * step sz) = ⟨b0, off0 + n * step sz, none⟩ := Addr.add_lit ..
    by_cases hes : es = []
    · have hcap : cap = 0 := by
        cases p with
        | ro => exact absurd rfl hp
        | own =>
          obtain ⟨b, off, cap', arr, st, e, _, _, _, h6, _⟩ := hv
          rw [hve] at e; simp only [Value.slice.injEq] at e
          rw [e.2.2]; exact h6.2 hes
        | app =>
          obtain ⟨b, off, cap', arr, st, e, _, _, _, _, _, h6, _⟩ := hv
          rw [hve] at e; simp only [Value.slice.injEq] at e
          rw [e.2.2]; exact h6.2 hes
      have hm0 : m = 0 := by omega
      subst hm0
      have hy0 : ys = [] := List.eq_nil_of_length_eq_zero hyl
      have hn0 : news = [] := List.eq_nil_of_length_eq_zero (by omega)
      subst hn0
      have hres : res = .ok (.value v) w := by
        rw [hnn]
        simp [storeCells, hve]
      refine ok_val' hres (by rw [hr, hy0, List.append_nil]) (.refl _ _ _) h (.of_SV hv)
    · have hres : ∀ {arr : Array Value}, blk w b0 arr → off0 + (n + m) * step sz ≤ arr.size → res = .ok (.value (.slice (some ⟨b0, off0, none⟩) (n + m) cap)) (w.setCells b0 (off0 + n * step sz) news) := fun {arr} hb hfit => by
        have hst := run_storeCells_blk (P := T.P) hb (off0 + n * step sz) news hn1 (by omega)
        rw [hnn]
        show ((Sem.run T.P (storeCells ((⟨b0, off0, none⟩ : Addr).add (n * step sz)) news) w).andThen _).andThen _ = _
        rw [hadd, hst]; rfl
      have hne : ∀ {st : Nat}, (∀ x ∈ es, x.cells.length = st) → st = step sz := fun {st} hs => by
        cases es with
        | nil => exact absurd rfl hes
        | cons e0 es => exact (hs e0 (by simp)).symm.trans (hu e0 (by simp))
      have hmul : ∀ {arr : Array Value}, off0 + cap * step sz ≤ arr.size → off0 + (n + m) * step sz ≤ arr.size := fun {arr} hh => by
        have : (n + m) * step sz ≤ cap * step sz := Nat.mul_le_mul_right _ hc
        omega
      have hnil : es ++ ys = [] → cap = 0 := fun e => absurd (List.append_eq_nil_iff.1 e).1 hes
      have hlen : (es ++ ys).length = n + m := by simp [hel, hyl]
      cases p with
      | ro => exact absurd rfl hp
      | own =>
        obtain ⟨b, off, cap', arr, st, e, ⟨h1, h2, h3⟩, h4, h5, h6, h7, h8⟩ := hv
        rw [hve] at e; simp only [Value.slice.injEq, Option.some.injEq, Addr.mk.injEq, and_true] at e
        obtain ⟨⟨rfl, rfl⟩, _, rfl⟩ := e
        have := hne h7; subst this
        have x1 : Ext bar g w g (w.setCells b0 (off0 + n * step sz) news) := Ext.setCells (by rw [h2]; exact Nat.zero_le _) (by rw [h1]; simp) (fun i hi => by rw [h1]; simp)
        refine ok_val' (hres h3 (hmul h4)) hr x1 (h.write_res h1 (by rw [h2]; exact Nat.zero_le _)) (.of_SV ?_)
        obtain ⟨r1, us', r2, r3⟩ := row_more ⟨h7, h8⟩ hn hys hel hyl (hmul h4)
        exact ⟨b0, off0, cap, _, step sz, by rw [hlen], ⟨h1, h2, h3.setCells _ news hn1⟩, by simpa [setVals_length] using h4, by rw [hlen]; exact hc, ⟨h6.1, hnil⟩, r1, us', Vs.mono x1 r2, r3⟩
      | app =>
        obtain ⟨b, off, cap', arr, st, e, h1, h2, h3, h4, h5, h6, h7, h8⟩ := hv
        rw [hve] at e; simp only [Value.slice.injEq, Option.some.injEq, Addr.mk.injEq, and_true] at e
        obtain ⟨⟨rfl, rfl⟩, _, rfl⟩ := e
        have := hne h7; subst this
        rw [hel] at h2
        have x1 : Ext bar g w g (w.setCells b0 (off0 + n * step sz) news) := Ext.setCells (by rw [h2]; exact Nat.le_refl _) (by rw [h1]; simp) (fun i hi => by rw [h1]; simp)
        have e1 := h.write_res (us := news) h1 (by rw [h2]; exact Nat.le_refl (off0 + n * step sz))
        have x2 : Ext bar g (w.setCells b0 (off0 + n * step sz) news) (g.settle b0 (off0 + (n + m) * step sz)) (w.setCells b0 (off0 + n * step sz) news) := Ext.settle (by omega) (by rw [h1]; simp) (by rw [h1]; simp)
        have hb2 := h3.setCells (off0 + n * step sz) news hn1
        refine ok_val' (hres h3 (hmul h4)) hr (x1.trans x2) (e1.settle_res h1 (by omega) hb2.lt) (.of_SV ?_)
        obtain ⟨r1, us', r2, r3⟩ := row_more ⟨h7, h8⟩ hn hys hel hyl (hmul h4)
        exact ⟨b0, off0, cap, _, step sz, by rw [hlen], h1, by simp [Gh.settle, hlen], hb2, by simpa [setVals_length] using h4, by rw [hlen]; exact hc, ⟨h6.1, hnil⟩, r1, us', Vs.mono (x1.trans x2) r2, r3⟩
  · have hgc : cap < n + m := by omega
    have hres := hrun.2 hgc us (fun w' hw => run_firstCells_some w' (step sz) n ⟨b0, off0, none⟩ n cap us hul fun j v hv => by
      rw [Addr.add_lit]
      have := p5 j v hv
      simpa only [World.cell?, hw] using this)
    have key := app_grown (bar := bar) (h0 := false) (p := .own) (r := .ok (.slc .own (es ++ ys)) σ) h hz hzs hu hys p2 hn p3 hn1 hel hyl rfl (by omega) hres rfl
    cases p with
    | ro => exact absurd rfl hp
    | own => rw [hr]; exact key
    | app =>
      rw [hr]
      refine key.imp (fun v w hvw => hvw.weaken) (fun v w hvw => ?_)
      obtain ⟨_, _, _, e, _⟩ := hvw
      cases e

theorem appRun_nil {P : Program} {e : Nat} {z : Value} {sz n cap : Nat} {base : Option Addr} {res : Result Next} (h : appRun P w e z sz n 0 cap base [] res) (hn : n ≤ cap) : res = .ok (.value (.slice base n cap)) w := by
  rw [h.1 hn]
  cases base with
  | none => rfl
  | some a => simp [storeCells]

theorem op_append (h : Rel T vs N g w σ tm) {x1 x2 : Operand} {y1 y2 : Opd} {h0 : Bool} {t u sz : Nat} {call : CallF} (ho : o.op = .call { callee := .builtin .append, args := #[x1, x2], argTypes := #[t, u] }) (h1 : chkX T vs N x1 y1 = true) (h2 : chkX T vs N x2 y2 = true)
    (hc : chkApp T.P t u sz = true) (he : evOp call bar (.append h0 sz y1 y2) σ = some r) : OpOKr T ((execOp (Act.mk tm ds).eval o).run T.P w) (OpPost T bar vs N g w tm r) (PanPost T bar vs N g w tm r) := by
  obtain ⟨e, d, i, z, c1, c2, c3, c4, c5, c6, c7, c8, c9⟩ := chkApp_get hc
  simp only [evOp] at he
  split at he
  · cases he
  · rename_i ys hys
    obtain ⟨news, n1, n2, n3, n4⟩ := (contents_rel (ds := ds) h h2 hys).read (P := T.P)
    have hyu := (contents_rel (ds := ds) h h2 hys).1
    have hrun : ∀ {n cap : Nat} {base : Option Addr}, (Act.mk tm ds).eval x1 = .slice base n cap → (n + ys.length) * step sz ≤ lim → appRun T.P w e z sz n ys.length cap base news ((execOp (Act.mk tm ds).eval o).run T.P w) := fun {n cap base} hv hl => by
      obtain ⟨k1, k2⟩ := run_append_gen (P := T.P) (w := w) (ty := o.type) (base := base) (n := n) (cap := cap) (z := z) c1 c2 c3 c4 c5 c6 c7 hl n4
      have hx : (execOp (Act.mk tm ds).eval o).run T.P w = ((Builtin.append_ #[t, u] o.type #[.slice base n cap, (Act.mk tm ds).eval x2]).run T.P w).andThen fun v w => .ok (.value v) w := by
        simp [execOp, ho, resolve, invoke, builtin, hv]
      refine ⟨fun hle => ?_, fun hg olds hol => ?_⟩
      · rw [hx, k1 hle]
        cases base <;> rfl
      · rw [hx, k2 hg olds hol]; rfl
    have hr1 := opd_rel (ds := ds) h h1
    split at he
    · rename_i st id off n ha
      rw [ha] at hr1
      cases hcond : (Nat.ble bar id && Nat.beq st (step sz) && Nat.ble ((n + ys.length) * st) lim && Nat.beq off 0) with
      | false => simp [hcond] at he
      | true =>
        simp only [hcond, cond_true] at he
        simp only [Bool.and_eq_true] at hcond
        obtain ⟨⟨⟨q1, q2⟩, q3⟩, q4⟩ := hcond
        have q2 := beq_nat q2
        have q4 := beq_nat q4
        subst q4
        split at he
        · rename_i cs hid
          split at he
          · rename_i l hl
            simp only [Option.some.injEq] at he
            have hV : V T g w (.msl st id 0 n) ((Act.mk tm ds).eval x1) := hr1
            obtain ⟨b, cap, ty, m', k1, k2, k3, k4, k5, k6⟩ := V.msl_inv hV
            exact app_msl h c9 (by rw [c8, c6]) hV k6 q2 (Nat.le_of_ble_eq_true q1) hid hl hyu n1 n2 rfl (hrun k6 (by rw [← q2]; exact Nat.le_of_ble_eq_true q3)) he.symm
          · cases he
        · cases he
    · rename_i ha
      rw [ha] at hr1
      have hv := V.nils_inv hr1
      split at he
      · simp only [Option.some.injEq] at he
        have hl : (0 + ([] : List AV).length) * step sz ≤ lim := by simp
        have hnn : news = [] := List.eq_nil_of_length_eq_zero (by rw [n3]; simp)
        subst hnn
        exact ok_val (appRun_nil (hrun hv hl) (Nat.le_refl _)) h he.symm (.of_V .nils)
      · rename_i hne
        cases hlim : Nat.ble (ys.length * step sz) lim with
        | false => simp [hlim] at he
        | true =>
          simp only [hlim, cond_true] at he
          have hpos : 0 < ys.length := by
            rcases Nat.eq_zero_or_pos ys.length with h0 | h0
            · exact absurd (List.eq_nil_of_length_eq_zero h0) hne
            · exact h0
          have hl : (0 + ys.length) * step sz ≤ lim := by rw [Nat.zero_add]; exact Nat.le_of_ble_eq_true hlim
          have hres := (hrun hv hl).2 (by omega) [] (fun w' _ => by simp [Builtin.firstCells])
          have hr : r = bif h0 then Ak.newRow σ (step sz) ([] ++ ys) else .ok (.slc .own ([] ++ ys)) σ := by
            cases h0 <;> simp only [cond_true, cond_false, Option.some.injEq, List.nil_append] at he ⊢ <;> exact he.symm
          exact app_grown (n := 0) (es := []) (olds := []) (p := .own) h c9 (by rw [c8, c6]) (by simp) hyu .nil n1 (by simp) n2 rfl rfl rfl (by omega) hres hr
    · split at he
      · rename_i es σ' ht
        obtain ⟨g', e1, e2, e3, _⟩ := take_rel (ds := ds) (bar := bar) h h1 ht
        split at he
        · simp only [Option.some.injEq] at he
          obtain ⟨_, b, o', us, st, cap, _, _, _, _, k5, k6⟩ := V.slc_inv e3
          have hnn : news = [] := List.eq_nil_of_length_eq_zero (by rw [n3]; simp)
          subst hnn
          have hx : (execOp (Act.mk tm ds).eval o).run T.P w = ((Builtin.append_ #[t, u] o.type #[.slice (some ⟨b, o', none⟩) es.length cap, (Act.mk tm ds).eval x2]).run T.P w).andThen fun v w => .ok (.value v) w := by
            simp [execOp, ho, resolve, invoke, builtin, k6]
          obtain ⟨l1, f1⟩ := n4 w rfl
          have hru : (execOp (Act.mk tm ds).eval o).run T.P w = .ok (.value ((Act.mk tm ds).eval x1)) w := by
            rw [hx, run_append_in c1 c2 c3 c4 c6 l1 f1 k5, k6]
            rfl
          exact ok_val' hru he.symm e1 e2 (.of_SV e3)
        · cases he
      · rename_i p es σ' hp ht
        obtain ⟨g', e1, e2, e3, _⟩ := take_rel (ds := ds) (bar := bar) h h1 ht
        cases hcond : (hdOk sz es && Nat.ble ((es.length + ys.length) * step sz) lim) with
        | false => simp [hcond] at he
        | true =>
          simp only [hcond, cond_true, Option.some.injEq] at he
          simp only [Bool.and_eq_true] at hcond
          obtain ⟨b0, off0, cap0, us, st0, p1, _⟩ := e3.row
          have hp' : p ≠ .ro := fun e => by subst e; exact hp rfl
          have := app_own (bar := bar) (r := r) e2 c9 (by rw [c8, c6]) hp' e3 p1 hcond.1 rfl hyu (Vs.mono e1 n1) n2 rfl (hrun p1 (Nat.le_of_ble_eq_true hcond.2)) he.symm
          refine this.imp (fun v w'' hh => ?_) (fun v w'' hh => ?_)
          · obtain ⟨a, s2, g2, k1, k2, k3, k4⟩ := hh
            exact ⟨a, s2, g2, k1, e1.trans k2, k3, k4⟩
          · obtain ⟨a, s2, g2, k1, k2, k3, k4⟩ := hh
            exact ⟨a, s2, g2, k1, e1.trans k2, k3, k4⟩
      · cases he

/-- .. of bytes, the buffer's type known. -/
theorem op_appB (h : Rel T vs N g w σ tm) {x1 x2 : Operand} {y1 y2 : Opd} {t u : Nat} {call : CallF} (ho : o.op = .call { callee := .builtin .append, args := #[x1, x2], argTypes := #[t, u] }) (h1 : chkX T vs N x1 y1 = true) (h2 : chkX T vs N x2 y2 = true)
    (hc : chkApp T.P t u 0 = true) (ht : T.P.underlying t = some (.slice (T.tm 5))) (he : evOp call bar (.appB y1 y2) σ = some r) : OpOKr T ((execOp (Act.mk tm ds).eval o).run T.P w) (OpPost T bar vs N g w tm r) (PanPost T bar vs N g w tm r) := by
  obtain ⟨e, d, i, z, c1, c2, c3, c4, c5, c6, c7, c8, c9⟩ := chkApp_get hc
  have hte : e = T.tm 5 := by rw [ht] at c1; cases c1; rfl
  subst hte
  simp only [evOp] at he
  split at he
  · cases he
  · rename_i ys hys
    obtain ⟨news, n1, n2, n3, n4⟩ := (contents_rel (ds := ds) h h2 hys).read (P := T.P)
    have hyu := (contents_rel (ds := ds) h h2 hys).1
    have hs1 : step 0 = 1 := rfl
    have hrun : ∀ {n cap : Nat} {base : Option Addr}, (Act.mk tm ds).eval x1 = .slice base n cap → (n + ys.length) * step 0 ≤ lim → appRun T.P w (T.tm 5) z 0 n ys.length cap base news ((execOp (Act.mk tm ds).eval o).run T.P w) := fun {n cap base} hv hl => by
      obtain ⟨k1, k2⟩ := run_append_gen (P := T.P) (w := w) (ty := o.type) (base := base) (n := n) (cap := cap) (z := z) c1 c2 c3 c4 c5 c6 c7 hl n4
      have hx : (execOp (Act.mk tm ds).eval o).run T.P w = ((Builtin.append_ #[t, u] o.type #[.slice base n cap, (Act.mk tm ds).eval x2]).run T.P w).andThen fun v w => .ok (.value v) w := by
        simp [execOp, ho, resolve, invoke, builtin, hv]
      refine ⟨fun hle => ?_, fun hg olds hol => ?_⟩
      · rw [hx, k1 hle]
        cases base <;> rfl
      · rw [hx, k2 hg olds hol]; rfl
    have hr1 := opd_rel (ds := ds) h h1
    split at he
    · rename_i id n ha
      rw [ha] at hr1
      cases hcond : (Nat.ble bar id && Nat.ble (n + ys.length) lim) with
      | false => simp [hcond] at he
      | true =>
        simp only [hcond, cond_true] at he
        simp only [Bool.and_eq_true] at hcond
        obtain ⟨q1, q3⟩ := hcond
        split at he
        · rename_i cs hid
          split at he
          · rename_i l hl
            simp only [Option.some.injEq] at he
            have hV0 : V T g w (.bsl id n) ((Act.mk tm ds).eval x1) := hr1
            obtain ⟨b, cap, m', k1, k2, k3, k4, k5⟩ := V.bsl_inv hV0
            have hV : V T g w (.msl 1 id 0 n) ((Act.mk tm ds).eval x1) := by rw [k5]; exact .msl 1 id 0 n b cap _ _ k1 k2 (by omega) k4 (by omega)
            exact app_msl0 (Q := fun ty => ty = T.tm 5) h c9 (by rw [c8, c6]) hV k5 hs1.symm (Nat.le_of_ble_eq_true q1) hid (by simpa using hl) hyu n1 n2 rfl (hrun k5 (by rw [hs1, Nat.mul_one]; exact Nat.le_of_ble_eq_true q3))
              (fun b' ty k z1 z2 => by rw [k1] at z1; cases z1; rw [k2] at z2; cases z2; rfl) rfl
              (fun g' w' b cap ty k z1 z2 z3 z4 z5 => by subst z5; exact .bsl _ _ b cap k z1 z2 (by simpa [hs1] using z3) z4) he.symm
          · cases he
        · cases he
    · rename_i ha
      rw [ha] at hr1
      have hv := V.nils_inv hr1
      split at he
      · simp only [Option.some.injEq] at he
        have hl : (0 + ([] : List AV).length) * step 0 ≤ lim := by simp
        have hnn : news = [] := List.eq_nil_of_length_eq_zero (by rw [n3]; simp)
        subst hnn
        exact ok_val (appRun_nil (hrun hv hl) (Nat.le_refl _)) h he.symm (.of_V .nils)
      · rename_i hne
        cases hlim : Nat.ble ys.length lim with
        | false => simp [hlim] at he
        | true =>
          simp only [hlim, cond_true, Option.some.injEq] at he
          have hpos : 0 < ys.length := by
            rcases Nat.eq_zero_or_pos ys.length with h0 | h0
            · exact absurd (List.eq_nil_of_length_eq_zero h0) hne
            · exact h0
          have hl : (0 + ys.length) * step 0 ≤ lim := by rw [Nat.zero_add, hs1, Nat.mul_one]; exact Nat.le_of_ble_eq_true hlim
          have hres := (hrun hv hl).2 (by omega) [] (fun w' _ => by simp [Builtin.firstCells])
          rw [Nat.zero_add] at hres
          have hge := grownCap_ge w ys.length 0 (T.tm 5)
          have hfl : (flat ys).length = news.length := n1.length
          have hnl : news.length = ys.length := by rw [n3, hs1, Nat.mul_one]
          have hzz : z.cells.size = 1 := by rw [c8, c6, hs1]
          have hm : More w (w.drew.alloc (.cells (([] : List Value).toArray ++ news.toArray ++ Builtin.zeroCells z.cells (grownCap w ys.length 0 (T.tm 5) - ys.length)) (T.tm 5))) (.cells (([] : List Value).toArray ++ news.toArray ++ Builtin.zeroCells z.cells (grownCap w ys.length 0 (T.tm 5) - ys.length)) (T.tm 5) (0, 0)) := ⟨rfl, rfl, rfl⟩
          obtain ⟨e1, e2, e3⟩ := h.newObj (bar := bar) (cs := flat ys) hm (fun k _ => by simp) (fun v hv => by
              simp only [Array.toList_append, List.mem_append] at hv
              rcases hv with (hv | hv) | hv
              · simp at hv
              · exact n2 v hv
              · exact zeroCells_one c9 v hv) (by
              simp only [Array.toList_append, List.nil_append]
              rw [List.take_append_of_le_length (by simp [hfl]), hfl]
              simpa using n1) (by simp [hfl])
          refine ok_val' hres he.symm e1 e2 (.of_V ?_)
          refine .bsl _ _ _ _ _ e3 (by simp only [World.shape?, hm.new]; rfl) ?_ hge
          simp [size_zeroCells, hzz, hnl]
          omega
    · cases he

end
end Go.Ak

namespace Go.Ak

theorem chkN_size {P : Program} {t : Nat} {n : Option Nat} (h : chkN P t n = true) : ∃ i, P.info? t = some i ∧ i.size = cellsN n := by
  cases n with
  | none => exact chkElem_size (chkN_none h)
  | some n =>
    obtain ⟨h0, h1⟩ := chkN_some h
    obtain ⟨i, h2, h3⟩ := chkElem_size h1
    exact ⟨i, h2, by rw [h3, step_of_ne h0]; rfl⟩

section
variable {T : Tr} {bar : Nat} {vs : List Nat} {N : Nat} {g : Gh} {w : World} {σ : St} {tm : Array Value} {ds : List Deferred} {o : Oper} {r : OpR}

theorem op_store (h : Rel T vs N g w σ tm) {x1 x2 : Operand} {y1 y2 : Opd} {t : Nat} {n : Option Nat} {call : CallF} (ho : o.op = .store t x1 x2) (h1 : chkX T vs N x1 y1 = true) (h2 : chkX T vs N x2 y2 = true) (hn : chkN T.P t n = true)
    (he : evOp call bar (.store n y1 y2) σ = some r) : OpOKr T ((execOp (Act.mk tm ds).eval o).run T.P w) (OpPost T bar vs N g w tm r) (PanPost T bar vs N g w tm r) := by
  simp only [evOp] at he
  split at he
  · rename_i a σ' hesc
    obtain ⟨g1, e1, e2, e3, e4, e5, _⟩ := esc_rel (ds := ds) (bar := bar) h h2 hesc
    have hcl := V.cells e3 (V.defined e4) e5
    cases hl : Nat.beq a.cells.length (cellsN n) with
    | false => simp [hl] at he
    | true =>
      simp only [hl, cond_true] at he
      split at he
      · rename_i σ2 hw
        simp only [Option.some.injEq] at he
        obtain ⟨b, off, arr, k1, k2, k3, k4, k5⟩ := wr_rel (bar := bar) e2 (opd_rel (ds := ds) e2 h1) hcl.1 hcl.2 hw
        obtain ⟨i, i1, i2⟩ := chkN_size hn
        have hsz : ((Act.mk tm ds).eval x2).cells.size = i.size := by
          have h1 := hcl.1.length
          have h2 := beq_nat hl
          rw [i2, ← h2, h1]; simp
        have hrun : (execOp (Act.mk tm ds).eval o).run T.P w = .ok .skip (w.setCells b off ((Act.mk tm ds).eval x2).cells.toList) := by
          have hst := run_storeCells_blk (P := T.P) k2 off _ hcl.2 k3
          simp only [execOp, ho, Instr.storeAt, k1, Instr.sureAddr, Sem.run_bind, Sem.run_pure, Result.andThen_ok, storeVar, run_sizeOf' i1]
          simp [hsz, hst]
        rw [hrun]
        exact ⟨.undef, σ2, g1, he.symm, e1.trans k4, k5, V.undef _⟩
      · cases he
  · cases he

theorem op_panic (h : Rel T vs N g w σ tm) {x : Operand} {y : Opd} {call : CallF} (ho : o.op = .panic x) (hc : chkX T vs N x y = true) (he : evOp call bar (.panic y) σ = some r) :
    OpOKr T ((execOp (Act.mk tm ds).eval o).run T.P w) (OpPost T bar vs N g w tm r) (PanPost T bar vs N g w tm r) := by
  simp only [evOp] at he
  split at he
  · rename_i t v σ' hesc
    simp only [Option.some.injEq] at he
    obtain ⟨g1, e1, e2, e3, _⟩ := esc_rel (ds := ds) (bar := bar) h hc hesc
    obtain ⟨u, k1, k2⟩ := V.ifc_inv e3
    have hrun : (execOp (Act.mk tm ds).eval o).run T.P w = .halt (.panic ((Act.mk tm ds).eval x)) w := by
      simp [execOp, ho, k2, Instr.panic, goPanic]
    rw [hrun]
    exact ⟨_, σ', g1, he.symm, e1, e2, e3⟩
  · cases he

theorem op_s2b (h : Rel T vs N g w σ tm) {x : Operand} {y : Opd} {s d e : Nat} {h0 : Bool} {call : CallF} (ho : o.op = .convert s d x) (hc : chkX T vs N x y = true) (hs : T.P.underlying s = some .string) (hd : T.P.underlying d = some (.slice e)) (hu : T.P.underlying e = some (.int .u8))
    (he : evOp call bar (.s2b h0 y) σ = some r) : OpOKr T ((execOp (Act.mk tm ds).eval o).run T.P w) (OpPost T bar vs N g w tm r) (PanPost T bar vs N g w tm r) := by
  simp only [evOp] at he
  split at he
  · rename_i s' hop
    have hv := opd_str (ds := ds) h hc hop
    have hsz : (⟨s'.toArray⟩ : ByteArray).size = s'.length := rfl
    have hge := grownCap_ge w s'.length 0 e
    have hrun : (execOp (Act.mk tm ds).eval o).run T.P w = .ok (.value (.slice (some ⟨w.heap.size, 0, none⟩) (bytesOf s').length (grownCap w s'.length 0 e))) (Lib.bytesWorld w e ⟨s'.toArray⟩) := by
      simp only [execOp, ho, hv, Sem.run_bind, Lib.run_convert_string_bytes w s d e _ hs hd hu, Result.andThen_ok, Sem.run_pure, hsz]
      simp [bytesOf]
    have hcs : (Lib.bytesCells w e ⟨s'.toArray⟩).toList = (s'.map fun b => Value.int .u8 b.toNat) ++ List.replicate (grownCap w s'.length 0 e - s'.length) (.int .u8 0) := by
      simp [Lib.bytesCells, hsz]
    have hcz : (Lib.bytesCells w e ⟨s'.toArray⟩).size = grownCap w s'.length 0 e := by
      rw [← Array.length_toList, hcs]; simp; omega
    have hm : More w (Lib.bytesWorld w e ⟨s'.toArray⟩) (.cells (Lib.bytesCells w e ⟨s'.toArray⟩) e ((Lib.bytesCells w e ⟨s'.toArray⟩).size, (Lib.bytesCells w e ⟨s'.toArray⟩).size + 1)) := by
      refine ⟨?_, rfl, rfl⟩
      apply Array.ext'
      apply List.ext_getElem?
      intro i
      rw [Array.getElem?_toList, Array.getElem?_toList]
      by_cases c : i < w.heap.size
      · rw [Lib.bytesWorld_at_old w e _ i c, Array.getElem?_push]
        rw [if_neg (by omega)]
      · by_cases c2 : i = w.heap.size
        · subst c2
          rw [Lib.bytesWorld_at_new, Array.getElem?_push]; simp
        · rw [Array.getElem?_eq_none (by rw [Lib.bytesWorld_size]; omega), Array.getElem?_eq_none (by simp; omega)]
    by_cases h00 : h0 = false ∧ s' = []
    · obtain ⟨rfl, rfl⟩ := h00
      simp only [cond_false, Option.some.injEq] at he
      obtain ⟨e1, e2, _⟩ := h.more (bar := bar) hm
      exact ok_val' hrun he.symm e1 e2 (.of_V (.slc [] w.heap.size 0 [] 1 _ (fun k v hk => by simp at hk) .nil (by simp) (by omega) (by simp)))
    have hs0 : h0 = true ∨ ∃ a l, s' = a :: l := by
      cases h0 with
      | true => exact .inl rfl
      | false => cases s' with
        | nil => exact absurd ⟨rfl, rfl⟩ h00
        | cons a l => exact .inr ⟨a, l, rfl⟩
    refine row_made (bar := bar) (h0 := h0) (st := 1) (es := bytesOf s') (us := s'.map fun b => Value.int .u8 b.toNat) h hm (fun k hk hh => by have := hh.1; omega) (fun v hv => ?_) (by rw [flat_bytes]; exact Vs.bytes s') ?_ (fun x hx => ?_) (by omega) (by rw [hcz]; omega) (by simp [bytesOf]; exact hge) hrun ?_ ?_
    · rw [hcs] at hv
      rcases List.mem_append.1 hv with hv | hv
      · obtain ⟨b, _, rfl⟩ := List.mem_map.1 hv; rfl
      · rw [List.eq_of_mem_replicate hv]; rfl
    · rw [hcs, List.take_left']
      simp
    · obtain ⟨b, _, rfl⟩ := List.mem_map.1 hx; rfl
    · rcases hs0 with rfl | ⟨a, l, rfl⟩
      · simp only [cond_true, Option.some.injEq] at he ⊢; exact he.symm
      · cases h0 <;> simp only [cond_true, cond_false, Option.some.injEq] at he ⊢ <;> exact he.symm
    · intro e1 e2
      rcases hs0 with rfl | ⟨a, l, rfl⟩
      · cases e1
      · simp [bytesOf] at e2
  · cases he


theorem strOf_bytes : ∀ {l : List AV} {s : List UInt8} {us : List Value}, strOf l = some s → Vs T g w l us → ∃ ns : List Int, us = ns.map (Value.int .u8) ∧ ∀ acc : ByteArray, (ns.foldl (fun r n => r.push (UInt8.ofNat n.toNat)) acc) = ⟨acc.data ++ s.toArray⟩
  | [], s, us, h, hv => by
    cases hv
    simp only [strOf, Option.some.injEq] at h
    subst h
    exact ⟨[], rfl, fun acc => by simp⟩
  | a :: l, s, us, h, hv => by
    cases hv with
    | cons _ v _ vs h1 h2 =>
      unfold strOf at h
      split at h
      · rename_i e; cases e
      · rename_i n l' e
        cases e
        split at h
        · rename_i s' hs
          simp only [Option.some.injEq] at h
          subst h
          have := V.int_inv h1
          subst this
          obtain ⟨ns, k1, k2⟩ := strOf_bytes hs h2
          refine ⟨n :: ns, by simp [k1], fun acc => ?_⟩
          rw [List.foldl_cons, k2]
          congr 1
          apply Array.ext'
          simp [ByteArray.push]
        · cases h
      · cases h

theorem op_b2s (h : Rel T vs N g w σ tm) {x : Operand} {y : Opd} {s d e : Nat} {call : CallF} (ho : o.op = .convert s d x) (hc : chkX T vs N x y = true) (hs : T.P.underlying s = some (.slice e)) (hd : T.P.underlying d = some .string) (hu : T.P.underlying e = some (.int .u8))
    (he : evOp call bar (.b2s y) σ = some r) : OpOKr T ((execOp (Act.mk tm ds).eval o).run T.P w) (OpPost T bar vs N g w tm r) (PanPost T bar vs N g w tm r) := by
  have hr := opd_rel (ds := ds) h hc
  simp only [evOp] at he
  split at he
  · cases he
  rename_i hns
  split at he
  · rename_i l hl
    split at he
    · rename_i st hst
      simp only [Option.some.injEq] at he
      obtain ⟨h1, us, h2, h3, h4⟩ := contents_rel (ds := ds) h hc hl
      have hfl : flat l = l := by
        have : ∀ (l : List AV) (s : List UInt8), strOf l = some s → flat l = l := by
          intro l
          induction l with
          | nil => intro s _; rfl
          | cons a l ih =>
            intro s hs
            unfold strOf at hs
            split at hs
            · rename_i e; cases e
            · rename_i n l' e
              cases e
              split at hs
              · rename_i s' hs'
                have := ih s' hs'
                simp only [flat, List.flatMap_cons, AV.cells] at this ⊢
                rw [this]; rfl
              · cases hs
            · cases hs
        exact this l st hst
      rw [hfl] at h2
      obtain ⟨ns, k1, k2⟩ := strOf_bytes hst h2
      refine ok_val (v := .string ⟨st.toArray⟩) ?_ h he.symm (.of_V (.str st))
      rcases h4 with ⟨hv, hnil⟩ | ⟨b, off, cap, hv, hcell⟩ | ⟨s', hv, hb, _, hus⟩
      · subst hnil
        simp only [strOf, Option.some.injEq] at hst
        subst hst
        simp [execOp, ho, hv, convert, run_underlying hs, run_underlying hd, run_underlying hu, Conv.bytesToString]
        rfl
      · have hlc : (loadCells ⟨b, off, none⟩ l.length).run T.P w = .ok (ns.map (Value.int .u8)).toArray w := by
          have := run_loadCells_list (P := T.P) w ⟨b, off, none⟩ us (fun j v hj => by rw [Addr.add_lit]; exact hcell j v hj)
          rw [k1] at this
          have hlen : (ns.map (Value.int .u8)).length = l.length := by rw [← k1, ← h2.length]
          rw [hlen] at this
          exact this
        have := run_bytesToString (P := T.P) w ⟨b, off, none⟩ l.length cap ns hlc
        rw [k2] at this
        simp [execOp, ho, hv, convert, run_underlying hs, run_underlying hd, run_underlying hu, this]
      · exfalso
        unfold contents at hl
        split at hl
        · rename_i ha; rw [ha] at hr; rw [V.nils_inv hr] at hv; cases hv
        · rename_i p es ha
          rw [ha] at hr
          obtain ⟨b, off, cap, us', st', q1, _⟩ := SV.row (hr.SV_of rfl)
          rw [q1] at hv; cases hv
        · rename_i s2 ha; exact hns s2 ha
        · rename_i t' k lo n ha
          rw [ha] at hr
          cases hk : Nat.beq (ver σ.mods t') k with
          | false => simp [hk] at hl
          | true =>
            simp only [hk, cond_true] at hl
            split at hl
            · rename_i p es hlk
              obtain ⟨_, b, o', cap, st', xx, cap', _, _, j3, _⟩ := hr.2 (beq_nat hk).symm p es hlk
              rw [j3] at hv; cases hv
            · cases hl
        · rename_i st' id off n ha
          rw [ha] at hr
          obtain ⟨b, cap, ty, m, _, _, _, _, _, k6⟩ := V.msl_inv hr
          rw [k6] at hv; cases hv
        · cases hl
    · cases he
  · cases he


def chkO (T : Tr) (vs : List Nat) (N : Nat) : Option Operand → Option Opd → Bool
  | none, none => true
  | some x, some y => chkX T vs N x y
  | _, _ => false

def chkSl (P : Program) (t : Nat) : Option Nat → Bool
  | none => match P.underlying t with | some .string => true | _ => false
  | some sz => match P.underlying t with | some (.slice e) => chkElem P e sz | _ => false

theorem run_bounds {P : Program} (isS : Bool) (len cap l h' : Nat) (lo hi : Option Value) (hl : (lo = none ∧ l = 0) ∨ ∃ k, lo = some (.int k (l : Int))) (hh : (hi = none ∧ h' = len) ∨ ∃ k, hi = some (.int k (h' : Int))) (h1 : l ≤ h') (h2 : h' ≤ cap) (w : World) :
    (Instr.sliceBounds isS len cap lo hi none).run P w = .ok (l, h', cap) w := by
  have e1 : (0 : Int) ≤ (h' : Int) ∧ (h' : Int) ≤ (cap : Int) := by omega
  have e2 : (0 : Int) ≤ (l : Int) ∧ (l : Int) ≤ (h' : Int) := by omega
  rcases hl with ⟨rfl, rfl⟩ | ⟨k, rfl⟩ <;> rcases hh with ⟨rfl, rfl⟩ | ⟨k', rfl⟩ <;> simp [Instr.sliceBounds, Instr.sliceBound, asIntOf, h1, h2]

theorem chkO_some {lo : Option Operand} {yl : Option Opd} (h : Rel T vs N g w σ tm) (hc : chkO T vs N lo yl = true) {d n : Nat} (hb : bound σ d yl = some n) :
    (lo = none ∧ yl = none ∧ n = d) ∨ ∃ k, lo.map (Act.mk tm ds).eval = some (.int k (n : Int)) := by
  cases lo with
  | none => cases yl with
    | none => simp only [bound, Option.some.injEq] at hb; exact .inl ⟨rfl, rfl, hb.symm⟩
    | some y => simp [chkO] at hc
  | some x => cases yl with
    | none => simp [chkO] at hc
    | some y =>
      obtain ⟨k, hk⟩ := opd_nat (ds := ds) h hc hb
      exact .inr ⟨k, by simp [hk]⟩

theorem sliceA_rel (h : Rel T vs N g w σ tm) {x : Operand} {y : Opd} {t : Nat} {sz : Option Nat} (hc : chkX T vs N x y = true) (ht : chkSl T.P t sz = true) {lo hi : Option Value} {l : Nat} {hA : Option Nat} {a : AV}
    (hl : (lo = none ∧ l = 0) ∨ ∃ k, lo = some (.int k (l : Int))) (hh : (hi = none ∧ hA = none) ∨ ∃ k n, hA = some n ∧ hi = some (.int k (n : Int))) (he : sliceA σ sz (opdL σ y) l hA = some a) :
    ∃ v, (∀ w', (Instr.sliceAt t ((Act.mk tm ds).eval x) lo hi none).run T.P w' = .ok v w') ∧ AVR T g w σ tm .res a v := by
  have hr := opd_rel (ds := ds) h hc
  have hhi : ∀ d : Nat, (hi = none ∧ hA.getD d = d) ∨ ∃ k, hi = some (.int k ((hA.getD d : Nat) : Int)) := fun d => by
    rcases hh with ⟨h1, rfl⟩ | ⟨k, n, rfl, h1⟩
    · exact .inl ⟨h1, rfl⟩
    · exact .inr ⟨k, h1⟩
  have hhi' : ∀ d : Nat, (hi = none ∧ hA.getD d = d) ∨ ∃ k, hi = some (.int k ((hA.getD d : Nat) : Int)) := hhi
  have key : ∀ {b o' n cap : Nat}, (Act.mk tm ds).eval x = .slice (some ⟨b, o', none⟩) n cap → l ≤ hA.getD n → hA.getD n ≤ n → n ≤ cap → ∀ sz', sz = some sz' →
      ∃ v, (∀ w', (Instr.sliceAt t ((Act.mk tm ds).eval x) lo hi none).run T.P w' = .ok v w') ∧ ∃ x', v = .slice (some ⟨b, x', none⟩) (hA.getD n - l) (cap - l) ∧ (hA.getD n - l = 0 ∨ x' = o' + l * step sz') ∧ (l = 0 → x' = o') := fun {b o' n cap} hv q1 q2 q3 sz' hs => by
    subst hs
    simp only [chkSl] at ht
    split at ht
    · rename_i e hu
      obtain ⟨i, i1, i2⟩ := chkElem_size ht
      have hb := run_bounds (P := T.P) true n cap l (hA.getD n) lo hi hl (hhi n) q1 (by omega)
      by_cases hc : cap = l
      · refine ⟨_, ?_, o', rfl, .inl (by omega), fun _ => rfl⟩
        simp [Instr.sliceAt, Instr.slice, underlying, hu, hv, hb, run_sizeOf' i1]
        simp [hc]
      · refine ⟨_, ?_, o' + l * step sz', rfl, .inr rfl, fun e => by simp [e]⟩
        simp [Instr.sliceAt, Instr.slice, underlying, hu, hv, hb, run_sizeOf' i1, hc, i2, Addr.add_lit]
    · cases ht
  unfold sliceA at he
  split at he
  · rename_i s hL
    have hv := opd_str (ds := ds) h hc (opdL_some hL (by simp)).1
    cases hcond : (Nat.ble l (hA.getD s.length) && Nat.ble (hA.getD s.length) s.length) with
    | false => simp [hcond] at he
    | true =>
      simp only [hcond, cond_true, Option.some.injEq] at he
      simp only [Bool.and_eq_true] at hcond
      have q1 := Nat.le_of_ble_eq_true hcond.1
      have q2 := Nat.le_of_ble_eq_true hcond.2
      have hu : T.P.underlying t = some .string := by
        simp only [chkSl] at ht
        split at ht
        · assumption
        · cases ht
      have hb := run_bounds (P := T.P) false s.length s.length l (hA.getD s.length) lo hi hl (hhi _) q1 q2
      have hsz : (⟨s.toArray⟩ : ByteArray).size = s.length := rfl
      refine ⟨.string ((⟨s.toArray⟩ : ByteArray).extract l (hA.getD s.length)), ?_, ?_⟩
      · simp [Instr.sliceAt, Instr.slice, underlying, hu, hv, hsz, hb]
      · subst he
        have : (⟨s.toArray⟩ : ByteArray).extract l (hA.getD s.length) = ⟨((s.drop l).take (hA.getD s.length - l)).toArray⟩ := by
          rw [ByteArray.extract_mk]
        rw [this]
        exact .of_V (.str _)
  · rename_i sz' hL
    have hn := opdL_some hL (by simp)
    rw [hn.1] at hr
    have hv := V.nils_inv hr
    cases hcond : (Nat.beq l 0 && Nat.beq (hA.getD 0) 0) with
    | false => simp [hcond] at he
    | true =>
      simp only [hcond, cond_true, Option.some.injEq] at he
      simp only [Bool.and_eq_true] at hcond
      have q1 := beq_nat hcond.1
      have q2 := beq_nat hcond.2
      subst q1
      simp only [chkSl] at ht
      split at ht
      · rename_i e hu
        obtain ⟨i, i1, i2⟩ := chkElem_size ht
        have hb := run_bounds (P := T.P) true 0 0 0 0 lo hi hl (by have := hhi 0; rw [q2] at this; exact this) (Nat.le_refl _) (Nat.le_refl _)
        refine ⟨.slice none 0 0, ?_, ?_⟩
        · simp [Instr.sliceAt, Instr.slice, underlying, hu, hv, hb, run_sizeOf' i1]
        · subst he; exact .of_V .nils
      · cases ht
  · rename_i sz' es hL
    rw [(opdL_some hL (by simp)).1] at hr
    obtain ⟨_, b, o', us, st, cap, k1, k2, k3, k4, k5, hv⟩ := V.slc_inv hr
    cases hcond : (Nat.ble l (hA.getD es.length) && Nat.ble (hA.getD es.length) es.length && hdOk sz' es) with
    | false => simp [hcond] at he
    | true =>
      simp only [hcond, cond_true, Option.some.injEq] at he
      simp only [Bool.and_eq_true] at hcond
      have q1 := Nat.le_of_ble_eq_true hcond.1.1
      have q2 := Nat.le_of_ble_eq_true hcond.1.2
      have hu := hdOk_uni hcond.2 k3
      obtain ⟨v, r1, r2⟩ := key hv q1 q2 (by omega) sz' rfl
      refine ⟨v, r1, ?_⟩
      subst he
      obtain ⟨x', rfl, hx, _⟩ := r2
      have hlen : ((es.drop l).take (hA.getD es.length - l)).length = hA.getD es.length - l := by simp; omega
      have hcap : ((es.drop l).take (hA.getD es.length - l)).length ≤ cap - l := by rw [hlen]; omega
      refine .of_V ?_
      rcases hx with hx | rfl
      · rw [hx, List.take_zero]
        exact .slc [] b x' [] 1 (cap - l) (fun k v hk => by simp at hk) .nil (by simp) (by omega) (by simp)
      · have hval : (Value.slice (some ⟨b, o' + l * step sz', none⟩) (hA.getD es.length - l) (cap - l)) = .slice (some ⟨b, o' + l * step sz', none⟩) ((es.drop l).take (hA.getD es.length - l)).length (cap - l) := by rw [hlen]
        rw [hval]
        refine .slc _ b _ ((us.drop (l * step sz')).take ((hA.getD es.length - l) * step sz')) (step sz') (cap - l) (k1.sub _ _) ?_ (uni_take (uni_drop hu l) _) (step_pos _) hcap
        rw [flat_take _ (uni_drop hu l), flat_drop l hu]
        exact (k2.drop _).take _
  · rename_i sz' t' k o2 n hL
    obtain ⟨ha, hlv⟩ := opdL_some hL (by simp)
    rw [ha] at hr
    obtain ⟨hk, p, es, hlk, _, b, o', cap, st, xx, cap', j1, j2, hv, j4, j5, j6⟩ := live_ref hlv hr
    simp only [hlk] at he
    cases hcond : (Nat.ble l (hA.getD n) && Nat.ble (hA.getD n) n && hdOk sz' es) with
    | false => simp [hcond] at he
    | true =>
      simp only [hcond, cond_true, Option.some.injEq] at he
      simp only [Bool.and_eq_true] at hcond
      have q1 := Nat.le_of_ble_eq_true hcond.1.1
      have q2 := Nat.le_of_ble_eq_true hcond.1.2
      obtain ⟨v, r1, x', r2, hx, hx0⟩ := key hv q1 q2 j6 sz' rfl
      refine ⟨v, r1, ?_⟩
      subst he
      refine ⟨hr.1, fun hk2 p2 es2 hes2 => ?_⟩
      rw [hlk] at hes2; cases hes2
      have hu := hdOk_uni hcond.2 j1
      obtain ⟨hle, _⟩ := hr.2 hk2 p es hlk
      refine ⟨by omega, b, o', cap, st, x', cap' - l, j1, j2, r2, ?_, fun h0 => ?_, by omega⟩
      · rcases hx with hx | rfl
        · exact .inl hx
        · rcases j4 with j4 | j4
          · left; omega
          · by_cases h0 : hA.getD n - l = 0
            · exact .inl h0
            · right
              have : st = step sz' := by
                cases es with
                | nil => simp at hle; omega
                | cons e es => exact (j1 e (by simp)).symm.trans (hu e (by simp))
              rw [j4, this, Nat.add_assoc, Nat.add_mul]
      · have h1 : o2 = 0 := by omega
        have h2 : l = 0 := by omega
        obtain ⟨h3, h4⟩ := j5 h1
        exact ⟨by rw [hx0 h2, h3], by omega⟩
  · rename_i sz' st id off n hL
    rw [(opdL_some hL (by simp)).1] at hr
    obtain ⟨b, cap, ty, m, k1, k2, k3, k4, k5, hv⟩ := V.msl_inv hr
    cases hcond : (Nat.ble l (hA.getD n) && Nat.ble (hA.getD n) n && Nat.beq st (step sz')) with
    | false => simp [hcond] at he
    | true =>
      simp only [hcond, cond_true] at he
      simp only [Bool.and_eq_true] at hcond
      have q1 := Nat.le_of_ble_eq_true hcond.1.1
      have q2 := Nat.le_of_ble_eq_true hcond.1.2
      have q3 := beq_nat hcond.2
      obtain ⟨v, r1, x', r2, hx, hx0⟩ := key hv q1 q2 k4 sz' rfl
      refine ⟨v, r1, ?_⟩
      subst r2
      cases hz : (Nat.beq (hA.getD n - l) 0 && !Nat.beq l 0) with
      | true =>
        simp only [hz, cond_true, Option.some.injEq] at he
        subst he
        have h0 : hA.getD n - l = 0 := by
          simp only [Bool.and_eq_true] at hz
          exact beq_nat hz.1
        rw [h0]
        exact .of_V (.slc [] b x' [] 1 (cap - l) (fun k v hk => by simp at hk) .nil (by simp) (by omega) (by simp))
      | false =>
        simp only [hz, cond_false, Option.some.injEq] at he
        subst he
        have hxx : x' = off + l * st := by
          rcases hx with hx | hx
          · have : l = 0 := by
              rw [hx] at hz
              simpa using hz
            rw [hx0 this, this]; simp
          · rw [hx, q3]
        rw [hxx]
        refine .of_V (.msl st id _ _ b (cap - l) ty m k1 k2 ?_ (by omega) k5)
        have : l * st + (cap - l) * st = cap * st := by rw [← Nat.add_mul]; congr 1; omega
        omega
  · cases he

theorem op_slice (h : Rel T vs N g w σ tm) {x : Operand} {y : Opd} {t : Nat} {sz : Option Nat} {lo hi : Option Operand} {yl yh : Option Opd} {call : CallF} (ho : o.op = .slice t x lo hi none) (hc : chkX T vs N x y = true) (hlo : chkO T vs N lo yl = true) (hhi : chkO T vs N hi yh = true) (ht : chkSl T.P t sz = true)
    (he : evOp call bar (.slice sz y yl yh) σ = some r) : OpYes T bar vs N g w tm (execOp (Act.mk tm ds).eval o) r := by
  simp only [evOp] at he
  split at he
  · rename_i l hb
    have hl : (lo.map (Act.mk tm ds).eval = none ∧ l = 0) ∨ ∃ k, lo.map (Act.mk tm ds).eval = some (.int k (l : Int)) := by
      rcases chkO_some (ds := ds) h hlo hb with ⟨h1, _, h2⟩ | h1
      · exact .inl ⟨by simp [h1], h2⟩
      · exact .inr h1
    split at he
    · rename_i a ha
      simp only [Option.some.injEq] at he
      obtain ⟨v, k1, k2⟩ : ∃ v, (∀ w', (Instr.sliceAt t ((Act.mk tm ds).eval x) (lo.map (Act.mk tm ds).eval) (hi.map (Act.mk tm ds).eval) none).run T.P w' = .ok v w') ∧ AVR T g w σ tm .res a v := by
        cases yh with
        | none =>
          refine sliceA_rel (ds := ds) h hc ht hl (hA := none) ?_ ha
          cases hi with
          | none => exact .inl ⟨rfl, rfl⟩
          | some x => simp [chkO] at hhi
        | some yh' =>
          simp only at ha
          split at ha
          · rename_i hn hhn
            refine sliceA_rel (ds := ds) h hc ht hl (hA := some hn) ?_ ha
            rcases chkO_some (ds := ds) (d := 0) h hhi (n := hn) hhn with ⟨_, h1, _⟩ | ⟨k, h1⟩
            · cases h1
            · exact .inr ⟨k, hn, rfl, h1⟩
          · cases ha
      refine ok_y (fun w' => ?_) h he.symm k2
      have k1 := k1 w'
      simp only [execOp, ho, Option.map_none, Sem.run_bind, k1, Result.andThen_ok, Sem.run_pure]
    · cases he
  · cases he

end
end Go.Ak

