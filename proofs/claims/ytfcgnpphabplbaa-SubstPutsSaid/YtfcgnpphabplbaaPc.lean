/- The evaluator's soundness, parts 21 to 35: every call. No program stands here. -/
import Derived.Test.YtfcgnpphabplbaaPb
import Derived.Orders
import Derived.ProofKit
set_option linter.unusedVariables false
set_option linter.unusedSimpArgs false

namespace Go.Ak

/-- Arguments with their rights. -/
inductive ArgsV (T : Tr) (g : Gh) (w : World) : Nat → List AV → List Value → Prop
  | nil (i : Nat) : ArgsV T g w i [] []
  | cons (i : Nat) (a : AV) (v : Value) (as : List AV) (vs : List Value) : SV T g w (.arg i) a v → ArgsV T g w (i + 1) as vs → ArgsV T g w i (a :: as) (v :: vs)

def CallPost (T : Tr) (bar : Nat) (g : Gh) (w : World) (out : Out) (H' : Heap) (e : Ending) (w' : World) : Prop :=
  match e with
  | .returned v => ∃ g' a, out = .ret a ∧ Ext bar g w g' w' ∧ HeapR T g' w' H' ∧ SV T g' w' .res a v
  | .panicked ch => ∃ g' a v, ch = [{ v := v, recovered := false }] ∧ out = .pan a ∧ Ext bar g w g' w' ∧ HeapR T g' w' H' ∧ V T g' w' a v
  | .outgrown => False

/-- A function that a call enters. -/
def chkFn (P : Program) (f : FuncId) : Bool :=
  match P.funcs[f]? with
  | some fn => fn.name != "runtime.NumGoroutine" && fn.body.isSome
  | none => false

def outR (out : Out) (σ : St) (H' : Heap) : OpR :=
  match out with
  | .ret v => .ok v { σ with H := H' }
  | .pan v => .pan v { σ with H := H' }

def CallOK (T : Tr) (bar : Nat) (call : CallF) : Prop :=
  ∀ (f : Nat) (as : List AV) (H : Heap) (out : Out) (H' : Heap), call f as H = some (out, H') → chkFn T.P (T.fm f) = true ∧
    ∀ (g : Gh) (w : World) (us : List Value), HeapR T g w H → ArgsV T g w 0 as us → Calls T.P (T.fm f) us.toArray w (CallPost T bar g w out H')

theorem run_callFunc {P : Program} {f : FuncId} (h : chkFn P f = true) (args : Array Value) (w : World) : (callFunc f args).run P w = .ok (.enter f args) w := by
  unfold chkFn at h
  split at h
  · rename_i fn hf
    simp only [Bool.and_eq_true, bne_iff_ne, ne_eq] at h
    obtain ⟨h1, h2⟩ := h
    obtain ⟨c, hb⟩ := Option.isSome_iff_exists.1 h2
    simp [callFunc, hf, h1, hb]
  · cases h

section
variable {T : Tr} {bar : Nat} {vs : List Nat} {N : Nat} {g : Gh} {w : World} {σ : St} {tm : Array Value} {ds : List Deferred} {o : Oper} {r : OpR}

theorem ArgsV.frame {g' : Gh} {w' : World} (he : Ext bar g w g' w') (hf : ∀ b i, g.own b = .arg i → g'.own b = .arg i ∧ g'.S b = g.S b ∧ w'.heap[b]? = w.heap[b]?) :
    ∀ {i : Nat} {as : List AV} {us : List Value}, ArgsV T g w i as us → ArgsV T g' w' i as us
  | _, _, _, .nil i => .nil i
  | _, _, _, .cons i a v as us h1 h2 => .cons i a v as us (h1.frame he fun b hb => hf b i hb) (ArgsV.frame he hf h2)

def chkArgs (T : Tr) (vs : List Nat) (N : Nat) : List Operand → List Arg → Bool
  | [], [] => true
  | x :: xs, .pl y :: ys => chkX T vs N x y && chkArgs T vs N xs ys
  | x :: xs, .tk y :: ys => chkX T vs N x y && chkArgs T vs N xs ys
  | _, _ => false

theorem args_rel : ∀ {xs : List Operand} {ys : List Arg} {g : Gh} {σ : St} (i : Nat) (_ : Rel T vs N g w σ tm) (_ : chkArgs T vs N xs ys = true) {as : List AV} {σ' : St} (_ : args σ ys = some (as, σ')),
    ∃ g', Ext bar g w g' w ∧ Rel T vs N g' w σ' tm ∧ ArgsV T g' w i as (xs.map (Act.mk tm ds).eval) ∧ σ'.H = σ.H ∧ ∀ b j, j < i → g.own b = .arg j → g'.own b = .arg j ∧ g'.S b = g.S b
  | [], [], g, σ, i, h, _, as, σ', he => by
    simp only [args, Option.some.injEq, Prod.mk.injEq] at he
    obtain ⟨rfl, rfl⟩ := he
    exact ⟨g, .refl _ _ _, h, .nil i, rfl, fun _ _ _ hb => ⟨hb, rfl⟩⟩
  | [], _ :: _, _, _, _, _, hc, _, _, _ => by simp [chkArgs] at hc
  | _ :: _, [], _, _, _, _, hc, _, _, _ => by simp [chkArgs] at hc
  | x :: xs, y :: ys, g, σ, i, h, hc, as, σ', he => by
    simp only [args] at he
    -- the first one
    have first : ∀ {a : AV} {σ1 : St}, arg1 σ y = some (a, σ1) →
        ∃ g1, Ext bar g w g1 w ∧ Rel T vs N g1 w σ1 tm ∧ SV T g1 w (.arg i) a ((Act.mk tm ds).eval x) ∧ σ1.H = σ.H ∧ ∀ b j, j < i → g.own b = .arg j → g1.own b = .arg j ∧ g1.S b = g.S b := fun {a σ1} hq => by
      cases y with
      | pl y =>
        simp only [chkArgs, Bool.and_eq_true] at hc
        obtain ⟨g1, e1, e2, e3, _, _, e6, _, e8⟩ := esc_rel (ds := ds) (bar := bar) h hc.1 hq
        exact ⟨g1, e1, e2, .of_V e3, e6, fun b j _ hb => by
          obtain ⟨k1, k2⟩ := e8 b (by rw [hb]; simp) (by rw [hb]; simp)
          exact ⟨by rw [k1, hb], k2⟩⟩
      | tk y =>
        simp only [chkArgs, Bool.and_eq_true] at hc
        obtain ⟨g1, e1, e2, e3, _, _, _, _, e6, e8⟩ := take_rel (ds := ds) (bar := bar) h hc.1 hq
        obtain ⟨g2, f1, f2, f3, f4, f5⟩ := hold (bar := bar) e2 (.arg i) e3
        exact ⟨g2, e1.trans f1, f2, f3, e6, fun b j _ hb => by
          obtain ⟨k1, k2⟩ := e8 b (by rw [hb]; simp) (by rw [hb]; simp)
          exact ⟨by rw [f4 b (by rw [k1, hb]; simp), k1, hb], by rw [f5, k2]⟩⟩
    have hc2 : chkArgs T vs N xs ys = true := by
      cases y <;> simp only [chkArgs, Bool.and_eq_true] at hc <;> exact hc.2
    split at he
    · rename_i a σ1 hq
      obtain ⟨g1, e1, e2, e3, e4, e5⟩ := first hq
      split at he
      · rename_i as' σ2 hr
        simp only [Option.some.injEq, Prod.mk.injEq] at he
        obtain ⟨rfl, rfl⟩ := he
        obtain ⟨g2, f1, f2, f3, f4, f5⟩ := args_rel (i + 1) e2 hc2 hr
        refine ⟨g2, e1.trans f1, f2, .cons i _ _ _ _ (e3.frame f1 fun b hb => ?_) f3, f4.trans e4, fun b j hj hb => ?_⟩
        · obtain ⟨k1, k2⟩ := f5 b i (by omega) hb
          exact ⟨k1, k2, rfl⟩
        · obtain ⟨k1, k2⟩ := e5 b j hj hb
          obtain ⟨k3, k4⟩ := f5 b j (by omega) k1
          exact ⟨k3, k4.trans k2⟩
      · cases he
    · cases he

/-- What the callee sees of whose blocks are whose. -/
def Gh.call (g : Gh) : Gh := { g with own := fun b => match g.own b with | .slot _ | .temp _ | .res => .kept | o => o }

/-- .. and what the caller makes of it behind the call. -/
def Gh.back (g g' : Gh) : Gh := { g' with own := fun b => match g.own b with
  | .slot t => .slot t
  | .temp t => .temp t
  | .res => .res
  | .kept => .kept
  | _ => match g'.own b with
    | .res => .res
    | .obj id => .obj id
    | _ => .free }

theorem call_kept {b : Nat} (h : (∃ t, g.own b = .slot t) ∨ (∃ t, g.own b = .temp t) ∨ g.own b = .res ∨ g.own b = .kept) : g.call.own b = .kept := by
  simp only [Gh.call]
  rcases h with ⟨t, h⟩ | ⟨t, h⟩ | h | h <;> rw [h]

theorem Ext.call : Ext bar g w g.call w where
  size := Nat.le_refl _
  S _ := Nat.le_refl _
  cell _ _ _ := rfl
  ob _ _ h := h
  shape _ _ h := h
  kept b hb := ⟨call_kept (.inr (.inr (.inr hb))), rfl, rfl⟩
  low id b _ _ hb := ⟨by simp [Gh.call, hb], rfl, rfl⟩
  os := rfl
  out := rfl

theorem HeapR.call {H : Heap} (h : HeapR T g w H) : HeapR T g.call w H := by
  refine h.frame (Ext.call (bar := 0)) (fun b id hb => ⟨by simp [Gh.call, hb], rfl, rfl⟩) rfl fun b hb => ?_
  obtain ⟨h1, h2⟩ := h.fresh b hb
  exact ⟨by simp [Gh.call, h1], h2⟩

theorem Ext.back {g' : Gh} {w' : World} (h : Ext bar g.call w g' w') : Ext bar g w (g.back g') w' where
  size := h.size
  S := h.S
  cell := h.cell
  ob := h.ob
  shape := h.shape
  kept b hb := by
    obtain ⟨_, h2, h3⟩ := h.kept b (call_kept (.inr (.inr (.inr hb))))
    exact ⟨by simp [Gh.back, hb], h2, h3⟩
  low id b hi ho hb := by
    obtain ⟨h1, h2, h3⟩ := h.low id b hi ho (by simp [Gh.call, hb])
    exact ⟨by simp [Gh.back, hb, h1], h2, h3⟩
  os := h.os
  out := h.out


theorem settled.reown {b off : Nat} {us : List Value} (f : Nat → Own) (h : settled g w b off us) : settled { g with own := f } w b off us := h

mutual
/-- Whose blocks are whose says nothing of plain values. -/
theorem V.reown (f : Nat → Own) : ∀ {a : AV} {v : Value}, V T g w a v → V T { g with own := f } w a v
  | _, _, .undef v => .undef v
  | _, _, .bool b => .bool b
  | _, _, .int k n => .int k n
  | _, _, .str s => .str s
  | _, _, .nilp => .nilp
  | _, _, .nils => .nils
  | _, _, .nilf => .nilf
  | _, _, .nili => .nili
  | _, _, .ptr id off b hb => .ptr id off b hb
  | _, _, .tptr ty n id off b hb hs => .tptr ty n id off b hb hs
  | _, _, .rptr cs off b o vs hs hv => .rptr cs off b o vs hs (Vs.reown f hv)
  | _, _, .slc es b o vs st cap hs hv h1 h2 h3 => .slc es b o vs st cap hs (Vs.reown f hv) h1 h2 h3
  | _, _, .msl st id off len b cap ty n hb hs h1 h2 h3 => .msl st id off len b cap ty n hb hs h1 h2 h3
  | _, _, .bsl id n b cap m hb hs h1 h2 => .bsl id n b cap m hb hs h1 h2
  | _, _, .agg cs vs hv h1 => .agg cs vs (Vs.reown f hv) h1
  | _, _, .tup cs vs hv => .tup cs vs (Vs.reown f hv)
  | _, _, .fn n cap vs hv => .fn n cap vs (Vs.reown f hv)
  | _, _, .ifc t a v hv => .ifc t a v (V.reown f hv)
theorem Vs.reown (f : Nat → Own) : ∀ {as : List AV} {us : List Value}, Vs T g w as us → Vs T { g with own := f } w as us
  | _, _, .nil => .nil
  | _, _, .cons a v as vs hv hvs => .cons a v as vs (V.reown f hv) (Vs.reown f hvs)
end

theorem excl.reown {ow ow' : Own} {b : Nat} {arr : Array Value} (f : Nat → Own) (h : excl g w ow b arr) (hf : g.own b = ow → f b = ow') : excl { g with own := f } w ow' b arr := ⟨hf h.1, h.2.1, h.2.2⟩

theorem SV.reown {ow ow' : Own} {a : AV} {v : Value} (f : Nat → Own) (h : SV T g w ow a v) (hf : ∀ b, g.own b = ow → f b = ow') : SV T { g with own := f } w ow' a v := by
  cases a with
  | box cs =>
    obtain ⟨b, arr, hv, h1, h4⟩ := h
    exact ⟨b, arr, hv, h1.reown f (hf b), Vs.reown f h4⟩
  | slc p es => cases p with
    | ro => exact V.reown f h
    | own =>
      obtain ⟨b, off, cap, arr, st, hv, h1, h4, h5, h6, h7, us, h8, h9⟩ := h
      exact ⟨b, off, cap, arr, st, hv, h1.reown f (hf b), h4, h5, h6, h7, us, Vs.reown f h8, h9⟩
    | app =>
      obtain ⟨b, off, cap, arr, st, hv, h1, h2, h3, h4, h5, h6, h7, us, h8, h9⟩ := h
      exact ⟨b, off, cap, arr, st, hv, hf b h1, h2, h3, h4, h5, h6, h7, us, Vs.reown f h8, h9⟩
  | loc a b c => exact h.elim
  | eloc a b c d => exact h.elim
  | ref a b c d => exact h.elim
  | _ => exact V.reown f h

theorem HeapR.reown {H : Heap} (f : Nat → Own) (h : HeapR T g w H) (hf : ∀ b id, g.own b = .obj id → f b = .obj id) (hf' : ∀ b, w.heap.size ≤ b → f b = .free) (hk : ∀ b x, T.gl b = some x → f b = .kept) : HeapR T { g with own := f } w H where
  objs id cs hc := by
    obtain ⟨b, arr, h1, h2, h5, h6⟩ := h.objs id cs hc
    exact ⟨b, arr, h1, h2.reown f (hf b id), Vs.reown f h5, h6⟩
  ob := h.ob
  fresh b hb := ⟨hf' b hb, (h.fresh b hb).2⟩
  gl b x hb := ⟨hk b x hb, (h.gl b x hb).2⟩

/-- The caller's frame behind a call. -/
theorem Rel.back {g' : Gh} {w' : World} {H' : Heap} (h : Rel T vs N g w σ tm) (he : Ext bar g.call w g' w') (hh : HeapR T g' w' H') :
    Ext bar g w (g.back g') w' ∧ Rel T vs N (g.back g') w' { σ with H := H' } tm := by
  have hb := Ext.back he
  have key : ∀ b, ((∃ t, g.own b = .slot t) ∨ (∃ t, g.own b = .temp t)) → (g.back g').own b = g.own b ∧ (g.back g').S b = g.S b ∧ w'.heap[b]? = w.heap[b]? := fun b hx => by
    obtain ⟨_, h2, h3⟩ := he.kept b (call_kept (hx.elim (fun h => .inl h) (fun h => .inr (.inl h))))
    refine ⟨?_, h2, h3⟩
    rcases hx with ⟨t, hx⟩ | ⟨t, hx⟩ <;> simp [Gh.back, hx]
  refine ⟨hb, h.frame hb (fun b t hbt _ => ?_) (fun b t hbt _ => ?_) ?_⟩
  · obtain ⟨k1, k2, k3⟩ := key b (.inl ⟨t, hbt⟩)
    exact ⟨by rw [k1, hbt], k2, k3⟩
  · obtain ⟨k1, k2, k3⟩ := key b (.inr ⟨t, hbt⟩)
    exact ⟨by rw [k1, hbt], k2, k3⟩
  · refine hh.reown (g.back g').own (fun b id hbo => ?_) (fun b hbs => ?_) fun b x hb => by simp only [Gh.back, (h.heap.gl b x hb).1]
    · simp only [Gh.back]
      cases hg : g.own b with
      | slot t => obtain ⟨k, _⟩ := he.kept b (call_kept (.inl ⟨t, hg⟩)); rw [k] at hbo; cases hbo
      | temp t => obtain ⟨k, _⟩ := he.kept b (call_kept (.inr (.inl ⟨t, hg⟩))); rw [k] at hbo; cases hbo
      | res => obtain ⟨k, _⟩ := he.kept b (call_kept (.inr (.inr (.inl hg)))); rw [k] at hbo; cases hbo
      | kept => obtain ⟨k, _⟩ := he.kept b (call_kept (.inr (.inr (.inr hg)))); rw [k] at hbo; cases hbo
      | free => simp [hbo]
      | obj i => simp [hbo]
      | arg i => simp [hbo]
    · have hlt : w.heap.size ≤ b := Nat.le_trans he.size hbs
      simp only [Gh.back, (h.heap.fresh b hlt).1, (hh.fresh b hbs).1]

theorem SV.back {g' : Gh} {w' : World} {a : AV} {v : Value} (he : Ext bar g.call w g' w') (h : SV T g' w' .res a v) : SV T (g.back g') w' .res a v := by
  refine h.reown (g.back g').own fun b hbo => ?_
  simp only [Gh.back]
  cases hg : g.own b with
  | slot t => obtain ⟨k, _⟩ := he.kept b (call_kept (.inl ⟨t, hg⟩)); rw [k] at hbo; cases hbo
  | temp t => obtain ⟨k, _⟩ := he.kept b (call_kept (.inr (.inl ⟨t, hg⟩))); rw [k] at hbo; cases hbo
  | res => rfl
  | kept => obtain ⟨k, _⟩ := he.kept b (call_kept (.inr (.inr (.inr hg)))); rw [k] at hbo; cases hbo
  | free => simp [hbo]
  | obj i => simp [hbo]
  | arg i => simp [hbo]

theorem V.back {g' : Gh} {w' : World} {a : AV} {v : Value} (h : V T g' w' a v) : V T (g.back g') w' a v := h.reown (g.back g').own

theorem ArgsV.call {i : Nat} {as : List AV} {us : List Value} (h : ArgsV T g w i as us) : ArgsV T g.call w i as us :=
  h.frame (Ext.call (bar := 0)) fun b i hb => ⟨by simp [Gh.call, hb], rfl, rfl⟩

/-- A call, its arguments told. -/
theorem call_ok {call : CallF} {f : Nat} {as : List AV} {out : Out} {H' : Heap} {us : List Value} (hcall : CallOK T bar call) (h : Rel T vs N g w σ tm) (ha : ArgsV T g w 0 as us) (hq : call f as σ.H = some (out, H'))
    (hr : r = outR out σ H') {res : Result Next} (hres : chkFn T.P (T.fm f) = true → res = .ok (.enter (T.fm f) us.toArray) w) :
    OpOKr T res (OpPost T bar vs N g w tm r) (PanPost T bar vs N g w tm r) := by
  obtain ⟨h1, h2⟩ := hcall f as σ.H out H' hq
  rw [hres h1]
  refine (h2 g.call w us h.heap.call ha.call).mono fun e w' he => ?_
  cases e with
  | returned v =>
    obtain ⟨g', a, rfl, e1, e2, e3⟩ := he
    obtain ⟨k1, k2⟩ := h.back e1 e2
    exact ⟨a, _, _, hr, k1, k2, .of_SV (e3.back e1)⟩
  | panicked ch =>
    obtain ⟨g', a, v, rfl, rfl, e1, e2, e3⟩ := he
    obtain ⟨k1, k2⟩ := h.back e1 e2
    exact ⟨v, rfl, a, _, _, hr, k1, k2, e3.back⟩
  | outgrown => exact he

theorem op_call {call : CallF} (hcall : CallOK T bar call) (h : Rel T vs N g w σ tm) {f : Nat} {F : FuncId} {xs : Array Operand} {ts : Array TypeId} {ys : List Arg} (ho : o.op = .call { callee := .value (.func F), args := xs, argTypes := ts }) (hF : T.fm f = F) (hc : chkArgs T vs N xs.toList ys = true)
    (he : evOp call bar (.call f ys) σ = some r) : OpOKr T ((execOp (Act.mk tm ds).eval o).run T.P w) (OpPost T bar vs N g w tm r) (PanPost T bar vs N g w tm r) := by
  subst hF
  simp only [evOp] at he
  split at he
  · rename_i as σ' hargs
    obtain ⟨g1, e1, e2, e3, e4, _⟩ := args_rel (bar := bar) (ds := ds) 0 h hc hargs
    have hmap : (xs.map (Act.mk tm ds).eval) = (xs.toList.map (Act.mk tm ds).eval).toArray := by
      apply Array.ext'; simp
    have fin : ∀ {out : Out} {H' : Heap}, call (f) as σ'.H = some (out, H') → r = outR out σ' H' →
        OpOKr T ((execOp (Act.mk tm ds).eval o).run T.P w) (OpPost T bar vs N g w tm r) (PanPost T bar vs N g w tm r) := fun {out H'} hq hr => by
      refine (call_ok hcall e2 e3 hq hr (fun hfn => ?_)).imp ?_ ?_
      · simp [execOp, ho, resolve, Act.eval, Deferred.ofValue, invoke, run_callFunc hfn, hmap]
      · rintro v w2 ⟨a, s2, g2, k1, k2, k3, k4⟩
        exact ⟨a, s2, g2, k1, e1.trans k2, k3, k4⟩
      · rintro v w2 ⟨a, s2, g2, k1, k2, k3, k4⟩
        exact ⟨a, s2, g2, k1, e1.trans k2, k3, k4⟩
    split at he
    · rename_i v H' hq; simp only [Option.some.injEq] at he; exact fin hq he.symm
    · rename_i v H' hq; simp only [Option.some.injEq] at he; exact fin hq he.symm
    · cases he
  · cases he

end
end Go.Ak

namespace Go.Ak
section
variable {T : Tr} {bar : Nat} {vs : List Nat} {N : Nat} {g : Gh} {w : World} {σ : St} {tm : Array Value} {ds : List Deferred} {o : Oper} {r : OpR}

theorem ArgsV.of_Vs : ∀ {cap : List AV} {us : List Value} (i : Nat), Vs T g w cap us → ArgsV T g w i cap us
  | _, _, i, .nil => .nil i
  | _, _, i, .cons a v as vs h1 h2 => .cons i a v as vs (.of_V h1) (ArgsV.of_Vs (i + 1) h2)

theorem ArgsV.append : ∀ {i : Nat} {as cap : List AV} {us cs : List Value}, ArgsV T g w i as us → Vs T g w cap cs → ArgsV T g w i (as ++ cap) (us ++ cs)
  | _, _, _, _, _, .nil i, h => ArgsV.of_Vs i h
  | _, _, _, _, _, .cons i a v as us h1 h2, h => .cons i a v _ _ h1 (ArgsV.append h2 h)

theorem op_callv {call : CallF} (hcall : CallOK T bar call) (h : Rel T vs N g w σ tm) {x : Operand} {y : Opd} {xs : Array Operand} {ts : Array TypeId} {ys : List Arg} (ho : o.op = .call { callee := .value x, args := xs, argTypes := ts }) (hx : chkX T vs N x y = true) (hc : chkArgs T vs N xs.toList ys = true)
    (he : evOp call bar (.callv y ys) σ = some r) : OpOKr T ((execOp (Act.mk tm ds).eval o).run T.P w) (OpPost T bar vs N g w tm r) (PanPost T bar vs N g w tm r) := by
  have hr := opd_rel (ds := ds) h hx
  simp only [evOp] at he
  split at he
  · rename_i f cap hop
    rw [hop] at hr
    obtain ⟨cs, hcs, hv⟩ := V.fn_inv hr
    split at he
    · rename_i as σ' hargs
      obtain ⟨g1, e1, e2, e3, e4, _⟩ := args_rel (bar := bar) (ds := ds) 0 h hc hargs
      have hmap : (xs.map (Act.mk tm ds).eval) = (xs.toList.map (Act.mk tm ds).eval).toArray := by
        apply Array.ext'; simp
      have fin : ∀ {out : Out} {H' : Heap}, call f (as ++ cap) σ'.H = some (out, H') → r = outR out σ' H' →
          OpOKr T ((execOp (Act.mk tm ds).eval o).run T.P w) (OpPost T bar vs N g w tm r) (PanPost T bar vs N g w tm r) := fun {out H'} hq hr => by
        refine (call_ok hcall e2 (e3.append (Vs.mono e1 hcs)) hq hr (fun hfn => ?_)).imp ?_ ?_
        · simp [execOp, ho, resolve, hv, Deferred.ofValue, invoke, run_callFunc hfn, hmap]
        · rintro v w2 ⟨a, s2, g2, k1, k2, k3, k4⟩
          exact ⟨a, s2, g2, k1, e1.trans k2, k3, k4⟩
        · rintro v w2 ⟨a, s2, g2, k1, k2, k3, k4⟩
          exact ⟨a, s2, g2, k1, e1.trans k2, k3, k4⟩
      split at he
      · rename_i v H' hq; simp only [Option.some.injEq] at he; exact fin hq he.symm
      · rename_i v H' hq; simp only [Option.some.injEq] at he; exact fin hq he.symm
      · cases he
    · cases he
  · cases he

end
end Go.Ak

namespace Go.Ak

/-- The operations that neither look at the world nor change it. -/
def quietA : AOp → Bool
  | .mov _ | .asg .. | .pick .. | .build .. | .nilchk _ | .bin .. | .eq .. | .eqG .. | .un .. | .conv .. | .mkifc .. | .mkfn .. | .slice .. | .faddr .. | .iaddr .. | .aaddr .. | .sidx .. | .aidx .. | .ext .. | .tassert .. | .len .. | .minI .. => true
  | _ => false

def chkQ (T : Tr) (vs : List Nat) (N : Nat) (p : Op) : AOp → Bool
  | .mov y => match p with
    | .move x => chkX T vs N x y
    | .assign x => chkX T vs N x y
    | _ => false
  | .asg _ y => match p with
    | .move x => chkX T vs N x y
    | .assign x => chkX T vs N x y
    | _ => false
  | .pick y1 y2 y3 => match p with
    | .pick x1 x2 x3 => chkX T vs N x1 y1 && chkX T vs N x2 y2 && chkX T vs N x3 y3
    | _ => false
  | .build z qs => match p with
    | .build t ps => chkBuild T vs N t ps z qs
    | _ => false
  | .nilchk y => match p with
    | .nilCheck x => chkX T vs N x y
    | _ => false
  | .bin op y1 y2 => match p with
    | .binOp op' _ x1 x2 _ => decide (op' = op) && chkX T vs N x1 y1 && chkX T vs N x2 y2
    | _ => false
  | .eq neg k y1 y2 => match p with
    | .binOp op t x1 x2 _ => decide (op = if neg then .neq else .eql) && chkX T vs N x1 y1 && chkX T vs N x2 y2 && chkEq T.P t k x1 x2
    | _ => false
  | .eqG neg ks y1 y2 => match p with
    | .binOp op t x1 x2 _ => decide (op = if neg then .neq else .eql) && chkX T vs N x1 y1 && chkX T vs N x2 y2 && chkAgg T.P t ks
    | _ => false
  | .un op y => match p with
    | .unOp op' _ x => decide (op' = op) && chkX T vs N x y
    | _ => false
  | .conv k y => match p with
    | .convert s d x => chkX T vs N x y && (T.P.underlying s).isSome && (match T.P.underlying d with | some (.int k') => decide (k' = k) | _ => false)
    | _ => false
  | .mkifc t' y => match p with
    | .makeInterface t x => chkX T vs N x y && (T.tm t' == t) && (match T.P.underlying t with | some (.interface _) => false | some _ => true | none => false)
    | _ => false
  | .mkfn f' ys => match p with
    | .makeFunc (.func f) first xs => (T.fm f' == f) && first.toList.isEmpty && (xs.toList.length == ys.length && (xs.toList.zip ys).all fun p => chkX T vs N p.1 p.2)
    | _ => false
  | .slice sz y yl yh => match p with
    | .slice t x lo hi none => chkX T vs N x y && chkO T vs N lo yl && chkO T vs N hi yh && chkSl T.P t sz
    | _ => false
  | .faddr off y => match p with
    | .fieldAddr t x f => chkX T vs N x y && chkField T.P t f off
    | _ => false
  | .iaddr sz y yi => match p with
    | .indexAddr t x xi => chkX T vs N x y && chkX T vs N xi yi && (match T.P.underlying t with | some (.slice e) => chkElem T.P e sz | _ => false)
    | _ => false
  | .aaddr n sz y yi => match p with
    | .indexAddr t x xi => chkX T vs N x y && chkX T vs N xi yi && (match T.P.underlying t with | some (.array n' e) => n' == n && chkElem T.P e sz | _ => false)
    | _ => false
  | .sidx y yi => match p with
    | .index t x xi => chkX T vs N x y && chkX T vs N xi yi && (match T.P.underlying t with | some .string => true | _ => false)
    | _ => false
  | .aidx n sz y yi => match p with
    | .index t x xi => chkX T vs N x y && chkX T vs N xi yi && (match T.P.underlying t with | some (.array n' e) => n' == n && chkN T.P e sz | _ => false)
    | _ => false
  | .ext n y => match p with
    | .extract x n' => chkX T vs N x y && n' == n
    | _ => false
  | .tassert t y => match p with
    | .typeAssert x _ a true => chkX T vs N x y && (T.tm t == a) && (match T.P.underlying a with | some (.interface _) => false | some _ => true | none => false)
    | _ => false
  | .len sb y => match p with
    | .call ⟨.builtin .len, xs, ts⟩ => match xs.toList, ts.toList with
      | [x], [t] => chkX T vs N x y && (match sb, T.P.underlying t with | true, some .string => true | false, some (.slice _) => true | _, _ => false)
      | _, _ => false
    | _ => false
  | .minI y1 y2 => match p with
    | .call ⟨.builtin .min, xs, _⟩ => match xs.toList with
      | [x1, x2] => chkX T vs N x1 y1 && chkX T vs N x2 y2
      | _ => false
    | _ => false
  | _ => false

theorem arr_of_list {α : Type} {xs : Array α} {l : List α} (h : xs.toList = l) : xs = l.toArray := Array.ext' (by simpa using h)

section
variable {T : Tr} {bar : Nat} {vs : List Nat} {N : Nat} {g : Gh} {w : World} {σ : St} {tm : Array Value} {ds : List Deferred} {o : Oper} {r : OpR}

theorem op_quiet {call : CallF} (h : Rel T vs N g w σ tm) {s : AOp} (hc : chkQ T vs N o.op s = true) (he : evOp call bar s σ = some r) : OpYes T bar vs N g w tm (execOp (Act.mk tm ds).eval o) r := by
  unfold chkQ at hc
  split at hc
  · split at hc
    · rename_i ho; exact op_mov h (.inl ho) hc he
    · rename_i ho; exact op_mov h (.inr ho) hc he
    · cases hc
  · split at hc
    · rename_i ho; exact op_asg h (.inl ho) hc he
    · rename_i ho; exact op_asg h (.inr ho) hc he
    · cases hc
  · split at hc
    · rename_i ho; simp only [Bool.and_eq_true] at hc; exact op_pick h ho hc.1.1 hc.1.2 hc.2 he
    · cases hc
  · split at hc
    · rename_i ho; exact op_build h ho hc he
    · cases hc
  · split at hc
    · rename_i ho; exact op_nilchk h ho hc he
    · cases hc
  · split at hc
    · rename_i ho; simp only [Bool.and_eq_true, decide_eq_true_eq] at hc
      obtain ⟨⟨rfl, h1⟩, h2⟩ := hc
      exact op_bin h ho h1 h2 he
    · cases hc
  · split at hc
    · rename_i ho; simp only [Bool.and_eq_true, decide_eq_true_eq] at hc
      obtain ⟨⟨⟨h0, h1⟩, h2⟩, h3⟩ := hc
      exact op_eq h ho h0 h1 h2 h3 he
    · cases hc
  · split at hc
    · rename_i ho; simp only [Bool.and_eq_true, decide_eq_true_eq] at hc
      obtain ⟨⟨⟨h0, h1⟩, h2⟩, h3⟩ := hc
      exact op_eqG h ho h0 h1 h2 h3 he
    · cases hc
  · split at hc
    · rename_i ho; simp only [Bool.and_eq_true, decide_eq_true_eq] at hc
      obtain ⟨rfl, h1⟩ := hc
      exact op_un h ho h1 he
    · cases hc
  · split at hc
    · rename_i ho; simp only [Bool.and_eq_true] at hc
      obtain ⟨⟨h1, h2⟩, h3⟩ := hc
      split at h3
      · rename_i hd; simp only [decide_eq_true_eq] at h3; subst h3
        exact op_conv h ho h1 h2 hd he
      · cases h3
    · cases hc
  · split at hc
    · rename_i ho; simp only [Bool.and_eq_true, beq_iff_eq] at hc
      obtain ⟨⟨h1, h2⟩, h3⟩ := hc
      split at h3
      · cases h3
      · rename_i d hn hd; exact op_mkifc h ho h1 h2 hd hn he
      · cases h3
    · cases hc
  · split at hc
    · rename_i first xs ho; simp only [Bool.and_eq_true, beq_iff_eq] at hc
      obtain ⟨⟨h1, h2⟩, h3⟩ := hc
      have hf : first = #[] := arr_of_list (l := []) (List.isEmpty_iff.1 h2)
      subst hf
      exact op_mkfn h ho h1 (by simp only [Bool.and_eq_true, beq_iff_eq]; exact h3) he
    · cases hc
  · split at hc
    · rename_i ho; simp only [Bool.and_eq_true] at hc
      obtain ⟨⟨⟨h1, h2⟩, h3⟩, h4⟩ := hc
      exact op_slice h ho h1 h2 h3 h4 he
    · cases hc
  · split at hc
    · rename_i ho; simp only [Bool.and_eq_true] at hc
      exact op_faddr h ho hc.1 hc.2 he
    · cases hc
  · split at hc
    · rename_i ho; simp only [Bool.and_eq_true] at hc
      obtain ⟨⟨h1, h2⟩, h3⟩ := hc
      split at h3
      · rename_i hu; exact op_iaddr h ho h1 h2 hu h3 he
      · cases h3
    · cases hc
  · split at hc
    · rename_i ho; simp only [Bool.and_eq_true] at hc
      obtain ⟨⟨h1, h2⟩, h3⟩ := hc
      split at h3
      · rename_i hu
        simp only [Bool.and_eq_true, beq_iff_eq] at h3
        obtain ⟨rfl, h3⟩ := h3
        exact op_aaddr h ho h1 h2 hu h3 he
      · cases h3
    · cases hc
  · split at hc
    · rename_i ho; simp only [Bool.and_eq_true] at hc
      obtain ⟨⟨h1, h2⟩, h3⟩ := hc
      split at h3
      · rename_i hu; exact op_sidx h ho h1 h2 hu he
      · cases h3
    · cases hc
  · split at hc
    · rename_i ho; simp only [Bool.and_eq_true] at hc
      obtain ⟨⟨h1, h2⟩, h3⟩ := hc
      split at h3
      · rename_i hu
        simp only [Bool.and_eq_true, beq_iff_eq] at h3
        obtain ⟨rfl, h3⟩ := h3
        exact op_aidx h ho h1 h2 hu h3 he
      · cases h3
    · cases hc
  · split at hc
    · rename_i ho; simp only [Bool.and_eq_true, beq_iff_eq] at hc
      obtain ⟨h1, rfl⟩ := hc
      exact op_ext h ho h1 he
    · cases hc
  · split at hc
    · rename_i ho; simp only [Bool.and_eq_true, beq_iff_eq] at hc
      obtain ⟨⟨h1, h2⟩, h3⟩ := hc
      split at h3
      · cases h3
      · rename_i d hn hd; exact op_tassert h ho h1 h2 hd hn he
      · cases h3
    · cases hc
  · split at hc
    · rename_i ho
      split at hc
      · rename_i x t hxs hts
        simp only [Bool.and_eq_true] at hc
        rw [arr_of_list hxs, arr_of_list hts] at ho
        obtain ⟨h1, h2⟩ := hc
        split at h2
        · rename_i hu; exact op_len h ho h1 (.inl ⟨rfl, hu⟩) he
        · rename_i hu; exact op_len h ho h1 (.inr ⟨rfl, _, hu⟩) he
        · cases h2
      · cases hc
    · cases hc
  · split at hc
    · rename_i ho
      split at hc
      · rename_i x1 x2 hxs
        simp only [Bool.and_eq_true] at hc
        rw [arr_of_list hxs] at ho
        exact op_minI h ho hc.1 hc.2 he
      · cases hc
    · cases hc
  · cases hc

def chkHv (T : Tr) (vs : List Nat) (N : Nat) (p : Op) : AOp → Bool
  | .allocL z => match p with
    | .alloc t => chkZ T.P t z
    | _ => false
  | .allocH z => match p with
    | .alloc t => chkZ T.P t z
    | _ => false
  | .allocT ty z => match p with
    | .alloc t => chkZ T.P t z && (T.tm ty == t)
    | _ => false
  | .boxT ty y => match p with
    | .box t x => chkX T vs N x y && (T.tm ty == t)
    | _ => false
  | .boxL y => match p with
    | .box _ x => chkX T vs N x y
    | _ => false
  | .boxH y => match p with
    | .box _ x => chkX T vs N x y
    | _ => false
  | .bslice _ z n qs => match p with
    | .buildSlice t n' ps => n' == n && chkRow T.P t z && chkPartsS T vs N ps.toList qs && decide (n * z.cells.length ≤ 16777216)
    | _ => false
  | .load n y => match p with
    | .load t x => chkX T vs N x y && chkN T.P t n
    | _ => false
  | .store n y1 y2 => match p with
    | .store t x1 x2 => chkX T vs N x1 y1 && chkX T vs N x2 y2 && chkN T.P t n
    | _ => false
  | .s2b _ y => match p with
    | .convert s d x => chkX T vs N x y && (match T.P.underlying s, T.P.underlying d with | some .string, some (.slice e) => (match T.P.underlying e with | some (.int .u8) => true | _ => false) | _, _ => false)
    | _ => false
  | .b2s y => match p with
    | .convert s d x => chkX T vs N x y && (match T.P.underlying s, T.P.underlying d with | some (.slice e), some .string => (match T.P.underlying e with | some (.int .u8) => true | _ => false) | _, _ => false)
    | _ => false
  | .mslice _ z yl yc => match p with
    | .makeSlice t xl xc => chkRow T.P t z && chkX T vs N xl yl && chkX T vs N xc yc
    | _ => false
  | .append _ sz y1 y2 => match p with
    | .call ⟨.builtin .append, xs, ts⟩ => match xs.toList, ts.toList with
      | [x1, x2], [t, u] => chkX T vs N x1 y1 && chkX T vs N x2 y2 && chkApp T.P t u sz
      | _, _ => false
    | _ => false
  | .appB y1 y2 => match p with
    | .call ⟨.builtin .append, xs, ts⟩ => match xs.toList, ts.toList with
      | [x1, x2], [t, u] => chkX T vs N x1 y1 && chkX T vs N x2 y2 && chkApp T.P t u 0 && (match T.P.underlying t with | some (.slice e) => e == T.tm 5 | _ => false)
      | _, _ => false
    | _ => false
  | .call f ys => match p with
    | .call ⟨.value (.func F), xs, _⟩ => T.fm f == F && chkArgs T vs N xs.toList ys
    | _ => false
  | .callv y ys => match p with
    | .call ⟨.value x, xs, _⟩ => chkX T vs N x y && chkArgs T vs N xs.toList ys
    | _ => false
  | .panic y => match p with
    | .panic x => chkX T vs N x y
    | _ => false
  | _ => false

theorem op_heavy {call : CallF} (hcall : CallOK T bar call) (h : Rel T vs N g w σ tm) {s : AOp} (hc : chkHv T vs N o.op s = true) (he : evOp call bar s σ = some r) :
    OpOKr T ((execOp (Act.mk tm ds).eval o).run T.P w) (OpPost T bar vs N g w tm r) (PanPost T bar vs N g w tm r) := by
  unfold chkHv at hc
  split at hc
  · split at hc
    · rename_i ho; exact op_allocL h ho hc he
    · cases hc
  · split at hc
    · rename_i ho; exact op_allocH h ho hc he
    · cases hc
  · split at hc
    · rename_i ho; simp only [Bool.and_eq_true, beq_iff_eq] at hc; exact op_allocT h ho hc.1 hc.2 he
    · cases hc
  · split at hc
    · rename_i ho; simp only [Bool.and_eq_true, beq_iff_eq] at hc; exact op_boxT h ho hc.1 hc.2 he
    · cases hc
  · split at hc
    · rename_i ho; exact op_boxL h ho hc he
    · cases hc
  · split at hc
    · rename_i ho; exact op_boxH h ho hc he
    · cases hc
  · split at hc
    · rename_i ho; simp only [Bool.and_eq_true, beq_iff_eq, decide_eq_true_eq] at hc
      obtain ⟨⟨⟨rfl, h1⟩, h2⟩, h3⟩ := hc
      exact op_bslice h ho h1 h2 h3 he
    · cases hc
  · split at hc
    · rename_i ho; simp only [Bool.and_eq_true] at hc
      exact (op_load h ho hc.1 hc.2 he).ok
    · cases hc
  · split at hc
    · rename_i ho; simp only [Bool.and_eq_true] at hc
      exact op_store h ho hc.1.1 hc.1.2 hc.2 he
    · cases hc
  · split at hc
    · rename_i ho; simp only [Bool.and_eq_true] at hc
      obtain ⟨h1, h2⟩ := hc
      split at h2
      · rename_i hs hd
        split at h2
        · rename_i hu; exact op_s2b h ho h1 hs hd hu he
        · cases h2
      · cases h2
    · cases hc
  · split at hc
    · rename_i ho; simp only [Bool.and_eq_true] at hc
      obtain ⟨h1, h2⟩ := hc
      split at h2
      · rename_i hs hd
        split at h2
        · rename_i hu; exact op_b2s h ho h1 hs hd hu he
        · cases h2
      · cases h2
    · cases hc
  · split at hc
    · rename_i ho; simp only [Bool.and_eq_true] at hc
      exact op_mslice h ho hc.1.1 hc.1.2 hc.2 he
    · cases hc
  · split at hc
    · rename_i ho
      split at hc
      · rename_i x1 x2 t u hxs hts
        simp only [Bool.and_eq_true] at hc
        rw [arr_of_list hxs, arr_of_list hts] at ho
        exact op_append h ho hc.1.1 hc.1.2 hc.2 he
      · cases hc
    · cases hc
  · split at hc
    · rename_i ho
      split at hc
      · rename_i x1 x2 t u hxs hts
        simp only [Bool.and_eq_true] at hc
        rw [arr_of_list hxs, arr_of_list hts] at ho
        have ht := hc.2
        split at ht
        · rename_i e hu
          simp only [beq_iff_eq] at ht
          subst ht
          exact op_appB h ho hc.1.1.1 hc.1.1.2 hc.1.2 hu he
        · cases ht
      · cases hc
    · cases hc
  · split at hc
    · rename_i ho; simp only [Bool.and_eq_true, beq_iff_eq] at hc
      exact op_call hcall h ho hc.1 hc.2 he
    · cases hc
  · split at hc
    · rename_i ho; simp only [Bool.and_eq_true] at hc
      exact op_callv hcall h ho hc.1 hc.2 he
    · cases hc
  · split at hc
    · rename_i ho; exact op_panic h ho hc he
    · cases hc
  · cases hc

end
end Go.Ak

namespace Go.Ak

inductive Kind where
  | quiet | load | heavy
  deriving DecidableEq

def kindM : Op → Kind
  | .move _ | .assign _ | .pick .. | .build .. | .nilCheck _ | .binOp .. | .unOp .. | .makeInterface .. | .makeFunc .. | .slice .. | .fieldAddr .. | .indexAddr .. | .index .. | .extract .. => .quiet
  | .load .. => .load
  | .call ⟨.builtin .len, _, _⟩ => .quiet
  | .call ⟨.builtin .min, _, _⟩ => .quiet
  | _ => .heavy

section
variable {P : Program} {ops : Array Oper} {Q : Exit → Act → World → Prop} {md : Region.Mode}

def YieldsL (P : Program) (ops : Array Oper) (o : Oper) (v : Value) (a : Act) (w : World) : Prop :=
  (Region.wanted o (yielded ops a.tmps) = true ∧ (execOp a.eval o).run P w = .ok (.value v) w) ∨ (Region.wanted o (yielded ops a.tmps) = false ∧ v = undef)

def opA (P : Program) (ops : Array Oper) (Q : Exit → Act → World → Prop) (i : Nat) (K : Act → World → Prop) (a : Act) (w : World) : Prop :=
  match ops[i]? with
  | none => K a w
  | some o => match kindM o.op with
    | .quiet => ∃ v, Yields P ops o v a ∧ K (a.put o.dst v) w
    | .load => ∃ v, YieldsL P ops o v a w ∧ K (a.put o.dst v) w
    | .heavy => if Region.wanted o (yielded ops a.tmps) then o.wp P a w K Q else K (a.put o.dst undef) w

def wpA (P : Program) (md : Region.Mode) (ops : Array Oper) (Q : Exit → Act → World → Prop) : Nat → Array Bool → Act → World → Prop
  | 0, listed, a, w => Region.ready md ops listed = [] ∧ Q .normal a w
  | fuel + 1, listed, a, w =>
    (Region.ready md ops listed = [] → Q .normal a w) ∧
    ∀ i ∈ Region.ready md ops listed, opA P ops Q i (wpA P md ops Q fuel (listed.setIfInBounds i true)) a w

theorem opA_mono {i : Nat} {a : Act} {w : World} {K K' : Act → World → Prop} (h : ∀ a w, K a w → K' a w) (hh : opA P ops Q i K a w) : opA P ops Q i K' a w := by
  unfold opA at *
  split
  · exact h _ _ (by simpa [*] using hh)
  · rename_i o ho
    simp only [ho] at hh
    split
    · rename_i hk; simp only [hk] at hh; obtain ⟨v, h1, h2⟩ := hh; exact ⟨v, h1, h _ _ h2⟩
    · rename_i hk; simp only [hk] at hh; obtain ⟨v, h1, h2⟩ := hh; exact ⟨v, h1, h _ _ h2⟩
    · rename_i hk; simp only [hk] at hh
      split
      · rename_i hw; simp only [hw, if_true] at hh; exact Oper.wp_mono h hh
      · rename_i hw; simp only [hw] at hh; exact h _ _ hh

theorem wpOp_of_opA {i : Nat} {a : Act} {w : World} {K K' : Act → World → Prop} (h : ∀ a w, K a w → K' a w) (hh : opA P ops Q i K a w) : wpOp P ops Q i K' a w := by
  unfold opA at hh
  unfold wpOp
  split
  · exact h _ _ (by simpa [*] using hh)
  · rename_i o ho
    simp only [ho] at hh
    split at hh
    · obtain ⟨v, h1, h2⟩ := hh
      rcases h1 with ⟨hw, hv⟩ | ⟨hw, rfl⟩
      · simp only [hw, if_true, Oper.wp, hv w, Oper.upon]; exact .inl (h _ _ h2)
      · simp only [hw, Bool.false_eq_true, if_false]; exact h _ _ h2
    · obtain ⟨v, h1, h2⟩ := hh
      rcases h1 with ⟨hw, hv⟩ | ⟨hw, rfl⟩
      · simp only [hw, if_true, Oper.wp, hv, Oper.upon]; exact .inl (h _ _ h2)
      · simp only [hw, Bool.false_eq_true, if_false]; exact h _ _ h2
    · split
      · rename_i hw; simp only [hw, if_true] at hh; exact .inl (Oper.wp_mono h hh)
      · rename_i hw; simp only [hw] at hh; exact h _ _ hh

theorem wpAny_of_wpA : ∀ (fuel : Nat) (listed : Array Bool) (a : Act) (w : World), wpA P md ops Q fuel listed a w → wpAny P md ops Q fuel listed a w
  | 0, _, _, _, h => h
  | fuel + 1, _, _, _, h => ⟨h.1, fun i hi => wpOp_of_opA (fun a w => wpAny_of_wpA fuel _ a w) (h.2 i hi)⟩

theorem YieldsL.of_same {o : Oper} {v : Value} {a a' : Act} {w : World} (hy : YieldsL P ops o v a w) (he : execOp a'.eval o = execOp a.eval o) (hw : Region.wanted o (yielded ops a'.tmps) = Region.wanted o (yielded ops a.tmps)) : YieldsL P ops o v a' w := by
  unfold YieldsL at *
  rw [he, hw]
  exact hy

theorem opA_put {j : Nat} {oi oj : Oper} {v : Value} (hj : ops[j]? = some oj) (hap : oi.apart ops oj = true) (hsi : ∀ cs b, oi.op ≠ .select cs b) (hsj : ∀ cs b, oj.op ≠ .select cs b)
    (hQ : ∀ c a w, Q (.panic c) (a.put oi.dst v) w → Q (.panic c) a w) {K : Act → World → Prop} {a : Act} {w : World} (hy : Yields P ops oi v a) (h : opA P ops Q j K (a.put oi.dst v) w) :
    opA P ops Q j (fun a' w' => Yields P ops oi v a' ∧ K (a'.put oi.dst v) w') a w := by
  obtain ⟨h1, h2, h3⟩ := Oper.apart_spec hap
  have keep : ∀ (a : Act), Yields P ops oi v a → ∀ u, Yields P ops oi v (a.put oj.dst u) := fun a hy u =>
    hy.of_same (execOp_put oi hsi a oj.dst u h3) (wanted_put oi a oj.dst u h3)
  unfold opA at *
  simp only [hj] at *
  split
  · rename_i hk
    simp only [hk] at h
    obtain ⟨u, hu, hK⟩ := h
    exact ⟨u, hu.of_same (execOp_put oj hsj a oi.dst v h1).symm (wanted_put oj a oi.dst v h1).symm, keep a hy u, by rw [← Act.put_comm a v u h2]; exact hK⟩
  · rename_i hk
    simp only [hk] at h
    obtain ⟨u, hu, hK⟩ := h
    exact ⟨u, hu.of_same (execOp_put oj hsj a oi.dst v h1).symm (wanted_put oj a oi.dst v h1).symm, keep a hy u, by rw [← Act.put_comm a v u h2]; exact hK⟩
  · rename_i hk
    simp only [hk] at h
    rw [wanted_put oj a oi.dst v h1] at h
    have keepD : ∀ d, Yields P ops oi v { a with defers := d :: a.defers } := fun d => hy.of_same rfl rfl
    split
    · rename_i hw
      simp only [hw, if_true] at h
      unfold Oper.wp at *
      rw [execOp_put oj hsj a oi.dst v h1] at h
      generalize (execOp a.eval oj).run P w = r at *
      cases r with
      | ok n w' =>
        cases n <;> simp only [Oper.upon] at h ⊢
        case value u => exact ⟨keep a hy u, by rw [← Act.put_comm a v u h2]; exact h⟩
        case skip => exact ⟨keep a hy _, by rw [← Act.put_comm a v undef h2]; exact h⟩
        case defer d =>
          refine ⟨(keepD d).of_same (execOp_put oi hsi _ oj.dst _ h3) (wanted_put oi _ oj.dst _ h3), ?_⟩
          rw [← Act.put_comm _ v undef h2, ← Act.put_defers]
          exact h
        case enter f args =>
          refine Calls.mono h fun e w'' he => ?_
          cases e with
          | returned u => exact ⟨keep a hy u, by rw [← Act.put_comm a v u h2]; exact he⟩
          | panicked c => exact hQ _ _ _ he
          | outgrown => exact he
        case row row args => exact Rows.mono h fun u w'' he => ⟨keep a hy u, by rw [← Act.put_comm a v u h2]; exact he⟩
      | halt x w' =>
        cases x <;> simp only [Oper.upon] at h ⊢
        case panic u => exact hQ _ _ _ h
    · rename_i hw
      simp only [hw] at h
      exact ⟨keep a hy _, by rw [← Act.put_comm a v undef h2]; exact h⟩

theorem opL_put {j : Nat} {oi oj : Oper} {v : Value} (hj : ops[j]? = some oj) (hnh : kindM oj.op ≠ .heavy) (hap : oi.apart ops oj = true) (hsi : ∀ cs b, oi.op ≠ .select cs b) (hsj : ∀ cs b, oj.op ≠ .select cs b)
    {K : Act → World → Prop} {a : Act} {w : World} (hy : YieldsL P ops oi v a w) (h : opA P ops Q j K (a.put oi.dst v) w) :
    opA P ops Q j (fun a' w' => YieldsL P ops oi v a' w' ∧ K (a'.put oi.dst v) w') a w := by
  obtain ⟨h1, h2, h3⟩ := Oper.apart_spec hap
  have keep : ∀ (a : Act), YieldsL P ops oi v a w → ∀ u, YieldsL P ops oi v (a.put oj.dst u) w := fun a hy u =>
    hy.of_same (execOp_put oi hsi a oj.dst u h3) (wanted_put oi a oj.dst u h3)
  unfold opA at *
  simp only [hj] at *
  split
  · rename_i hk
    simp only [hk] at h
    obtain ⟨u, hu, hK⟩ := h
    exact ⟨u, hu.of_same (execOp_put oj hsj a oi.dst v h1).symm (wanted_put oj a oi.dst v h1).symm, keep a hy u, by rw [← Act.put_comm a v u h2]; exact hK⟩
  · rename_i hk
    simp only [hk] at h
    obtain ⟨u, hu, hK⟩ := h
    exact ⟨u, hu.of_same (execOp_put oj hsj a oi.dst v h1).symm (wanted_put oj a oi.dst v h1).symm, keep a hy u, by rw [← Act.put_comm a v u h2]; exact hK⟩
  · rename_i hk; exact absurd hk hnh

/-- Behind 'i', by so many edges at most. -/
def behind (md : Region.Mode) (ops : Array Oper) (i : Nat) : Nat → Nat → Bool
  | 0, _ => false
  | f + 1, j => match ops[j]? with
    | some oj => oj.after.any fun e => Region.binds md e && (e.on == i || behind md ops i f e.on)
    | none => false

/-- What is listed has all listed that it is behind. -/
def Closed (md : Region.Mode) (ops : Array Oper) (listed : Array Bool) : Prop :=
  ∀ (j : Nat) (oj : Oper), ops[j]? = some oj → listed.getD j false = true → ∀ e ∈ oj.after, Region.binds md e = true → listed.getD e.on false = true

theorem not_behind {listed : Array Bool} (hc : Closed md ops listed) {i : Nat} (hi : listed.getD i false = false) : ∀ (f j : Nat) (oj : Oper), ops[j]? = some oj → (∀ e ∈ oj.after, Region.binds md e = true → listed.getD e.on false = true) → behind md ops i f j = false
  | 0, _, _, _, _ => rfl
  | f + 1, j, oj, hj, hall => by
    simp only [behind, hj]
    cases hb : (oj.after.any fun e => Region.binds md e && (e.on == i || behind md ops i f e.on)) with
    | false => rfl
    | true =>
      obtain ⟨e, he, h⟩ := Array.any_eq_true'.1 hb
      simp only [Bool.and_eq_true, Bool.or_eq_true, beq_iff_eq] at h
      have hl := hall e he h.1
      rcases h.2 with h2 | h2
      · rw [h2, hi] at hl; cases hl
      · cases ho : ops[e.on]? with
        | none => cases f <;> simp [behind, ho] at h2
        | some oe => rw [not_behind hc hi f e.on oe ho (fun e' he' hb' => hc e.on oe ho hl e' he' hb')] at h2; cases h2

theorem Closed.set {listed : Array Bool} (hc : Closed md ops listed) {i : Nat} (hr : i ∈ Region.ready md ops listed) : Closed md ops (listed.setIfInBounds i true) := by
  intro j oj hj hl e he hb
  obtain ⟨h0, oi, hoi, hall⟩ := mem_ready.1 hr
  by_cases hji : i = j
  · subst hji
    rw [hoi] at hj; cases hj
    exact getD_set_true (hall e he hb)
  · have hl' : listed.getD j false = true := by rw [Go.getD_set_ne false hji] at hl; exact hl
    exact getD_set_true (hc j oj hj hl' e he hb)

/-- Not yet listed, not behind 'i': apart from it (and, where 'i' is a load, nothing heavy). -/
def freeA (md : Region.Mode) (ops : Array Oper) (listed : Array Bool) (i : Nat) : Bool :=
  match ops[i]? with
  | none => false
  | some oi => (List.range ops.size).all fun j => j == i || listed.getD j true || match ops[j]? with
      | some oj => oi.apart ops oj && (kindM oi.op == .quiet || kindM oi.op == .load && kindM oj.op != .heavy) || behind md ops i 5 j
      | none => true

theorem freeA_spec {i : Nat} {oi : Oper} {listed : Array Bool} (hi : ops[i]? = some oi) (h : freeA md ops listed i = true) (j : Nat) (oj : Oper) (hj : ops[j]? = some oj) (hne : j ≠ i) (hun : listed.getD j true = false)
    (hno : behind md ops i 5 j = false) : oi.apart ops oj = true ∧ (kindM oi.op = .quiet ∨ (kindM oi.op = .load ∧ kindM oj.op ≠ .heavy)) := by
  simp only [freeA, hi, List.all_eq_true, List.mem_range] at h
  have h1 := h j (Array.getElem?_eq_some_iff.1 hj).1
  simp only [hj, Bool.or_eq_true, beq_iff_eq, hne, false_or, hun, Bool.false_eq_true, Bool.and_eq_true, bne_iff_ne, ne_eq, hno, or_false] at h1
  exact h1

/-- What goes first. -/
def First (P : Program) (ops : Array Oper) (o : Oper) (v : Value) (a : Act) (w : World) : Prop :=
  (kindM o.op = .quiet ∧ Yields P ops o v a) ∨ (kindM o.op = .load ∧ YieldsL P ops o v a w)

theorem wpA_first {i : Nat} {oi : Oper} {v : Value} (hi : ops[i]? = some oi) (hsel : ∀ (j : Nat) (o : Oper) cs b, ops[j]? = some o → o.op ≠ .select cs b)
    (hQ : ∀ c a w, Q (.panic c) (a.put oi.dst v) w → Q (.panic c) a w) :
    ∀ (fuel : Nat) (listed : Array Bool) (a : Act) (w : World),
      Closed md ops listed → (∀ j oj, ops[j]? = some oj → j ≠ i → listed.getD j true = false → behind md ops i 5 j = false → oi.apart ops oj = true ∧ (kindM oi.op = .quiet ∨ (kindM oi.op = .load ∧ kindM oj.op ≠ .heavy))) →
      i ∈ Region.ready md ops listed → First P ops oi v a w →
      wpA P md ops Q fuel (listed.setIfInBounds i true) (a.put oi.dst v) w → wpA P md ops Q (fuel + 1) listed a w := by
  have go : ∀ {K : Act → World → Prop} {a : Act} {w : World}, First P ops oi v a w → K (a.put oi.dst v) w → opA P ops Q i K a w := fun {K a w} hy hK => by
    unfold opA
    simp only [hi]
    rcases hy with ⟨hk, hy⟩ | ⟨hk, hy⟩
    · simp only [hk]; exact ⟨v, hy, hK⟩
    · simp only [hk]; exact ⟨v, hy, hK⟩
  intro fuel
  induction fuel with
  | zero =>
    intro listed a w _ _ hr hy H
    refine ⟨fun h => (by rw [h] at hr; cases hr), fun j hj => ?_⟩
    by_cases hji : j = i
    · subst hji; exact go hy H
    · have := ready_mono hj hji
      rw [H.1] at this
      cases this
  | succ fuel ih =>
    intro listed a w hcl hfree hr hy H
    refine ⟨fun h => (by rw [h] at hr; cases hr), fun j hj => ?_⟩
    by_cases hji : j = i
    · subst hji; exact go hy H
    · have h1 := H.2 j (ready_mono hj hji)
      obtain ⟨hjun, oj, hoj, hall⟩ := mem_ready.1 hj
      have hiun : listed.getD i false = false := by
        have h0 := (mem_ready.1 hr).1
        rcases Nat.lt_or_ge i listed.size with h' | h'
        · simp [h'] at h0 ⊢; exact h0
        · simp [Array.getElem?_eq_none h'] at h0
      have hnot : behind md ops i 5 j = false := not_behind hcl hiun 5 j oj hoj hall
      obtain ⟨hap, hkind⟩ := hfree j oj hoj hji hjun hnot
      have h2 : opA P ops Q j (fun a' w' => First P ops oi v a' w' ∧ wpA P md ops Q fuel ((listed.setIfInBounds i true).setIfInBounds j true) (a'.put oi.dst v) w') a w := by
        rcases hy with ⟨hk, hy⟩ | ⟨hk, hy⟩
        · exact opA_mono (fun a' w' h => ⟨.inl ⟨hk, h.1⟩, h.2⟩) (opA_put hoj hap (fun cs b => hsel i oi cs b hi) (fun cs b => hsel j oj cs b hoj) hQ hy h1)
        · have hnh : kindM oj.op ≠ .heavy := hkind.elim (fun h => by rw [hk] at h; cases h) (·.2)
          exact opA_mono (fun a' w' h => ⟨.inr ⟨hk, h.1⟩, h.2⟩) (opL_put hoj hnh hap (fun cs b => hsel i oi cs b hi) (fun cs b => hsel j oj cs b hoj) hy h1)
      have hfree' : ∀ k ok, ops[k]? = some ok → k ≠ i → (listed.setIfInBounds j true).getD k true = false →
          behind md ops i 5 k = false → oi.apart ops ok = true ∧ (kindM oi.op = .quiet ∨ (kindM oi.op = .load ∧ kindM ok.op ≠ .heavy)) := fun k ok hk hki hun hno => by
        refine hfree k ok hk hki ?_ hno
        by_cases hjk : j = k
        · subst hjk; exact hjun
        · rw [Go.getD_set_ne true hjk] at hun; exact hun
      refine opA_mono (fun a' w' h3 => ih (listed.setIfInBounds j true) a' w' (hcl.set hj) hfree' (ready_mono hr (Ne.symm hji)) h3.1 ?_) h2
      rw [Array.setIfInBounds_comm _ _ hji]
      exact h3.2

end
end Go.Ak

namespace Go.Ak

def chkDst (vs : List Nat) (N : Nat) : Option Tmp → Dst → Bool
  | none, .no => true
  | some d, .l t => d == t && !vs.contains t && decide (t < N)
  | some d, .v t => d == t && vs.contains t && decide (t < N)
  | _, _ => false

def chkGuard (T : Tr) (vs : List Nat) (N : Nat) (ops : Array Oper) : Option (Nat × Bool) → Option (Opd × Bool) → Bool
  | none, none => true
  | some (j, a), some (y, b) => a == b && match (ops[j]?).bind (·.dst) with
    | some t => chkX T vs N (.tmp t) y
    | none => false
  | _, _ => false

def loadA : AOp → Bool
  | .load .. => true
  | _ => false

def chkStep (T : Tr) (vs : List Nat) (N : Nat) (ops : Array Oper) (o : Oper) (s : AStep) : Bool :=
  chkDst vs N o.dst s.dst && chkGuard T vs N ops o.guard s.guard && (bif quietA s.op then chkQ T vs N o.op s.op else chkHv T vs N o.op s.op)

section
variable {T : Tr} {bar : Nat} {vs : List Nat} {N : Nat} {g : Gh} {w : World} {σ : St} {tm : Array Value} {ds : List Deferred} {o : Oper} {r : OpR} {ops : Array Oper} {call : CallF}

theorem put_ok (h : Rel T vs N g w σ tm) {od : Option Tmp} {d : Dst} (hd : chkDst vs N od d = true) {a : AV} {v : Value} (hv : AVR T g w σ tm .res a v) {σ' : St} (hp : put d a σ = some σ') :
    ∃ g', Ext bar g w g' w ∧ Rel T vs N g' w σ' ((Act.mk tm ds).put od v).tmps := by
  unfold chkDst at hd
  split at hd
  · simp only [put, Option.some.injEq] at hp
    subst hp
    exact ⟨g, .refl _ _ _, h⟩
  · rename_i dd t
    simp only [Bool.and_eq_true, beq_iff_eq, Bool.not_eq_true', decide_eq_true_eq] at hd
    obtain ⟨⟨rfl, h1⟩, h2⟩ := hd
    have hnb : ∀ cs, a ≠ .box cs := fun cs e => by subst e; simp [put] at hp
    have hp' : some { σ with lenv := (dd, a) :: σ.lenv } = some σ' := by
      rw [← hp]
      cases a <;> first | rfl | exact absurd rfl (hnb _)
    simp only [Option.some.injEq] at hp'
    subst hp'
    exact put_l h (by simpa using h1) h2 hnb hv
  · rename_i dd t
    simp only [Bool.and_eq_true, beq_iff_eq, decide_eq_true_eq] at hd
    obtain ⟨⟨rfl, h1⟩, h2⟩ := hd
    simp only [put] at hp
    cases hs : slotty a with
    | false => simp [hs] at hp
    | true =>
      simp only [hs, cond_true, Option.some.injEq] at hp
      subst hp
      have hr : isRef a = false := by cases a <;> simp_all [slotty, isRef]
      exact put_v h (by simpa using h1) h2 (hv.SV_of hr)
  · cases hd

theorem wanted_ok (h : Rel T vs N g w σ tm) {gd : Option (Opd × Bool)} (hg : chkGuard T vs N ops o.guard gd = true) {b : Bool} (hw : wanted σ gd = some b) : Region.wanted o (yielded ops tm) = b := by
  unfold Region.wanted
  unfold chkGuard at hg
  split at hg
  · rename_i e
    rw [e]
    simp only [wanted, Option.some.injEq] at hw
    exact hw
  · rename_i j a y b' e
    rw [e]
    simp only [Bool.and_eq_true, beq_iff_eq] at hg
    obtain ⟨rfl, hg⟩ := hg
    split at hg
    · rename_i t ht
      have hr := opd_rel (ds := []) h hg
      have htN : t < tm.size := by
        rw [h.size]
        cases y <;> simp [chkX] at hg
        · exact hg.2
        · exact hg.2
      have hge : tm[t]? = some (tm.getD t undef) := by simp [Array.getD_eq_getD_getElem?, htN]
      simp only [wanted] at hw
      split at hw
      · rename_i c hc
        rw [hc] at hr
        have hv : tm.getD t undef = .bool c := V.bool_inv hr
        simp only [Option.some.injEq] at hw
        simp only [yielded, ht, Option.bind_some, hge, hv]
        rw [← hw]
        cases c <;> cases a <;> rfl
      · rename_i l hc
        rw [hc] at hr
        obtain ⟨us, _, hv⟩ := V.tup_inv hr
        have hv : tm.getD t undef = .tuple us.toArray := hv
        simp only [Option.some.injEq] at hw
        simp only [yielded, ht, Option.bind_some, hge, hv]
        exact hw
      · cases hw
    · cases hg
  · cases hg

/-- What one step comes to: it is left out, or it yields a value whatever the world, or it runs. -/
theorem step_cases (hcall : CallOK T bar call) (h : Rel T vs N g w σ tm) {s : AStep} (hc : chkStep T vs N ops o s = true) {x : AExit} {σ1 : St} (he : stepE call bar s σ = some (x, σ1)) :
    (Region.wanted o (yielded ops tm) = false ∧ x = .norm ∧ ∃ g', Ext bar g w g' w ∧ Rel T vs N g' w σ1 ((Act.mk tm ds).put o.dst undef).tmps) ∨
    (Region.wanted o (yielded ops tm) = true ∧ quietA s.op = true ∧ x = .norm ∧ ∃ v, (∀ w', (execOp (Act.mk tm ds).eval o).run T.P w' = .ok (.value v) w') ∧ ∃ g', Ext bar g w g' w ∧ Rel T vs N g' w σ1 ((Act.mk tm ds).put o.dst v).tmps) ∨
    (Region.wanted o (yielded ops tm) = true ∧ quietA s.op = false ∧ chkHv T vs N o.op s.op = true ∧ ∃ r, evOp call bar s.op σ = some r ∧ OpOKr T ((execOp (Act.mk tm ds).eval o).run T.P w) (OpPost T bar vs N g w tm r) (PanPost T bar vs N g w tm r) ∧
      ((∃ a σ0, r = .ok a σ0 ∧ put s.dst a σ0 = some σ1 ∧ x = .norm) ∨ (∃ v, r = .pan v σ1 ∧ x = .pan v))) := by
  simp only [chkStep, Bool.and_eq_true] at hc
  obtain ⟨⟨hd, hg⟩, ho⟩ := hc
  simp only [stepE] at he
  split at he
  · rename_i hw
    have hw' := wanted_ok h hg hw
    right
    cases hq : quietA s.op with
    | true =>
      left
      simp only [hq, cond_true] at ho
      split at he
      · rename_i a σ0 hop
        obtain ⟨v, hrun, a', σ', g1, e, e1, e2, e3⟩ := op_quiet (ds := ds) h ho hop
        cases e
        split at he
        · rename_i σ2 hput
          simp only [Option.some.injEq, Prod.mk.injEq] at he
          obtain ⟨rfl, rfl⟩ := he
          obtain ⟨g2, f1, f2⟩ := put_ok (bar := bar) (ds := ds) e2 hd e3 hput
          exact ⟨hw', rfl, rfl, v, hrun, g2, e1.trans f1, f2⟩
        · cases he
      · rename_i v σ0 hop
        obtain ⟨v, hrun, a', σ', g1, e, _⟩ := op_quiet (ds := ds) h ho hop
        cases e
      · cases he
    | false =>
      right
      simp only [hq, cond_false] at ho
      refine ⟨hw', rfl, ho, ?_⟩
      split at he
      · rename_i a σ0 hop
        split at he
        · rename_i σ2 hput
          simp only [Option.some.injEq, Prod.mk.injEq] at he
          obtain ⟨rfl, rfl⟩ := he
          exact ⟨_, hop, op_heavy hcall h ho hop, .inl ⟨a, σ0, rfl, hput, rfl⟩⟩
        · cases he
      · rename_i v σ0 hop
        simp only [Option.some.injEq, Prod.mk.injEq] at he
        obtain ⟨rfl, rfl⟩ := he
        exact ⟨_, hop, op_heavy hcall h ho hop, .inr ⟨v, rfl, rfl⟩⟩
      · cases he
  · rename_i hw
    left
    refine ⟨wanted_ok h hg hw, ?_⟩
    split at he
    · rename_i σ2 hput
      simp only [Option.some.injEq, Prod.mk.injEq] at he
      obtain ⟨rfl, rfl⟩ := he
      exact ⟨rfl, put_ok (bar := bar) (ds := ds) h hd (.of_V (.tup [] [] .nil)) hput⟩
    · cases he
  · cases he

/-- One step, wanted or not, with what is asked behind it. -/
theorem step_wp (hcall : CallOK T bar call) (h : Rel T vs N g w σ tm) {s : AStep} (hc : chkStep T vs N ops o s = true) {x : AExit} {σ1 : St} (he : stepE call bar s σ = some (x, σ1)) {K : Act → World → Prop} {Q : Exit → Act → World → Prop}
    (hK : x = .norm → ∀ (tm' : Array Value) (g' : Gh) (w' : World), Ext bar g w g' w' → Rel T vs N g' w' σ1 tm' → K ⟨tm', ds⟩ w')
    (hQ : ∀ v, x = .pan v → ∀ (u : Value) (g' : Gh) (w' : World), Ext bar g w g' w' → HeapR T g' w' σ1.H → V T g' w' v u → Q (.panic [{ v := u, recovered := false }]) ⟨tm, ds⟩ w') :
    if Region.wanted o (yielded ops tm) then o.wp T.P ⟨tm, ds⟩ w K Q else K ((Act.mk tm ds).put o.dst undef) w := by
  have hput : ∀ (v : Value), (Act.mk tm ds).put o.dst v = ⟨((Act.mk tm ds).put o.dst v).tmps, ds⟩ := fun v => by cases o.dst <;> rfl
  rcases step_cases (ds := ds) hcall h hc he with ⟨hw, hx, g', e1, e2⟩ | ⟨hw, _, hx, v, hrun, g', e1, e2⟩ | ⟨hw, _, _, r, hop, hrun, hr⟩
  · rw [hw, hput]
    simp only [Bool.false_eq_true, if_false]
    exact hK hx _ g' w e1 e2
  · rw [hw]
    simp only [if_true, Oper.wp, hrun, Oper.upon]
    rw [hput]
    exact hK hx _ g' w e1 e2
  · rw [hw]
    simp only [if_true, Oper.wp]
    have hd : chkDst vs N o.dst s.dst = true := by
      simp only [chkStep, Bool.and_eq_true] at hc; exact hc.1.1
    have onR : ∀ v w', OpPost T bar vs N g w tm r v w' → K ((Act.mk tm ds).put o.dst v) w' := by
      rintro v w' ⟨a, σ', g', e, e1, e2, e3⟩
      rcases hr with ⟨a', σ0, e', hp, hx⟩ | ⟨v', e', _⟩
      · rw [e'] at e; cases e
        obtain ⟨g2, f1, f2⟩ := put_ok (bar := bar) (ds := ds) e2 hd e3 hp
        rw [hput]
        exact hK hx _ g2 w' (e1.trans f1) f2
      · rw [e'] at e; cases e
    have onP : ∀ v w', PanPost T bar vs N g w tm r v w' → Q (.panic [{ v := v, recovered := false }]) ⟨tm, ds⟩ w' := by
      rintro v w' ⟨a, σ', g', e, e1, e2, e3⟩
      rcases hr with ⟨a', σ0, e', _, _⟩ | ⟨v', e', hx⟩
      · rw [e'] at e; cases e
      · rw [e'] at e; cases e
        exact hQ _ hx v g' w' e1 e2.heap e3
    generalize (execOp (Act.mk tm ds).eval o).run T.P w = res at hrun
    cases res with
    | ok n w' =>
      cases n <;> simp only [OpOKr] at hrun <;> simp only [Oper.upon]
      case value v => exact onR v w' hrun
      case skip => exact onR undef w' hrun
      case enter f args =>
        refine hrun.mono fun e w'' hh => ?_
        cases e with
        | returned v => exact onR v w'' hh
        | panicked ch =>
          obtain ⟨v, rfl, hh⟩ := hh
          exact onP v w'' hh
        | outgrown => exact hh.elim
    | halt x w' =>
      cases x <;> simp only [OpOKr] at hrun <;> simp only [Oper.upon]
      case panic v => exact onP v w' hrun

/-- What is asked of a region's end. -/
def RPost (T : Tr) (bar : Nat) (vs : List Nat) (N : Nat) (g : Gh) (w : World) (ds : List Deferred) (r : AExit × St) : Exit → Act → World → Prop
  | .normal, a, w' => r.1 = .norm ∧ a.defers = ds ∧ ∃ g', Ext bar g w g' w' ∧ Rel T vs N g' w' ⟨r.2.env, [], [], r.2.H⟩ a.tmps
  | .panic ch, a, w' => a.defers = ds ∧ ∃ v u g', r.1 = .pan v ∧ ch = [{ v := u, recovered := false }] ∧ Ext bar g w g' w' ∧ HeapR T g' w' r.2.H ∧ V T g' w' v u
  | _, _, _ => False

theorem Rel.bare (h : Rel T vs N g w σ tm) : Rel T vs N g w ⟨σ.env, [], [], σ.H⟩ tm :=
  ⟨h.size, h.envk, fun _ _ => rfl, h.env, fun _ => V.undef _, fun _ _ => by simp [look], h.heap⟩

theorem RPost.mono {g0 : Gh} {w0 : World} (he : Ext bar g0 w0 g w) {r : AExit × St} {e : Exit} {a : Act} {w' : World} (h : RPost T bar vs N g w ds r e a w') : RPost T bar vs N g0 w0 ds r e a w' := by
  cases e with
  | normal => obtain ⟨h1, h2, g', h3, h4⟩ := h; exact ⟨h1, h2, g', he.trans h3, h4⟩
  | panic ch => obtain ⟨h1, v, u, g', h2, h3, h4, h5⟩ := h; exact ⟨h1, v, u, g', h2, h3, he.trans h4, h5⟩
  | _ => exact h.elim

theorem upon_mono {a : Act} {K K' : Act → World → Prop} {Q Q' : Exit → Act → World → Prop} (hK : ∀ a w, K a w → K' a w) (hQ : ∀ e a w, Q e a w → Q' e a w) {P : Program} {res : Result Next} (h : o.upon P a K Q res) : o.upon P a K' Q' res := by
  cases res with
  | ok n w' =>
    cases n <;> simp only [Oper.upon] at h ⊢
    case value v => exact hK _ _ h
    case skip => exact hK _ _ h
    case defer d => exact hK _ _ h
    case enter f args =>
      refine h.mono fun e w'' hh => ?_
      cases e with
      | returned v => exact hK _ _ hh
      | panicked ch => exact hQ _ _ _ hh
      | outgrown => obtain ⟨a, w, hh⟩ := hh; exact ⟨a, w, hQ _ _ _ hh⟩
    case row row args => exact h.mono fun v w'' hh => hK _ _ hh
  | halt x w' =>
    cases x <;> simp only [Oper.upon] at h ⊢
    case panic v => exact hQ _ _ _ h

theorem wpOps_mono {P : Program} {Q Q' : Exit → Act → World → Prop} (hQ : ∀ e a w, Q e a w → Q' e a w) : ∀ (l : List Nat) (a : Act) (w : World), wpOps P ops Q l a w → wpOps P ops Q' l a w
  | [], a, w, h => hQ _ _ _ h
  | i :: l, a, w, h => by
    simp only [wpOps] at h ⊢
    split
    · rename_i ho; simp only [ho] at h; exact wpOps_mono hQ l a w h
    · rename_i o' ho
      simp only [ho] at h
      split
      · rename_i hw
        simp only [hw, if_true] at h
        rcases h with h | ⟨h, h2⟩
        · exact .inl (upon_mono (fun a w => wpOps_mono hQ l a w) hQ h)
        · obtain ⟨a, w, h2⟩ := h2
          exact .inr ⟨h, a, w, hQ _ _ _ h2⟩
      · rename_i hw
        simp only [hw] at h
        exact wpOps_mono hQ l _ w h

def chkSteps (T : Tr) (vs : List Nat) (N : Nat) (ops : Array Oper) : Nat → List AStep → Bool
  | k, [] => k == ops.size
  | k, s :: r => match ops[k]? with
    | some o => chkStep T vs N ops o s && chkSteps T vs N ops (k + 1) r
    | none => false

theorem wpOps_steps (hcall : CallOK T bar call) : ∀ (l : List AStep) (k : Nat) (g : Gh) (w : World) (σ : St) (tm : Array Value) (_ : Rel T vs N g w σ tm) (_ : chkSteps T vs N ops k l = true) {r : AExit × St} (_ : evSteps call bar l σ = some r),
    wpOps T.P ops (RPost T bar vs N g w ds r) (List.range' k (ops.size - k)) ⟨tm, ds⟩ w
  | [], k, g, w, σ, tm, h, hc, r, he => by
    simp only [chkSteps, beq_iff_eq] at hc
    simp only [evSteps, Option.some.injEq] at he
    subst he
    rw [hc, Nat.sub_self, List.range'_zero]
    exact ⟨rfl, rfl, g, .refl _ _ _, h.bare⟩
  | s :: l, k, g, w, σ, tm, h, hc, r, he => by
    simp only [chkSteps] at hc
    split at hc
    · rename_i o ho
      simp only [Bool.and_eq_true] at hc
      have hk : k < ops.size := (Array.getElem?_eq_some_iff.1 ho).1
      obtain ⟨d, hd⟩ : ∃ d, ops.size - k = d + 1 := ⟨ops.size - k - 1, by omega⟩
      have hd' : ops.size - (k + 1) = d := by omega
      rw [hd, List.range'_succ]
      simp only [wpOps, ho]
      have hstep : ∃ x σ1, stepE call bar s σ = some (x, σ1) := by
        simp only [evSteps] at he
        cases hs : stepE call bar s σ with
        | none => rw [hs] at he; cases he
        | some p => exact ⟨p.1, p.2, rfl⟩
      obtain ⟨x, σ1, hs⟩ := hstep
      have key := step_wp (ds := ds) (K := wpOps T.P ops (RPost T bar vs N g w ds r) (List.range' (k + 1) d)) (Q := RPost T bar vs N g w ds r) hcall h hc.1 hs (fun hx tm' g' w' e1 e2 => by
        subst hx
        simp only [evSteps, hs] at he
        have := wpOps_steps hcall l (k + 1) g' w' σ1 tm' e2 hc.2 he
        rw [hd'] at this
        refine wpOps_mono (fun e a w => RPost.mono e1) _ _ _ this) (fun v hx u g' w' e1 e2 e3 => by
        subst hx
        simp only [evSteps, hs, Option.some.injEq] at he
        subst he
        exact ⟨rfl, v, u, g', rfl, rfl, e1, e2, e3⟩)
      split
      · rename_i hw; rw [if_pos hw] at key; exact .inl key
      · rename_i hw; rw [if_neg hw] at key; exact key
    · cases hc

end
end Go.Ak

namespace Go.Ak

mutual
theorem beqA_eq : ∀ (a b : AV), beqA a b = true → a = b
  | .undef, b, h => by cases b <;> first | rfl | simp [beqA] at h
  | .bool x, b, h => by cases b <;> first | (simp [beqA] at h; done) | (simp only [beqA, beq_iff_eq] at h; rw [h])
  | .int k x, b, h => by
    cases b <;> first | (simp [beqA] at h; done) | skip
    simp only [beqA, Bool.and_eq_true, decide_eq_true_eq, beq_iff_eq] at h
    rw [h.1, h.2]
  | .str x, b, h => by
    cases b <;> first | (simp [beqA] at h; done) | skip
    simp only [beqA, beqS_eq, beq_iff_eq] at h
    rw [h]
  | .nilp, b, h => by cases b <;> first | rfl | simp [beqA] at h
  | .nils, b, h => by cases b <;> first | rfl | simp [beqA] at h
  | .nilf, b, h => by cases b <;> first | rfl | simp [beqA] at h
  | .nili, b, h => by cases b <;> first | rfl | simp [beqA] at h
  | .ptr x y, b, h => by
    cases b <;> first | (simp [beqA] at h; done) | skip
    simp only [beqA, Bool.and_eq_true] at h
    rw [beq_nat h.1, beq_nat h.2]
  | .tptr x y z u, b, h => by
    cases b <;> first | (simp [beqA] at h; done) | skip
    simp only [beqA, Bool.and_eq_true] at h
    rw [beq_nat h.1.1.1, beq_nat h.1.1.2, beq_nat h.1.2, beq_nat h.2]
  | .rptr x y, b, h => by
    cases b <;> first | (simp [beqA] at h; done) | skip
    simp only [beqA, Bool.and_eq_true] at h
    rw [beqL_eq _ _ h.1, beq_nat h.2]
  | .slc p x, b, h => by
    cases b <;> first | (simp [beqA] at h; done) | skip
    simp only [beqA, Bool.and_eq_true, decide_eq_true_eq] at h
    rw [h.1, beqL_eq _ _ h.2]
  | .msl x y z u, b, h => by
    cases b <;> first | (simp [beqA] at h; done) | skip
    simp only [beqA, Bool.and_eq_true] at h
    rw [beq_nat h.1.1.1, beq_nat h.1.1.2, beq_nat h.1.2, beq_nat h.2]
  | .bsl x y, b, h => by
    cases b <;> first | (simp [beqA] at h; done) | skip
    simp only [beqA, Bool.and_eq_true] at h
    rw [beq_nat h.1, beq_nat h.2]
  | .agg x, b, h => by
    cases b <;> first | (simp [beqA] at h; done) | skip
    simp only [beqA] at h
    rw [beqL_eq _ _ h]
  | .tup x, b, h => by
    cases b <;> first | (simp [beqA] at h; done) | skip
    simp only [beqA] at h
    rw [beqL_eq _ _ h]
  | .fn x y, b, h => by
    cases b <;> first | (simp [beqA] at h; done) | skip
    simp only [beqA, Bool.and_eq_true] at h
    rw [beq_nat h.1, beqL_eq _ _ h.2]
  | .ifc x y, b, h => by
    cases b <;> first | (simp [beqA] at h; done) | skip
    simp only [beqA, Bool.and_eq_true] at h
    rw [beq_nat h.1, beqA_eq _ _ h.2]
  | .box x, b, h => by
    cases b <;> first | (simp [beqA] at h; done) | skip
    simp only [beqA] at h
    rw [beqL_eq _ _ h]
  | .loc x y z, b, h => by
    cases b <;> first | (simp [beqA] at h; done) | skip
    simp only [beqA, Bool.and_eq_true] at h
    rw [beq_nat h.1.1, beq_nat h.1.2, beq_nat h.2]
  | .eloc x y z u, b, h => by
    cases b <;> first | (simp [beqA] at h; done) | skip
    simp only [beqA, Bool.and_eq_true] at h
    rw [beq_nat h.1.1.1, beq_nat h.1.1.2, beq_nat h.1.2, beq_nat h.2]
  | .ref x y z u, b, h => by
    cases b <;> first | (simp [beqA] at h; done) | skip
    simp only [beqA, Bool.and_eq_true] at h
    rw [beq_nat h.1.1.1, beq_nat h.1.1.2, beq_nat h.1.2, beq_nat h.2]
theorem beqL_eq : ∀ (a b : List AV), beqL a b = true → a = b
  | [], [], _ => rfl
  | [], _ :: _, h => by simp [beqL] at h
  | _ :: _, [], h => by simp [beqL] at h
  | a :: x, b :: y, h => by
    simp only [beqL, Bool.and_eq_true] at h
    rw [beqA_eq _ _ h.1, beqL_eq _ _ h.2]
end

theorem beqE_eq : ∀ (a b : List (Nat × AV)), beqE a b = true → a = b
  | [], [], _ => rfl
  | [], _ :: _, h => by simp [beqE] at h
  | _ :: _, [], h => by simp [beqE] at h
  | (k, a) :: x, (l, b) :: y, h => by
    simp only [beqE, Bool.and_eq_true] at h
    rw [beq_nat h.1.1, beqA_eq _ _ h.1.2, beqE_eq _ _ h.2]

theorem beqH_eq : ∀ (a b : Heap), beqH a b = true → a = b
  | [], [], _ => rfl
  | [], _ :: _, h => by simp [beqH] at h
  | none :: x, [], h => by simp [beqH] at h
  | some _ :: x, [], h => by simp [beqH] at h
  | none :: x, none :: y, h => by
    simp only [beqH] at h
    rw [beqH_eq _ _ h]
  | none :: x, some b :: y, h => by simp [beqH] at h
  | some a :: x, none :: y, h => by simp [beqH] at h
  | some a :: x, some b :: y, h => by
    simp only [beqH, Bool.and_eq_true] at h
    rw [beqL_eq _ _ h.1, beqH_eq _ _ h.2]

section
variable {T : Tr} {bar : Nat} {vs : List Nat} {N : Nat} {g : Gh} {w : World} {σ : St} {tm : Array Value} {ds : List Deferred} {o : Oper} {r : OpR} {ops : Array Oper} {call : CallF}

theorem RPost.same {a b : AExit × St} (h : sameR a b = true) {e : Exit} {x : Act} {w' : World} (hb : RPost T bar vs N g w ds b e x w') : RPost T bar vs N g w ds a e x w' := by
  obtain ⟨ea, σa⟩ := a
  obtain ⟨eb, σb⟩ := b
  unfold sameR at h
  split at h
  · rename_i σ τ e1 e2
    cases e1; cases e2
    simp only [Bool.and_eq_true] at h
    have k1 := beqE_eq _ _ h.1
    have k2 := beqH_eq _ _ h.2
    cases e with
    | normal =>
      obtain ⟨_, h2, g', h3, h4⟩ := hb
      exact ⟨rfl, h2, g', h3, by simp only [k1, k2]; exact h4⟩
    | panic ch => obtain ⟨_, v, u, g', h2, _⟩ := hb; cases h2
    | _ => exact hb.elim
  · rename_i v σ u τ e1 e2
    cases e1; cases e2
    simp only [Bool.and_eq_true] at h
    have k1 := beqA_eq _ _ h.1
    have k2 := beqH_eq _ _ h.2
    cases e with
    | normal => obtain ⟨h1, _⟩ := hb; cases h1
    | panic ch =>
      obtain ⟨h1, v', u', g', h2, h3, h4, h5, h6⟩ := hb
      cases h2
      exact ⟨h1, v, u', g', rfl, h3, h4, by simp only [k2]; exact h5, by rw [k1]; exact h6⟩
    | _ => exact hb.elim
  · cases h

theorem opA_imp {P : Program} {Q Q' : Exit → Act → World → Prop} {i : Nat} {a : Act} {w : World} {K K' : Act → World → Prop} (hK : ∀ a w, K a w → K' a w) (hQ : ∀ e a w, Q e a w → Q' e a w) (h : opA P ops Q i K a w) : opA P ops Q' i K' a w := by
  unfold opA at *
  split
  · exact hK _ _ (by simpa [*] using h)
  · rename_i o ho
    simp only [ho] at h
    split
    · rename_i hk; simp only [hk] at h; obtain ⟨v, h1, h2⟩ := h; exact ⟨v, h1, hK _ _ h2⟩
    · rename_i hk; simp only [hk] at h; obtain ⟨v, h1, h2⟩ := h; exact ⟨v, h1, hK _ _ h2⟩
    · rename_i hk; simp only [hk] at h
      split
      · rename_i hw; simp only [hw, if_true] at h; exact upon_mono hK hQ h
      · rename_i hw; simp only [hw] at h; exact hK _ _ h

theorem wpA_imp {P : Program} {md : Region.Mode} {Q Q' : Exit → Act → World → Prop} (hQ : ∀ e a w, Q e a w → Q' e a w) : ∀ (n : Nat) (listed : Array Bool) (a : Act) (w : World), wpA P md ops Q n listed a w → wpA P md ops Q' n listed a w
  | 0, _, _, _, h => ⟨h.1, hQ _ _ _ h.2⟩
  | n + 1, _, _, _, h => ⟨fun h0 => hQ _ _ _ (h.1 h0), fun i hi => opA_imp (fun a w => wpA_imp hQ n _ a w) hQ (h.2 i hi)⟩

def kindOK (p : Op) (s : AOp) : Bool :=
  match kindM p with
  | .quiet => quietA s
  | .load => loadA s
  | .heavy => true

theorem put_eq (a : Act) (d : Option Tmp) (v : Value) : a.put d v = ⟨(a.put d v).tmps, a.defers⟩ := by cases d <;> rfl

/-- A load, or what is quiet: what it yields. -/
theorem step_first (hcall : CallOK T bar call) (h : Rel T vs N g w σ tm) {s : AStep} (hc : chkStep T vs N ops o s = true) (hk : kindOK o.op s.op = true) (hh : kindM o.op ≠ .heavy) {x : AExit} {σ1 : St} (he : stepE call bar s σ = some (x, σ1)) :
    x = .norm ∧ ∃ v g', First T.P ops o v ⟨tm, ds⟩ w ∧ Ext bar g w g' w ∧ Rel T vs N g' w σ1 ((Act.mk tm ds).put o.dst v).tmps := by
  have hfirst : ∀ {v : Value}, (kindM o.op = .quiet → Yields T.P ops o v ⟨tm, ds⟩) → (kindM o.op = .load → YieldsL T.P ops o v ⟨tm, ds⟩ w) → First T.P ops o v ⟨tm, ds⟩ w := fun {v} h1 h2 => by
    cases hm : kindM o.op with
    | quiet => exact .inl ⟨hm, h1 hm⟩
    | load => exact .inr ⟨hm, h2 hm⟩
    | heavy => exact absurd hm hh
  rcases step_cases (ds := ds) hcall h hc he with ⟨hw, hx, g', e1, e2⟩ | ⟨hw, _, hx, v, hrun, g', e1, e2⟩ | ⟨hw, hq, hv, r, hop, hrun, hr⟩
  · exact ⟨hx, undef, g', hfirst (fun _ => .inr ⟨hw, rfl⟩) (fun _ => .inr ⟨hw, rfl⟩), e1, e2⟩
  · exact ⟨hx, v, g', hfirst (fun _ => .inl ⟨hw, hrun⟩) (fun _ => .inl ⟨hw, hrun w⟩), e1, e2⟩
  · have hd : chkDst vs N o.dst s.dst = true := by
      simp only [chkStep, Bool.and_eq_true] at hc; exact hc.1.1
    have hm : kindM o.op = .load := by
      cases hm : kindM o.op with
      | quiet => simp only [kindOK, hm] at hk; rw [hk] at hq; cases hq
      | load => rfl
      | heavy => exact absurd hm hh
    simp only [kindOK, hm] at hk
    cases hs : s.op with
    | load n y =>
      rw [hs] at hv hop
      simp only [chkHv] at hv
      split at hv
      · rename_i t x' ho
        simp only [Bool.and_eq_true] at hv
        obtain ⟨v, hr1, a', σ', g1, e, e1, e2, e3⟩ := op_load (ds := ds) h ho hv.1 hv.2 hop
        subst e
        rcases hr with ⟨a0, σ0, e', hp, hx⟩ | ⟨v', e', _⟩
        · cases e'
          obtain ⟨g2, f1, f2⟩ := put_ok (bar := bar) (ds := ds) e2 hd e3 hp
          exact ⟨hx, v, g2, hfirst (fun hm' => by rw [hm] at hm'; cases hm') (fun _ => .inl ⟨hw, hr1⟩), e1.trans f1, f2⟩
        · cases e'
      · cases hv
    | _ => rw [hs] at hk; simp [loadA] at hk

theorem step_opA (hcall : CallOK T bar call) (h : Rel T vs N g w σ tm) {i : Nat} (hi : ops[i]? = some o) {s : AStep} (hc : chkStep T vs N ops o s = true) (hk : kindOK o.op s.op = true) {x : AExit} {σ1 : St} (he : stepE call bar s σ = some (x, σ1)) {K : Act → World → Prop} {Q : Exit → Act → World → Prop}
    (hK : x = .norm → ∀ (tm' : Array Value) (g' : Gh) (w' : World), Ext bar g w g' w' → Rel T vs N g' w' σ1 tm' → K ⟨tm', ds⟩ w')
    (hQ : ∀ v, x = .pan v → ∀ (u : Value) (g' : Gh) (w' : World), Ext bar g w g' w' → HeapR T g' w' σ1.H → V T g' w' v u → Q (.panic [{ v := u, recovered := false }]) ⟨tm, ds⟩ w') :
    opA T.P ops Q i K ⟨tm, ds⟩ w := by
  unfold opA
  simp only [hi]
  cases hm : kindM o.op with
  | heavy => exact step_wp hcall h hc he hK hQ
  | quiet =>
    obtain ⟨hx, v, g', h1, h2, h3⟩ := step_first (ds := ds) hcall h hc hk (by rw [hm]; simp) he
    rcases h1 with ⟨_, h1⟩ | ⟨h1, _⟩
    · exact ⟨v, h1, by rw [put_eq]; exact hK hx _ g' w h2 h3⟩
    · rw [hm] at h1; cases h1
  | load =>
    obtain ⟨hx, v, g', h1, h2, h3⟩ := step_first (ds := ds) hcall h hc hk (by rw [hm]; simp) he
    rcases h1 with ⟨h1, _⟩ | ⟨_, h1⟩
    · rw [hm] at h1; cases h1
    · exact ⟨v, h1, by rw [put_eq]; exact hK hx _ g' w h2 h3⟩

def firsts : Plan → List Nat
  | .one i _ _ => [i]
  | .alt i _ _ q => i :: firsts q
  | _ => []

def chkNext (T : Tr) (vs : List Nat) (N : Nat) (ops : Array Oper) (i : Nat) (s : AStep) : Bool :=
  match ops[i]? with
  | some o => chkStep T vs N ops o s && kindOK o.op s.op
  | none => false

def readyB (ops : Array Oper) (listed : Array Bool) (i : Nat) : Bool := (Region.ready .any ops listed).contains i

def cover (ops : Array Oper) (listed : Array Bool) (l : List Nat) : Bool := !(Region.ready .any ops listed).isEmpty && (Region.ready .any ops listed).all l.contains

def chkPlan (T : Tr) (vs : List Nat) (N : Nat) (ops : Array Oper) : Plan → Bool → Nat → Array Bool → Bool
  | .fin, _, _, listed => (Region.ready .any ops listed).isEmpty
  | .seq i s p, _, n + 1, listed => (Region.ready .any ops listed).contains i && freeA .any ops listed i && (match ops[i]? with | some o => kindM o.op != .heavy | none => false) && chkNext T vs N ops i s && chkPlan T vs N ops p true n (listed.setIfInBounds i true)
  | .one i s p, top, n + 1, listed => (!top || cover ops listed [i]) && readyB ops listed i && chkNext T vs N ops i s && chkPlan T vs N ops p true n (listed.setIfInBounds i true)
  | .alt i s p q, top, n + 1, listed => (!top || cover ops listed (i :: firsts q)) && readyB ops listed i && chkNext T vs N ops i s && chkPlan T vs N ops p true n (listed.setIfInBounds i true) && chkPlan T vs N ops q false (n + 1) listed
  | _, _, 0, _ => false

theorem chkNext_get {i : Nat} {s : AStep} (h : chkNext T vs N ops i s = true) : ∃ o, ops[i]? = some o ∧ chkStep T vs N ops o s = true ∧ kindOK o.op s.op = true := by
  unfold chkNext at h
  split at h
  · rename_i o ho
    simp only [Bool.and_eq_true] at h
    exact ⟨o, ho, h.1, h.2⟩
  · cases h

/-- What follows one step. -/
def thenP (call : CallF) (bar : Nat) (s : AStep) (p : Plan) (σ : St) : Option (AExit × St) :=
  match stepE call bar s σ with
  | some (.norm, σ) => evPlan call bar p σ
  | r => r

theorem plan_ok (hcall : CallOK T bar call) (hsel : Region.noSelect ops = true) : ∀ (p : Plan) (top : Bool) (n : Nat) (listed : Array Bool) (g : Gh) (w : World) (σ : St) (tm : Array Value) (_ : Closed .any ops listed) (_ : Rel T vs N g w σ tm) (_ : chkPlan T vs N ops p top n listed = true) {r : AExit × St} (_ : evPlan call bar p σ = some r),
    (top = true → wpA T.P .any ops (RPost T bar vs N g w ds r) n listed ⟨tm, ds⟩ w) ∧ (∀ i ∈ firsts p, ∃ m, n = m + 1 ∧ opA T.P ops (RPost T bar vs N g w ds r) i (wpA T.P .any ops (RPost T bar vs N g w ds r) m (listed.setIfInBounds i true)) ⟨tm, ds⟩ w) := by
  intro p
  -- what one branch comes to
  have branch : ∀ (i : Nat) (s : AStep) (p : Plan), (∀ (top : Bool) (n : Nat) (listed : Array Bool) (g : Gh) (w : World) (σ : St) (tm : Array Value) (_ : Closed .any ops listed) (_ : Rel T vs N g w σ tm) (_ : chkPlan T vs N ops p top n listed = true) {r : AExit × St} (_ : evPlan call bar p σ = some r),
      (top = true → wpA T.P .any ops (RPost T bar vs N g w ds r) n listed ⟨tm, ds⟩ w) ∧ (∀ i ∈ firsts p, ∃ m, n = m + 1 ∧ opA T.P ops (RPost T bar vs N g w ds r) i (wpA T.P .any ops (RPost T bar vs N g w ds r) m (listed.setIfInBounds i true)) ⟨tm, ds⟩ w)) →
      ∀ (n : Nat) (listed : Array Bool) (g : Gh) (w : World) (σ : St) (tm : Array Value) (_ : Closed .any ops listed) (_ : i ∈ Region.ready .any ops listed) (_ : Rel T vs N g w σ tm), chkNext T vs N ops i s = true → chkPlan T vs N ops p true n (listed.setIfInBounds i true) = true → ∀ {r : AExit × St}, thenP call bar s p σ = some r →
      opA T.P ops (RPost T bar vs N g w ds r) i (wpA T.P .any ops (RPost T bar vs N g w ds r) n (listed.setIfInBounds i true)) ⟨tm, ds⟩ w := by
    intro i s p ih n listed g w σ tm hcl hri h hn hp r he
    obtain ⟨o, ho, h1, h2⟩ := chkNext_get hn
    unfold thenP at he
    cases hs : stepE call bar s σ with
    | none => rw [hs] at he; cases he
    | some pr =>
      obtain ⟨x, σ1⟩ := pr
      refine step_opA hcall h ho h1 h2 hs (fun hx tm' g' w' e1 e2 => ?_) (fun v hx u g' w' e1 e2 e3 => ?_)
      · subst hx
        simp only [hs] at he
        exact wpA_imp (fun e a w => RPost.mono e1) _ _ _ _ ((ih true n _ g' w' σ1 tm' (hcl.set hri) e2 hp he).1 rfl)
      · subst hx
        simp only [hs, Option.some.injEq] at he
        subst he
        exact ⟨rfl, v, u, g', rfl, rfl, e1, e2, e3⟩
  induction p with
  | fin =>
    intro top n listed g w σ tm hcl h hc r he
    simp only [chkPlan, List.isEmpty_iff] at hc
    simp only [evPlan, Option.some.injEq] at he
    subst he
    have hQ : RPost T bar vs N g w ds (AExit.norm, σ) .normal ⟨tm, ds⟩ w := ⟨rfl, rfl, g, .refl _ _ _, h.bare⟩
    refine ⟨fun _ => ?_, fun i hi => by simp [firsts] at hi⟩
    cases n with
    | zero => exact ⟨hc, hQ⟩
    | succ n => exact ⟨fun _ => hQ, by rw [hc]; simp⟩
  | seq i s p ih =>
    intro top n listed g w σ tm hcl h hc r he
    refine ⟨fun _ => ?_, fun i hi => by simp [firsts] at hi⟩
    cases n with
    | zero => simp [chkPlan] at hc
    | succ n =>
      simp only [chkPlan, Bool.and_eq_true] at hc
      obtain ⟨⟨⟨⟨c1, c2⟩, c3⟩, c4⟩, c5⟩ := hc
      obtain ⟨o, ho, h1, h2⟩ := chkNext_get c4
      rw [ho] at c3
      simp only [bne_iff_ne, ne_eq] at c3
      cases hs : stepE call bar s σ with
      | none => simp only [evPlan, hs] at he; cases he
      | some pr =>
        obtain ⟨x, σ1⟩ := pr
        obtain ⟨hx, v, g', k1, k2, k3⟩ := step_first (ds := ds) hcall h h1 h2 c3 hs
        subst hx
        simp only [evPlan, hs] at he
        refine wpA_first ho (fun j o cs b hj => Region.noSelect_spec hsel j o cs b hj) (fun c a w hp => ?_) n listed ⟨tm, ds⟩ w hcl (fun j oj hj hne hun hno => freeA_spec ho c2 j oj hj hne hun hno) (by simpa using c1) k1 ?_
        · obtain ⟨p1, p2⟩ := hp
          refine ⟨?_, p2⟩
          rw [← p1]
          cases o.dst <;> rfl
        · rw [put_eq]
          exact wpA_imp (fun e a w => RPost.mono k2) _ _ _ _ ((ih true n _ g' w σ1 _ (hcl.set (by simpa using c1)) k3 c5 he).1 rfl)
  | one i s p ih =>
    intro top n listed g w σ tm hcl h hc r he
    cases n with
    | zero => simp [chkPlan] at hc
    | succ n =>
      simp only [chkPlan, Bool.and_eq_true] at hc
      obtain ⟨⟨⟨c1, cr⟩, c2⟩, c3⟩ := hc
      have hb := branch i s p ih n listed g w σ tm hcl (by simpa [readyB] using cr) h c2 c3 (r := r) (by simp only [evPlan] at he; change thenP call bar s p σ = some r at he; exact he)
      have hall : ∀ j ∈ [i], opA T.P ops (RPost T bar vs N g w ds r) j (wpA T.P .any ops (RPost T bar vs N g w ds r) n (listed.setIfInBounds j true)) ⟨tm, ds⟩ w := fun j hj => by
        have : j = i := by simpa using hj
        subst this; exact hb
      refine ⟨fun ht => ?_, fun j hj => ⟨n, rfl, hall j (by simpa [firsts] using hj)⟩⟩
      subst ht
      simp only [Bool.not_true, Bool.false_or, cover, Bool.and_eq_true, Bool.not_eq_true', List.all_eq_true] at c1
      exact ⟨fun h0 => by rw [h0] at c1; simp at c1, fun j hj => hall j (by simpa using c1.2 j hj)⟩
  | alt i s p q ihp ihq =>
    intro top n listed g w σ tm hcl h hc r he
    cases n with
    | zero => simp [chkPlan] at hc
    | succ n =>
      simp only [chkPlan, Bool.and_eq_true] at hc
      obtain ⟨⟨⟨⟨c1, cr⟩, c2⟩, c3⟩, c4⟩ := hc
      have hev : ∃ a b, thenP call bar s p σ = some a ∧ evPlan call bar q σ = some b ∧ sameR a b = true ∧ r = a := by
        simp only [evPlan] at he
        change (match thenP call bar s p σ, evPlan call bar q σ with
          | some a, some b => bif sameR a b then some a else none
          | _, _ => none) = some r at he
        split at he
        · rename_i a b h1 h2
          cases hs : sameR a b with
          | false => simp [hs] at he
          | true => simp only [hs, cond_true, Option.some.injEq] at he; exact ⟨a, b, h1, h2, hs, he.symm⟩
        · cases he
      obtain ⟨a, b, h1, h2, h3, rfl⟩ := hev
      have hb := branch i s p ihp n listed g w σ tm hcl (by simpa [readyB] using cr) h c2 c3 h1
      have hq := (ihq false (n + 1) listed g w σ tm hcl h c4 h2).2
      have hall : ∀ j ∈ i :: firsts q, opA T.P ops (RPost T bar vs N g w ds r) j (wpA T.P .any ops (RPost T bar vs N g w ds r) n (listed.setIfInBounds j true)) ⟨tm, ds⟩ w := fun j hj => by
        rcases List.mem_cons.1 hj with rfl | hj
        · exact hb
        · obtain ⟨m, hm, hop⟩ := hq j hj
          have : m = n := by omega
          subst this
          exact opA_imp (fun a w => wpA_imp (fun e x w => RPost.same h3) _ _ a w) (fun e x w => RPost.same h3) hop
      refine ⟨fun ht => ?_, fun j hj => ⟨n, rfl, hall j (by simpa [firsts] using hj)⟩⟩
      subst ht
      simp only [Bool.not_true, Bool.false_or, cover, Bool.and_eq_true, Bool.not_eq_true', List.all_eq_true] at c1
      exact ⟨fun h0 => by rw [h0] at c1; simp at c1, fun j hj => hall j (by simpa using c1.2 j hj)⟩

end
end Go.Ak

namespace Go.Ak

def chkCode (T : Tr) (vs : List Nat) (N : Nat) : Code → ACode → Bool
  | .skip, .skip => true
  | .region _ ops false, .region l => chkSteps T vs N ops 0 l
  | .region _ ops true, .draw p => Region.noSelect ops && chkPlan T vs N ops p true ops.size (Array.replicate ops.size false)
  | .seq x y, .seq a b => chkCode T vs N x a && chkCode T vs N y b
  | .cond c x y, .cond _ c' a b => chkX T vs N c c' && chkCode T vs N x a && chkCode T vs N y b
  | .block i x, .block j a => i == j && chkCode T vs N x a
  | .loop x, .loop a => chkCode T vs N x a
  | .exit i, .exit j => i == j
  | .ret, .ret => true
  | _, _ => false

section
variable {T : Tr} {bar : Nat} {vs : List Nat} {N : Nat} {g : Gh} {w : World} {σ : St} {tm : Array Value} {ds : List Deferred} {call : CallF}

def Fr (T : Tr) (bar : Nat) (vs : List Nat) (N : Nat) (g : Gh) (w : World) (ds : List Deferred) (s : EH) (a : Act) (w' : World) : Prop :=
  a.defers = ds ∧ ∃ g', Ext bar g w g' w' ∧ Rel T vs N g' w' ⟨s.1, [], [], s.2⟩ a.tmps

def CPost (T : Tr) (bar : Nat) (vs : List Nat) (N : Nat) (g : Gh) (w : World) (ds : List Deferred) (r : AExit × EH) : Exit → Act → World → Prop
  | .normal, a, w' => r.1 = .norm ∧ Fr T bar vs N g w ds r.2 a w'
  | .exit i, a, w' => r.1 = .exit i ∧ Fr T bar vs N g w ds r.2 a w'
  | .ret, a, w' => r.1 = .ret ∧ Fr T bar vs N g w ds r.2 a w'
  | .panic ch, a, w' => a.defers = ds ∧ ∃ v u g', r.1 = .pan v ∧ ch = [{ v := u, recovered := false }] ∧ Ext bar g w g' w' ∧ HeapR T g' w' r.2.2 ∧ V T g' w' v u
  | _, _, _ => False

theorem Fr.mono {g0 : Gh} {w0 : World} (he : Ext bar g0 w0 g w) {s : EH} {a : Act} {w' : World} (h : Fr T bar vs N g w ds s a w') : Fr T bar vs N g0 w0 ds s a w' :=
  let ⟨h1, g', h2, h3⟩ := h; ⟨h1, g', he.trans h2, h3⟩

theorem CPost.mono {g0 : Gh} {w0 : World} (he : Ext bar g0 w0 g w) {r : AExit × EH} {e : Exit} {a : Act} {w' : World} (h : CPost T bar vs N g w ds r e a w') : CPost T bar vs N g0 w0 ds r e a w' := by
  cases e with
  | normal => exact ⟨h.1, h.2.mono he⟩
  | exit i => exact ⟨h.1, h.2.mono he⟩
  | ret => exact ⟨h.1, h.2.mono he⟩
  | panic ch => obtain ⟨h1, v, u, g', h2, h3, h4, h5⟩ := h; exact ⟨h1, v, u, g', h2, h3, he.trans h4, h5⟩
  | _ => exact h.elim

theorem CPost.of_R {r : AExit × St} {e : Exit} {a : Act} {w' : World} (h : RPost T bar vs N g w ds r e a w') : CPost T bar vs N g w ds (r.1, (r.2.env, r.2.H)) e a w' := by
  cases e with
  | normal => exact h
  | panic ch => exact h
  | _ => exact h.elim

theorem Ext.heap_eq {w' : World} (h : w'.heap = w.heap) (h1 : w'.os = w.os) (h2 : (w'.output, w'.tape) = (w.output, w.tape)) : Ext bar g w g w' where
  size := by rw [h]; exact Nat.le_refl _
  S _ := Nat.le_refl _
  cell b o _ := by simp only [World.cell?, h]
  ob _ _ h := h
  shape b x hx := by simpa only [World.shape?, h] using hx
  kept b hb := ⟨hb, rfl, by rw [h]⟩
  low id b _ _ hb := ⟨hb, rfl, by rw [h]⟩
  os := h1
  out := h2

theorem Rel.heap_eq {w' : World} (h : Rel T vs N g w σ tm) (hh : w'.heap = w.heap) (h1 : w'.os = w.os) (h2 : (w'.output, w'.tape) = (w.output, w.tape)) : Rel T vs N g w' σ tm := by
  refine h.frame (H' := σ.H) (Ext.heap_eq (bar := 0) hh h1 h2) (fun b t hb _ => ⟨hb, rfl, by rw [hh]⟩) (fun b t hb _ => ⟨hb, rfl, by rw [hh]⟩) ?_
  exact h.heap.frame (Ext.heap_eq (bar := 0) hh h1 h2) (fun b id hb => ⟨hb, rfl, by rw [hh]⟩) rfl fun b hb => h.heap.fresh b (by rw [hh] at hb; exact hb)

theorem region_ok (hcall : CallOK T bar call) {id : Nat} {ops : Array Oper} {l : List AStep} (hc : chkSteps T vs N ops 0 l = true) {s : EH} (h : Rel T vs N g w ⟨s.1, [], [], s.2⟩ tm) {r : AExit × St} (he : evSteps call bar l ⟨s.1, [], [], s.2⟩ = some r) :
    (Code.region id ops false).wp T.P (CPost T bar vs N g w ds (r.1, (r.2.env, r.2.H))) ⟨tm, ds⟩ w := by
  refine wp_mono (wp_region ?_) fun e a w' => CPost.of_R
  have := wpOps_steps (ds := ds) hcall l 0 g w _ tm h hc he
  rw [Nat.sub_zero] at this
  rw [List.range_eq_range']
  exact this

theorem draw_ok (hm : T.P.follows .mixedOrders = true) (hcall : CallOK T bar call) {id : Nat} {ops : Array Oper} {p : Plan} (hs : Region.noSelect ops = true) (hc : chkPlan T vs N ops p true ops.size (Array.replicate ops.size false) = true) {s : EH} (h : Rel T vs N g w ⟨s.1, [], [], s.2⟩ tm) {r : AExit × St} (he : evPlan call bar p ⟨s.1, [], [], s.2⟩ = some r) :
    (Code.region id ops true).wp T.P (CPost T bar vs N g w ds (r.1, (r.2.env, r.2.H))) ⟨tm, ds⟩ w := by
  refine wp_mono (wp_region_any hm (wpAny_of_wpA _ _ _ _ ?_)) fun e a w' hh => CPost.mono (Ext.heap_eq (w := w) (w' := { w with drawn := w.drawn + 1 }) rfl rfl rfl) (CPost.of_R hh)
  exact (plan_ok (ds := ds) hcall hs p true ops.size _ g { w with drawn := w.drawn + 1 } _ tm (fun j oj _ hl => by simp [Array.getD_eq_getD_getElem?, Array.getElem?_replicate] at hl; split at hl <;> simp at hl) (h.heap_eq rfl rfl rfl) hc he).1 rfl

theorem cond_ok {c : Operand} {y : Opd} {clr : Bool} (hc : chkX T vs N c y = true) {s s' : EH} {b : Bool} (h : Rel T vs N g w ⟨s.1, [], [], s.2⟩ tm) (he : condV s clr y = some (b, s')) :
    (Act.mk tm ds).eval c = .bool b ∧ Rel T vs N g w ⟨s'.1, [], [], s'.2⟩ tm := by
  unfold condV at he
  split at he
  · rename_i t
    split at he
    · rename_i b' hb
      have hop : opd ⟨s.1, [], [], s.2⟩ (.v t) = .bool b' := by simp only [opd, hb]
      have hv := opd_bool (ds := ds) h hc hop
      simp only [Option.some.injEq, Prod.mk.injEq] at he
      obtain ⟨rfl, rfl⟩ := he
      refine ⟨hv, ?_⟩
      cases clr with
      | false => exact h
      | true => exact (h.clear_slot t).bare
    · cases he
  · rename_i b'
    simp only [Option.some.injEq, Prod.mk.injEq] at he
    obtain ⟨rfl, rfl⟩ := he
    exact ⟨opd_bool (ds := ds) h hc (b := b') rfl, h⟩
  · cases he

/-- A loop, gone through so often. -/
theorem loop_ok {C : Code} {body : EH → Option (AExit × EH)}
    (ih : ∀ (g : Gh) (w : World) (s : EH) (tm : Array Value), Rel T vs N g w ⟨s.1, [], [], s.2⟩ tm → ∀ {r : AExit × EH}, body s = some r → C.wp T.P (CPost T bar vs N g w ds r) ⟨tm, ds⟩ w) :
    ∀ (n : Nat) (g : Gh) (w : World) (s : EH) (tm : Array Value), Rel T vs N g w ⟨s.1, [], [], s.2⟩ tm → ∀ {r : AExit × EH}, loopN body n s = some r → (Code.loop C).wp T.P (CPost T bar vs N g w ds r) ⟨tm, ds⟩ w := by
  intro n g w s tm h r he b k cs
  have key : ∀ (n : Nat) (g : Gh) (w : World) (s : EH) (tm : Array Value), Rel T vs N g w ⟨s.1, [], [], s.2⟩ tm → ∀ {r : AExit × EH}, loopN body n s = some r →
      ∃ e a' w', CPost T bar vs N g w ds r e a' w' ∧ Arrives T.P (lone (b.at ⟨tm, ds⟩ (.code C :: .inLoop C :: k)) cs w) b k cs e a' w' := by
    intro n
    induction n with
    | zero => intro g w s tm _ r he; simp [loopN] at he
    | succ n ihn =>
      intro g w s tm h r he
      simp only [loopN] at he
      cases hb : body s with
      | none => rw [hb] at he; cases he
      | some q =>
        obtain ⟨e, a₁, w₁, hq, harr⟩ := ih g w s tm h hb b (.inLoop C :: k) cs
        rw [hb] at he
        cases e with
        | normal =>
          obtain ⟨h1, h2, g', h3, h4⟩ := hq
          obtain ⟨q1, q2⟩ := q
          subst h1
          obtain ⟨tm1, ds1⟩ := a₁
          subst h2
          obtain ⟨e₂, a₂, w₂, hq₂, harr₂⟩ := ihn g' w₁ q2 tm1 h4 he
          exact ⟨e₂, a₂, w₂, hq₂.mono h3, .of_steps (Steps.trans harr (.one step_inLoop)) harr₂⟩
        | exit id =>
          have : some q = some r := by
            obtain ⟨q1, q2⟩ := q
            have := hq.1
            subst this
            exact he
          cases this
          exact ⟨_, a₁, w₁, hq, .pass (x := .inLoop C) rfl (fun _ _ => .inl (by simp)) harr⟩
        | goto l => exact hq.elim
        | ret =>
          have : some q = some r := by
            obtain ⟨q1, q2⟩ := q
            have := hq.1
            subst this
            exact he
          cases this
          exact ⟨_, a₁, w₁, hq, .pass (x := .inLoop C) rfl (fun _ _ => .inl (by simp)) harr⟩
        | panic ch =>
          have : some q = some r := by
            obtain ⟨q1, q2⟩ := q
            obtain ⟨_, v, u, g', hv, _⟩ := hq
            subst hv
            exact he
          cases this
          exact ⟨_, a₁, w₁, hq, .pass (x := .inLoop C) rfl (fun _ _ => .inl (by simp)) harr⟩
        | outgrown => exact hq.elim
  obtain ⟨e, a', w', hq, harr⟩ := key n g w s tm h he
  exact ⟨e, a', w', hq, .of_steps (.one step_loop) harr⟩

theorem ev_ok (hm : T.P.follows .mixedOrders = true) (hcall : CallOK T bar call) (lf : Nat) : ∀ (c : ACode) (C : Code), chkCode T vs N C c = true → ∀ (g : Gh) (w : World) (s : EH) (tm : Array Value), Rel T vs N g w ⟨s.1, [], [], s.2⟩ tm → ∀ {r : AExit × EH}, ev call bar lf c s = some r →
    C.wp T.P (CPost T bar vs N g w ds r) ⟨tm, ds⟩ w := by
  intro c
  induction c with
  | skip =>
    intro C hc g w s tm h r he
    cases C <;> simp only [chkCode] at hc <;> try (cases hc; done)
    simp only [ev, Option.some.injEq] at he
    subst he
    exact wp_skip ⟨rfl, rfl, g, .refl _ _ _, h⟩
  | region l =>
    intro C hc g w s tm h r he
    cases C with
    | region id ops d =>
      cases d with
      | true => simp [chkCode] at hc
      | false =>
        simp only [chkCode] at hc
        simp only [ev] at he
        split at he
        · rename_i e σ hq
          simp only [Option.some.injEq] at he
          subst he
          exact region_ok hcall hc h hq
        · cases he
    | _ => simp [chkCode] at hc
  | draw p =>
    intro C hc g w s tm h r he
    cases C with
    | region id ops d =>
      cases d with
      | false => simp [chkCode] at hc
      | true =>
        simp only [chkCode, Bool.and_eq_true] at hc
        simp only [ev] at he
        split at he
        · rename_i e σ hq
          simp only [Option.some.injEq] at he
          subst he
          exact draw_ok hm hcall hc.1 hc.2 h hq
        · cases he
    | _ => simp [chkCode] at hc
  | seq x y ihx ihy =>
    intro C hc g w s tm h r he
    cases C with
    | seq X Y =>
      simp only [chkCode, Bool.and_eq_true] at hc
      simp only [ev] at he
      cases hx : ev call bar lf x s with
      | none => rw [hx] at he; cases he
      | some q =>
        rw [hx] at he
        refine wp_seq (wp_mono (ihx X hc.1 g w s tm h hx) fun e a w' hq => ?_)
        obtain ⟨q1, q2⟩ := q
        cases e with
        | normal =>
          obtain ⟨h1, h2, g', h3, h4⟩ := hq
          subst h1
          obtain ⟨tm1, ds1⟩ := a
          subst h2
          exact wp_mono (ihy Y hc.2 g' w' q2 tm1 h4 he) fun e a w' => CPost.mono h3
        | exit id =>
          have := hq.1
          subst this
          simp only [Option.some.injEq] at he
          subst he
          exact hq
        | ret =>
          have := hq.1
          subst this
          simp only [Option.some.injEq] at he
          subst he
          exact hq
        | panic ch =>
          obtain ⟨_, v, u, g', hv, _⟩ := id hq
          subst hv
          simp only [Option.some.injEq] at he
          subst he
          exact hq
        | _ => exact hq.elim
    | _ => simp [chkCode] at hc
  | cond clr c x y ihx ihy =>
    intro C hc g w s tm h r he
    cases C with
    | cond c' X Y =>
      simp only [chkCode, Bool.and_eq_true] at hc
      simp only [ev] at he
      split at he
      · rename_i s' hq
        obtain ⟨k1, k2⟩ := cond_ok (ds := ds) hc.1.1 h hq
        exact wp_cond_true k1 (ihx X hc.1.2 g w s' tm k2 he)
      · rename_i s' hq
        obtain ⟨k1, k2⟩ := cond_ok (ds := ds) hc.1.1 h hq
        exact wp_cond_false k1 (ihy Y hc.2 g w s' tm k2 he)
      · cases he
    | _ => simp [chkCode] at hc
  | block i x ih =>
    intro C hc g w s tm h r he
    cases C with
    | block j X =>
      simp only [chkCode, Bool.and_eq_true, beq_iff_eq] at hc
      obtain ⟨rfl, hc⟩ := hc
      simp only [ev] at he
      cases hx : ev call bar lf x s with
      | none => rw [hx] at he; cases he
      | some q =>
        rw [hx] at he
        refine wp_block (wp_mono (ih X hc g w s tm h hx) fun e a w' hq => ?_)
        obtain ⟨q1, q2⟩ := q
        cases e with
        | normal =>
          have := hq.1
          subst this
          simp only [Option.some.injEq] at he
          subst he
          exact hq
        | exit ii =>
          obtain ⟨h1, h2⟩ := hq
          subst h1
          simp only at he
          simp only [Exit.inBlock]
          cases hb : Nat.beq ii j with
          | true =>
            rw [hb] at he
            simp only [cond_true, Option.some.injEq] at he
            subst he
            rw [if_pos (beq_nat hb)]
            exact ⟨rfl, h2⟩
          | false =>
            rw [hb] at he
            simp only [cond_false, Option.some.injEq] at he
            subst he
            rw [if_neg (Nat.ne_of_beq_eq_false hb)]
            exact ⟨rfl, h2⟩
        | ret =>
          have := hq.1
          subst this
          simp only [Option.some.injEq] at he
          subst he
          exact hq
        | panic ch =>
          obtain ⟨_, v, u, g', hv, _⟩ := id hq
          subst hv
          simp only [Option.some.injEq] at he
          subst he
          exact hq
        | _ => exact hq.elim
    | _ => simp [chkCode] at hc
  | loop x ih =>
    intro C hc g w s tm h r he
    cases C with
    | loop X =>
      simp only [chkCode] at hc
      simp only [ev] at he
      exact loop_ok (fun g w s tm h r => ih X hc g w s tm h) lf g w s tm h he
    | _ => simp [chkCode] at hc
  | exit i =>
    intro C hc g w s tm h r he
    cases C <;> simp only [chkCode] at hc <;> try (cases hc; done)
    simp only [beq_iff_eq] at hc
    subst hc
    simp only [ev, Option.some.injEq] at he
    subst he
    exact wp_exit ⟨rfl, rfl, g, .refl _ _ _, h⟩
  | ret =>
    intro C hc g w s tm h r he
    cases C <;> simp only [chkCode] at hc <;> try (cases hc; done)
    simp only [ev, Option.some.injEq] at he
    subst he
    exact wp_ret ⟨rfl, rfl, g, .refl _ _ _, h⟩

end
end Go.Ak

namespace Go.Ak

def chkRes (T : Tr) (vs : List Nat) (N : Nat) : List ResultVar → List ARes → Bool
  | [], [] => true
  | .tmp t :: rs, .tmp u :: qs => t == u && vs.contains t && decide (t < N) && chkRes T vs N rs qs
  | .cell t ty :: rs, .cell u n :: qs => t == u && vs.contains t && decide (t < N) && chkN T.P ty n && chkRes T vs N rs qs
  | _, _ => false

def chkFunc (T : Tr) (F : AFunc) (fn : Func) : Bool :=
  (match fn.body with | some C => chkCode T F.vars fn.ntmps C F.body | none => false) && F.vars.take F.np == List.range F.np && decide (F.np ≤ fn.ntmps) && chkRes T F.vars fn.ntmps fn.results.toList F.res

/-- What one result is in the machine. -/
def resM (tm : Array Value) : ResultVar → Sem Value
  | .tmp t => pure (tm.getD t undef)
  | .cell a t => do loadVar t (← asAddr (tm.getD a undef))

def resW (P : Program) (tm : Array Value) (w : World) (r : ResultVar) : Value :=
  match (resM tm r).run P w with
  | .ok v _ => v
  | _ => undef

section
variable {T : Tr} {bar : Nat} {vs : List Nat} {N : Nat} {g : Gh} {w : World} {σ : St} {tm : Array Value} {ds : List Deferred} {call : CallF}

/-- A frame's slots as another sees them: the same, but for the rights. -/
def sim (e e' : List (Nat × AV)) : Prop := ∀ t, look e' t = look e t ∨ ∃ p p' es, look e t = .slc p es ∧ look e' t = .slc p' es

theorem sim.roOf {e e' : List (Nat × AV)} (h : sim e e') (t : Nat) : roOf (look e' t) = roOf (look e t) := by
  rcases h t with h | ⟨p, p', es, h1, h2⟩
  · rw [h]
  · rw [h1, h2]; rfl

/-- A cell's result. -/
theorem res_cell (h : Rel T vs N g w σ tm) {t ty : Nat} {n : Option Nat} (ht : vs.contains t = true) (hN : t < N) (hn : chkN T.P ty n = true) {s : EH} (hs : sim s.1 σ.env) (hH : s.2 = σ.H) (hm : σ.mods = []) {a : AV} (he : resV s (.cell t n) = some a) :
    V T g w a (resW T.P tm w (.cell t ty)) ∧ (resM tm (.cell t ty)).run T.P w = .ok (resW T.P tm w (.cell t ty)) w := by
  have hx : chkX T vs N (.tmp t) (.v t) = true := by simp only [chkX, Bool.and_eq_true, beq_iff_eq, decide_eq_true_eq, true_and]; exact ⟨ht, hN⟩
  have hrd : ∃ cs, rd σ (cellsN n) (opd σ (.v t)) = some cs ∧ pack n cs = some a := by
    have hlk : ∀ x, (∀ p es, x ≠ .slc p es) → look s.1 t = x → look σ.env t = x := fun x hx e => by
      rcases hs t with h | ⟨p, p', es, h1, h2⟩
      · rw [h, e]
      · rw [h1] at e; exact absurd e.symm (hx p es)
    simp only [resV] at he
    split at he
    · rename_i cs hb
      have hb := hlk _ (by simp) hb
      split at he
      · rename_i l hl
        refine ⟨l, ?_, he⟩
        have : Nat.beq (ver σ.mods t) (ver σ.mods t) = true := by simp
        simp only [opd, hb, rd, this, cond_true, hl]
      · cases he
    · rename_i id off hb
      have hb := hlk _ (by simp) hb
      split at he
      · rename_i cs hid
        split at he
        · rename_i l hl
          refine ⟨l, ?_, he⟩
          rw [hH] at hid
          simp only [opd, hb, rd, hid, hl]
        · cases he
      · cases he
    · cases he
  obtain ⟨cs, h1, h2⟩ := hrd
  obtain ⟨b, off, us, hv, hl, h3, h4⟩ := rd_rel h (opd_rel (ds := []) h hx) h1
  have hv : tm.getD t undef = .pointer (some ⟨b, off, none⟩) := hv
  have hrun := run_loadVar_cells (P := T.P) (w := w) hn hl (fun k u hk => (h4 k u hk).1)
  have hR : (resM tm (.cell t ty)).run T.P w = .ok (packV n us) w := by
    simp only [resM, hv, asAddr, Sem.run_bind, Sem.run_pure, Result.andThen_ok, hrun]
  have hW : resW T.P tm w (.cell t ty) = packV n us := by simp only [resW, hR]
  rw [hW]
  refine ⟨pack_V h2 h3 fun u hu => ?_, hR⟩
  obtain ⟨k, hk⟩ := List.getElem?_of_mem hu
  exact (h4 k u hk).2

theorem sim.trans {a b c : List (Nat × AV)} (h : sim a b) (h' : sim b c) : sim a c := fun t => by
  rcases h t with e | ⟨p, p', es, h1, h2⟩ <;> rcases h' t with e' | ⟨q, q', fs, k1, k2⟩
  · exact .inl (e'.trans e)
  · exact .inr ⟨q, q', fs, by rw [← e]; exact k1, k2⟩
  · exact .inr ⟨p, p', es, h1, by rw [e']; exact h2⟩
  · rw [h2] at k1; cases k1
    exact .inr ⟨p, q', es, h1, k2⟩

/-- A slot's value handed out, read-only. -/
theorem res_tmp (h : Rel T vs N g w σ tm) {t : Nat} (hb : ∀ cs, look σ.env t ≠ .box cs) :
    ∃ g' σ', Ext bar g w g' w ∧ Rel T vs N g' w σ' tm ∧ sim σ.env σ'.env ∧ σ'.H = σ.H ∧ σ'.mods = σ.mods ∧ V T g' w (roOf (look σ.env t)) (tm.getD t undef) := by
  have hs := h.env t
  cases ha : look σ.env t with
  | slc p es =>
    obtain ⟨g', e1, e2, e3, _⟩ := h.down_slot (bar := bar) ha
    refine ⟨g', _, e1, e2, fun x => ?_, rfl, rfl, e3.V⟩
    by_cases hx : x = t
    · subst hx
      rcases look_upd_self σ.env x (.slc (drop1 p) es) with e | ⟨e, e'⟩
      · exact .inr ⟨p, drop1 p, es, ha, e⟩
      · rw [ha] at e'; cases e'
    · exact .inl (look_upd_ne _ hx)
  | box cs => exact absurd ha (hb cs)
  | loc a b c => rw [ha] at hs; exact hs.elim
  | eloc a b c d => rw [ha] at hs; exact hs.elim
  | ref a b c d => rw [ha] at hs; exact hs.elim
  | _ => rw [ha] at hs; exact ⟨g, σ, .refl _ _ _, h, fun _ => .inl rfl, rfl, rfl, hs⟩

theorem V.roOf {a : AV} {v : Value} (h : V T g w a v) : V T g w (Ak.roOf a) v := by
  cases h <;> first | (constructor <;> assumption) | skip
  all_goals (simp only [Ak.roOf]; constructor <;> assumption)

theorem resAll_rel {s : EH} : ∀ (rs : List ResultVar) (qs : List ARes) (_ : chkRes T vs N rs qs = true) (g : Gh) (σ : St) (_ : Rel T vs N g w σ tm) (_ : sim s.1 σ.env) (_ : s.2 = σ.H) (_ : σ.mods = []) {l : List AV} (_ : resAll s qs = some l),
    ∃ g' σ', Ext bar g w g' w ∧ Rel T vs N g' w σ' tm ∧ σ'.H = σ.H ∧ Vs T g' w l (rs.map (resW T.P tm w)) ∧ ∀ r ∈ rs, (resM tm r).run T.P w = .ok (resW T.P tm w r) w
  | [], [], _, g, σ, h, _, _, _, l, he => by
    simp only [resAll, Option.some.injEq] at he
    subst he
    exact ⟨g, σ, .refl _ _ _, h, rfl, .nil, by simp⟩
  | [], _ :: _, hc, _, _, _, _, _, _, _, _ => by simp [chkRes] at hc
  | .tmp _ :: _, [], hc, _, _, _, _, _, _, _, _ => by simp [chkRes] at hc
  | .cell _ _ :: _, [], hc, _, _, _, _, _, _, _, _ => by simp [chkRes] at hc
  | .tmp _ :: _, .cell _ _ :: _, hc, _, _, _, _, _, _, _, _ => by simp [chkRes] at hc
  | .cell _ _ :: _, .tmp _ :: _, hc, _, _, _, _, _, _, _, _ => by simp [chkRes] at hc
  | .tmp t :: rs, .tmp u :: qs, hc, g, σ, h, hs, hH, hm, l, he => by
    simp only [chkRes, Bool.and_eq_true, beq_iff_eq] at hc
    obtain ⟨⟨⟨rfl, h1⟩, h2⟩, h3⟩ := hc
    simp only [resAll] at he
    split at he
    · rename_i a ha
      split at he
      · rename_i l' hl'
        simp only [Option.some.injEq] at he
        subst he
        have hnb : ∀ cs, look s.1 t ≠ .box cs := fun cs e => by simp only [resV, e] at ha; cases ha
        have hal : a = look s.1 t := by
          simp only [resV] at ha
          cases hk : look s.1 t with
          | box cs => exact absurd hk (hnb cs)
          | _ => rw [hk] at ha; simpa using ha.symm
        obtain ⟨g1, σ1, e1, e2, e3, e4, e5, e6⟩ := res_tmp (bar := bar) h (t := t) (fun cs e => by
          rcases hs t with k | ⟨p, p', es, k1, k2⟩
          · exact hnb cs (by rw [← k]; exact e)
          · rw [k2] at e; cases e)
        obtain ⟨g2, σ2, f1, f2, f3, f4, f5⟩ := resAll_rel rs qs h3 g1 σ1 e2 (hs.trans e3) (by rw [e4]; exact hH) (by rw [e5]; exact hm) hl'
        have hR : (resM tm (.tmp t)).run T.P w = .ok (tm.getD t undef) w := by simp [resM]
        have hW : resW T.P tm w (.tmp t) = tm.getD t undef := by simp only [resW, hR]
        refine ⟨g2, σ2, e1.trans f1, f2, by rw [f3, e4], .cons _ _ _ _ ?_ f4, fun r hr => ?_⟩
        · rw [hW, hal, ← hs.roOf t]; exact V.mono f1 e6
        · rcases List.mem_cons.1 hr with rfl | hr
          · rw [hW]; exact hR
          · exact f5 r hr
      · cases he
    · cases he
  | .cell t ty :: rs, .cell u n :: qs, hc, g, σ, h, hs, hH, hm, l, he => by
    simp only [chkRes, Bool.and_eq_true, beq_iff_eq, decide_eq_true_eq] at hc
    obtain ⟨⟨⟨⟨rfl, h1⟩, h2⟩, h4⟩, h3⟩ := hc
    simp only [resAll] at he
    split at he
    · rename_i a ha
      split at he
      · rename_i l' hl'
        simp only [Option.some.injEq] at he
        subst he
        obtain ⟨k1, k2⟩ := res_cell h h1 h2 h4 hs hH hm ha
        obtain ⟨g2, σ2, f1, f2, f3, f4, f5⟩ := resAll_rel rs qs h3 g σ h hs hH hm hl'
        refine ⟨g2, σ2, f1, f2, f3, .cons _ _ _ _ (V.mono f1 k1.roOf) f4, fun r hr => ?_⟩
        rcases List.mem_cons.1 hr with rfl | hr
        · exact k2
        · exact f5 r hr
      · cases he
    · cases he

end
end Go.Ak

namespace Go.Ak
section
variable {T : Tr} {bar : Nat} {vs : List Nat} {N : Nat} {g : Gh} {w : World} {σ : St} {tm : Array Value} {ds : List Deferred} {call : CallF}

theorem ArgsV.get : ∀ {i : Nat} {as : List AV} {us : List Value}, ArgsV T g w i as us → ∀ (j : Nat) (a : AV), as[j]? = some a → ∃ v, us[j]? = some v ∧ SV T g w (.arg (i + j)) a v
  | _, _, _, .nil _, j, a, h => by simp at h
  | _, _, _, .cons i a v as us h1 h2, 0, a', h => by simp at h; subst h; exact ⟨v, by simp, h1⟩
  | _, _, _, .cons i a v as us h1 h2, j + 1, a', h => by
    simp at h
    obtain ⟨u, k1, k2⟩ := ArgsV.get h2 j a' h
    exact ⟨u, by simpa using k1, by rw [show i + (j + 1) = i + 1 + j by omega]; exact k2⟩

theorem ArgsV.length : ∀ {i : Nat} {as : List AV} {us : List Value}, ArgsV T g w i as us → as.length = us.length
  | _, _, _, .nil _ => rfl
  | _, _, _, .cons _ _ _ _ _ _ h => by simp [ArgsV.length h]

theorem look_envOf : ∀ (l : List Nat) (as : List AV) (t : Nat), look (envOf l as) t = .undef ∨ ∃ (i : Nat) (a : AV), as[i]? = some a ∧ l[i]? = some t ∧ look (envOf l as) t = a
  | [], _, _ => .inl rfl
  | k :: l, [], t => by
    simp only [envOf, look]
    cases hk : Nat.beq k t with
    | true => exact .inl rfl
    | false => exact (look_envOf l [] t).elim .inl fun ⟨i, a, h, _⟩ => by simp at h
  | k :: l, a :: as, t => by
    simp only [envOf, look]
    cases hk : Nat.beq k t with
    | true => exact .inr ⟨0, a, by simp, by simp [beq_nat hk], rfl⟩
    | false =>
      rcases look_envOf l as t with h | ⟨i, x, h1, h2, h3⟩
      · exact .inl h
      · exact .inr ⟨i + 1, x, by simpa using h1, by simpa using h2, h3⟩

theorem look_envOf_out : ∀ (l : List Nat) (as : List AV) (t : Nat), t ∉ l → look (envOf l as) t = .undef := fun l as t ht => by
  rcases look_envOf l as t with h | ⟨i, a, _, h2, _⟩
  · exact h
  · exact absurd (List.mem_of_getElem? h2) ht

def Gh.enter (g : Gh) : Gh := { g with own := fun b => match g.own b with | .arg i => .slot i | o => o }

theorem Ext.enter : Ext bar g w g.enter w where
  size := Nat.le_refl _
  S _ := Nat.le_refl _
  cell _ _ _ := rfl
  ob _ _ h := h
  shape _ _ h := h
  kept b hb := ⟨by simp [Gh.enter, hb], rfl, rfl⟩
  low id b _ _ hb := ⟨by simp [Gh.enter, hb], rfl, rfl⟩
  os := rfl
  out := rfl

theorem enter_rel {F : AFunc} {n : Nat} {as : List AV} {us : List Value} {H : Heap} (h1 : F.vars.take F.np = List.range F.np) (h2 : F.np ≤ n) (hl : as.length = F.np) (hh : HeapR T g w H) (ha : ArgsV T g w 0 as us) :
    Rel T F.vars n g.enter w ⟨envOf F.vars as, [], [], H⟩ (us.toArray ++ Array.replicate (n - us.toArray.size) undef) where
  size := by
    have := ha.length
    simp; omega
  envk t ht := look_envOf_out _ _ _ ht
  lenvk _ _ := rfl
  env t := by
    rcases look_envOf F.vars as t with h | ⟨i, a, k1, k2, k3⟩
    · rw [h]; exact V.undef _
    · have hi : i < F.np := by rw [← hl]; exact (List.getElem?_eq_some_iff.1 k1).1
      have : (F.vars.take F.np)[i]? = some i := by rw [h1, List.getElem?_range hi]
      rw [List.getElem?_take, if_pos hi, k2] at this
      simp only [Option.some.injEq] at this
      subst this
      obtain ⟨v, e1, e2⟩ := ha.get t a k1
      rw [k3]
      have hv : (us.toArray ++ Array.replicate (n - us.toArray.size) undef).getD t undef = v := by
        have ht : t < us.length := (List.getElem?_eq_some_iff.1 e1).1
        rw [Array.getD_eq_getD_getElem?, Array.getElem?_append_left (by simpa using ht)]
        simp [e1]
      rw [hv]
      rw [Nat.zero_add] at e2
      exact e2.reown _ fun b hb => by simp [hb]
  lenv _ := V.undef _
  nobox _ _ := by simp [look]
  heap := hh.reown _ (fun b id hb => by simp [hb]) (fun b hb => by simp [(hh.fresh b hb).1]) fun b x hb => by simp [(hh.gl b x hb).1]

theorem run_results {P : Program} (fn : Func) (tm : Array Value) (w : World) (h : ∀ r ∈ fn.results.toList, (resM tm r).run P w = .ok (resW P tm w r) w) :
    (results fn tm).run P w = .ok (if (fn.results.toList.map (resW P tm w)).length = 1 then (fn.results.toList.map (resW P tm w)).getD 0 undef else .tuple (fn.results.toList.map (resW P tm w)).toArray) w := by
  have e : results fn tm = (do let vs ← fn.results.mapM (resM tm); pure (if h : vs.size = 1 then vs[0] else .tuple vs)) := by
    unfold results
    congr 2
  rw [e]
  simp only [Sem.run_bind, run_mapM_array (resM tm) (resW P tm w) w fn.results h, Result.andThen_ok, Sem.run_pure]
  congr 1
  by_cases hs : fn.results.size = 1
  · simp [hs]
  · simp [hs]
    apply Array.ext'
    simp

theorem turn_heap {g' : Gh} {H : Heap} (h : HeapR T g w H) (he : Ext 0 g w g' w) {o : Own} (ho : ∀ id, o ≠ .obj id) (hf : o ≠ .free) (hg : ∀ b, g'.own b = g.own b ∨ (g.own b = o ∧ g'.own b = .res ∧ b < w.heap.size)) (hS : g'.S = g.S) (hob : g'.ob = g.ob) : HeapR T g' w H := by
  refine h.frame he (fun b id hb => ?_) hob fun b hb => ?_
  · rcases hg b with e | ⟨e, _⟩
    · exact ⟨by rw [e, hb], by rw [hS], rfl⟩
    · rw [hb] at e; exact absurd e.symm (ho id)
  · obtain ⟨h1, h2⟩ := h.fresh b hb
    rcases hg b with e | ⟨e, _⟩
    · exact ⟨by rw [e, h1], by rw [hS, h2]⟩
    · rw [h1] at e; exact absurd e.symm hf

/-- The results behind a body. -/
theorem res_ok {fn : Func} {F : AFunc} (hc : chkRes T F.vars N fn.results.toList F.res = true) {s : EH} (h : Rel T F.vars N g w ⟨s.1, [], [], s.2⟩ tm) {a : AV} (he : resOf s F.res = some a) :
    ∃ v g', (results fn tm).run T.P w = .ok v w ∧ Ext bar g w g' w ∧ HeapR T g' w s.2 ∧ SV T g' w .res a v := by
  have many : ∀ {l : List AV}, resAll s F.res = some l → a = .tup l → fn.results.toList.length ≠ 1 → ∃ v g', (results fn tm).run T.P w = .ok v w ∧ Ext bar g w g' w ∧ HeapR T g' w s.2 ∧ SV T g' w .res a v := fun {l} hl ha hne => by
    obtain ⟨g', σ', e1, e2, e3, e4, e5⟩ := resAll_rel (bar := bar) _ _ hc g _ h (fun _ => .inl rfl) rfl rfl hl
    refine ⟨_, g', run_results fn tm w e5, e1, by have := e2.heap; rw [e3] at this; exact this, ?_⟩
    rw [if_neg (by simpa using hne), ha]
    exact .of_V (.tup _ _ e4)
  unfold resOf at he
  split at he
  · rename_i q0 q hres
    rw [hres] at hc
    cases hr : fn.results.toList with
    | nil => rw [hr] at hc; cases q <;> simp [chkRes] at hc
    | cons r rs =>
      rw [hr] at hc
      have hrs : rs = [] := by
        cases r <;> cases q <;> simp only [chkRes, Bool.and_eq_true] at hc <;> first | (cases hc; done) | skip
        all_goals (cases rs with
          | nil => rfl
          | cons r' rs => cases r' <;> simp [chkRes] at hc)
      subst hrs
      have fin : (resM tm r).run T.P w = .ok (resW T.P tm w r) w → (results fn tm).run T.P w = .ok (resW T.P tm w r) w := fun hh => by
        have := run_results (P := T.P) fn tm w (by rw [hr]; simpa using hh)
        rw [hr] at this
        simpa using this
      cases r with
      | tmp t =>
        cases q with
        | cell u n => simp [chkRes] at hc
        | tmp u =>
          simp only [chkRes, Bool.and_eq_true, beq_iff_eq] at hc
          obtain ⟨⟨⟨rfl, h1⟩, h2⟩, _⟩ := hc
          have hal : look s.1 t = a := by
            simp only [resV] at he
            cases hk : look s.1 t with
            | box cs => rw [hk] at he; cases he
            | _ => rw [hk] at he; simpa using he
          have hR : (resM tm (.tmp t)).run T.P w = .ok (tm.getD t undef) w := by simp [resM]
          have hW : resW T.P tm w (.tmp t) = tm.getD t undef := by simp only [resW, hR]
          have hs := h.env t
          simp only [hal] at hs
          obtain ⟨g', e1, e2, e3, e4, e5⟩ := hs.turn (bar := bar) .res (by simp) (by simp)
          obtain ⟨_, e1', _⟩ := hs.turn (bar := 0) .res (by simp) (by simp)
          refine ⟨_, g', fin (by rw [hW]; exact hR), e1, ?_, by rw [hW]; exact e2⟩
          exact turn_heap h.heap ⟨e1.size, e1.S, e1.cell, e1.ob, e1.shape, e1.kept, fun id b hi => absurd hi (Nat.not_lt_zero _), e1.os, e1.out⟩ (by simp) (by simp) e3 e4 e5
      | cell t ty =>
        cases q with
        | tmp u => simp [chkRes] at hc
        | cell u n =>
          simp only [chkRes, Bool.and_eq_true, beq_iff_eq, decide_eq_true_eq] at hc
          obtain ⟨⟨⟨⟨rfl, h1⟩, h2⟩, h4⟩, _⟩ := hc
          obtain ⟨k1, k2⟩ := res_cell h h1 h2 h4 (fun _ => .inl rfl) rfl rfl he
          exact ⟨_, g, fin k2, .refl _ _ _, h.heap, .of_V k1⟩
  · rename_i hne
    split at he
    · rename_i l hl
      simp only [Option.some.injEq] at he
      refine many hl he.symm fun hlen => ?_
      obtain ⟨r, hr⟩ := List.length_eq_one_iff.1 hlen
      rw [hr] at hc
      cases hq : F.res with
      | nil => rw [hq] at hc; cases r <;> simp [chkRes] at hc
      | cons q qs =>
        rw [hq] at hc
        have : qs = [] := by
          cases r <;> cases q <;> simp only [chkRes, Bool.and_eq_true] at hc <;> first | (cases hc; done) | skip
          all_goals (cases qs with
            | nil => rfl
            | cons q' qs => cases q' <;> simp [chkRes] at hc)
        subst this
        exact hne q hq
    · cases he

theorem runF_ok (hm : T.P.follows .mixedOrders = true) (hcall : CallOK T bar call) {f : FuncId} {fn : Func} {F : AFunc} (hf : T.P.funcs[f]? = some fn) (hc : chkFunc T F fn = true) {n : Nat} {as : List AV} {H : Heap} {out : Out} {H' : Heap} (he : runF call n bar F as H = some (out, H'))
    (g : Gh) (w : World) (us : List Value) (hh : HeapR T g w H) (ha : ArgsV T g w 0 as us) : Calls T.P f us.toArray w (CallPost T bar g w out H') := by
  simp only [chkFunc, Bool.and_eq_true, decide_eq_true_eq, beq_iff_eq] at hc
  obtain ⟨⟨⟨hb, h1⟩, h2⟩, h3⟩ := hc
  split at hb
  · rename_i C hC
    simp only [runF] at he
    cases hl : Nat.beq as.length F.np with
    | false => simp [hl] at he
    | true =>
      simp only [hl, cond_true] at he
      have hrel := enter_rel h1 h2 (beq_nat hl) hh ha
      have hx : Ext bar g w g.enter w := Ext.enter
      have retd : ∀ {s : EH} {a : Act} {w' : World}, Fr T bar F.vars fn.ntmps g.enter w [] s a w' → (match resOf s F.res with | some v => some (Out.ret v, s.2) | none => none) = some (out, H') → a.defers = [] ∧ ∃ v, (results fn a.tmps).run T.P w' = .ok v w' ∧ CallPost T bar g w out H' (.returned v) w' := fun {s a w'} hfr hq => by
        obtain ⟨k1, g', k2, k3⟩ := hfr
        split at hq
        · rename_i v hv
          simp only [Option.some.injEq, Prod.mk.injEq] at hq
          obtain ⟨rfl, rfl⟩ := hq
          obtain ⟨u, g2, j1, j2, j3, j4⟩ := res_ok (bar := bar) h3 k3 hv
          exact ⟨k1, u, j1, g2, v, rfl, (hx.trans k2).trans j2, j3, j4⟩
        · cases hq
      cases hev : ev call bar n F.body (envOf F.vars as, H) with
      | none => rw [hev] at he; cases he
      | some q =>
        obtain ⟨e, s⟩ := q
        rw [hev] at he
        refine calls_of_wp hf hC (wp_mono (ev_ok hm hcall n F.body C hb g.enter w _ _ hrel hev) fun x a w' hq => ?_)
        cases x with
        | normal =>
          obtain ⟨k1, k2⟩ := hq
          cases k1
          exact retd k2 he
        | ret =>
          obtain ⟨k1, k2⟩ := hq
          cases k1
          exact retd k2 he
        | panic ch =>
          obtain ⟨k1, v, u, g', k2, k3, k4, k5, k6⟩ := hq
          cases k2
          simp only [Option.some.injEq, Prod.mk.injEq] at he
          obtain ⟨rfl, rfl⟩ := he
          exact ⟨k1, g', v, u, k3, rfl, hx.trans k4, k5, k6⟩
        | exit i =>
          obtain ⟨k1, _⟩ := hq
          cases k1
          simp at he
        | goto l => exact hq.elim
        | outgrown => exact hq.elim
  · cases hb

end
end Go.Ak

namespace Go.Ak

/-- The objects from 'n0' on told no more: their blocks are settled and nobody's. -/
def Gh.thaw (g : Gh) (n0 : Nat) (w : World) : Gh where
  ob id := if id < n0 then g.ob id else none
  own b := match g.own b with
    | .obj id => if id < n0 then .obj id else .free
    | o => o
  S b := match g.own b with
    | .obj id => if id < n0 then g.S b else max (g.S b) (arrOf w b).size
    | _ => g.S b

section
variable {T : Tr} {bar : Nat} {g : Gh} {w : World} {n0 : Nat} {H : Heap}

theorem thaw_S (b : Nat) : g.S b ≤ (g.thaw n0 w).S b := by
  simp only [Gh.thaw]
  split
  · split
    · exact Nat.le_refl _
    · exact Nat.le_max_left _ _
  · exact Nat.le_refl _

theorem settled.thaw {b o : Nat} {us : List Value} (h : settled g w b o us) : settled (g.thaw n0 w) w b o us := fun k v hk => by
  obtain ⟨h1, h2, h3⟩ := h k v hk
  exact ⟨Nat.lt_of_lt_of_le h1 (thaw_S b), h2, h3⟩

theorem V.scal {g' : Gh} {a : AV} {v : Value} (h : V T g w a v) (hs : scal a = true) : V T g' w a v := by
  cases h <;> first | (constructor; done) | (simp [Ak.scal] at hs)

theorem Vs.scal {g' : Gh} : ∀ {l : List AV} {us : List Value}, Vs T g w l us → l.all Ak.scal = true → Vs T g' w l us
  | _, _, .nil, _ => .nil
  | _, _, .cons a v as us h1 h2, hs => by
    simp only [List.all_cons, Bool.and_eq_true] at hs
    exact .cons _ _ _ _ (h1.scal hs.1) (Vs.scal h2 hs.2)

theorem scal_cells : ∀ {l : List AV}, l.all scal = true → flat l = l ∧ ∀ e ∈ l, e.cells.length = 1
  | [], _ => ⟨rfl, by simp⟩
  | a :: l, h => by
    simp only [List.all_cons, Bool.and_eq_true] at h
    obtain ⟨h1, h2⟩ := scal_cells h.2
    have ha : a.cells = [a] := by cases a <;> first | rfl | simp [scal] at h
    refine ⟨?_, fun e he => ?_⟩
    · simp only [flat, List.flatMap_cons, ha] at h1 ⊢
      rw [h1]; rfl
    · rcases List.mem_cons.1 he with rfl | he
      · rw [ha]; rfl
      · exact h2 e he

theorem Vs.split : ∀ {as bs : List AV} {us : List Value}, Vs T g w (as ++ bs) us → ∃ us1 us2, us = us1 ++ us2 ∧ Vs T g w as us1 ∧ Vs T g w bs us2
  | [], bs, us, h => ⟨[], us, rfl, .nil, h⟩
  | a :: as, bs, us, h => by
    cases h with
    | cons _ v _ vs h1 h2 =>
      obtain ⟨u1, u2, rfl, k1, k2⟩ := Vs.split h2
      exact ⟨v :: u1, u2, rfl, .cons _ _ _ _ h1 k1, k2⟩

/-- What is handed out of a call whose own objects go. -/
def Froz (T : Tr) (g : Gh) (w : World) (n0 : Nat) (l l' : List AV) : Prop :=
  (∀ us, Vs T g w l us → Vs T (g.thaw n0 w) w l' us) ∧ (∀ us, Vs T g w (flat l) us → Vs T (g.thaw n0 w) w (flat l') us) ∧ l'.length = l.length ∧ ∀ st, (∀ e ∈ l, e.cells.length = st) → ∀ e ∈ l', e.cells.length = st

theorem froz_cons {a a' : AV} {l l' : List AV} (h1 : ∀ v, V T g w a v → V T (g.thaw n0 w) w a' v) (h2 : ∀ us, Vs T g w a.cells us → Vs T (g.thaw n0 w) w a'.cells us) (h3 : a'.cells.length = a.cells.length) (h : Froz T g w n0 l l') : Froz T g w n0 (a :: l) (a' :: l') := by
  obtain ⟨k1, k2, k3, k4⟩ := h
  refine ⟨fun us hu => ?_, fun us hu => ?_, by simp [k3], fun st hst e he => ?_⟩
  · cases hu with
    | cons _ v _ vs q1 q2 => exact .cons _ _ _ _ (h1 _ q1) (k1 _ q2)
  · simp only [flat, List.flatMap_cons] at hu k2 ⊢
    obtain ⟨u1, u2, rfl, q1, q2⟩ := Vs.split hu
    exact (h2 _ q1).append (k2 _ q2)
  · rcases List.mem_cons.1 he with rfl | he
    · rw [h3]; exact hst a (by simp)
    · exact k4 st (fun e he => hst e (by simp [he])) e he

/-- A value of one cell: as a value and as cells. -/
theorem one_cells {a a' : AV} (ha : a.cells = [a]) (ha' : a'.cells = [a']) (h1 : ∀ v, V T g w a v → V T (g.thaw n0 w) w a' v) : (∀ us, Vs T g w a.cells us → Vs T (g.thaw n0 w) w a'.cells us) ∧ a'.cells.length = a.cells.length := by
  rw [ha, ha']
  refine ⟨fun us hu => ?_, rfl⟩
  cases hu with
  | cons _ v _ vs q1 q2 => cases q2; exact .cons _ _ _ _ (h1 _ q1) .nil

mutual
theorem frz_ok (hh : HeapR T g w H) : ∀ (a a' : AV), frz n0 H a = some a' → (∀ v, V T g w a v → V T (g.thaw n0 w) w a' v) ∧ (∀ us, Vs T g w a.cells us → Vs T (g.thaw n0 w) w a'.cells us) ∧ a'.cells.length = a.cells.length
  | .bool b, a', h => by
    simp only [frz, Option.some.injEq] at h; subst h
    have : ∀ v, V T g w (.bool b) v → V T (g.thaw n0 w) w (.bool b) v := fun v hv => hv.scal rfl
    exact ⟨this, one_cells rfl rfl this⟩
  | .int k n, a', h => by
    simp only [frz, Option.some.injEq] at h; subst h
    have : ∀ v, V T g w (.int k n) v → V T (g.thaw n0 w) w (.int k n) v := fun v hv => hv.scal rfl
    exact ⟨this, one_cells rfl rfl this⟩
  | .str s, a', h => by
    simp only [frz, Option.some.injEq] at h; subst h
    have : ∀ v, V T g w (.str s) v → V T (g.thaw n0 w) w (.str s) v := fun v hv => hv.scal rfl
    exact ⟨this, one_cells rfl rfl this⟩
  | .nilp, a', h => by
    simp only [frz, Option.some.injEq] at h; subst h
    have : ∀ v, V T g w .nilp v → V T (g.thaw n0 w) w .nilp v := fun v hv => hv.scal rfl
    exact ⟨this, one_cells rfl rfl this⟩
  | .nils, a', h => by
    simp only [frz, Option.some.injEq] at h; subst h
    have : ∀ v, V T g w .nils v → V T (g.thaw n0 w) w .nils v := fun v hv => hv.scal rfl
    exact ⟨this, one_cells rfl rfl this⟩
  | .nilf, a', h => by
    simp only [frz, Option.some.injEq] at h; subst h
    have : ∀ v, V T g w .nilf v → V T (g.thaw n0 w) w .nilf v := fun v hv => hv.scal rfl
    exact ⟨this, one_cells rfl rfl this⟩
  | .nili, a', h => by
    simp only [frz, Option.some.injEq] at h; subst h
    have : ∀ v, V T g w .nili v → V T (g.thaw n0 w) w .nili v := fun v hv => hv.scal rfl
    exact ⟨this, one_cells rfl rfl this⟩
  | .ptr id off, a', h => by
    simp only [frz] at h
    cases hb : Nat.blt id n0 with
    | false => simp [hb] at h
    | true =>
      simp only [hb, cond_true, Option.some.injEq] at h; subst h
      have hlt := lt_of_blt hb
      have : ∀ v, V T g w (.ptr id off) v → V T (g.thaw n0 w) w (.ptr id off) v := fun v hv => by
        obtain ⟨b, h1, rfl⟩ := V.ptr_inv hv
        exact .ptr id off b (by simp [Gh.thaw, hlt, h1])
      exact ⟨this, one_cells rfl rfl this⟩
  | .tptr ty n id off, a', h => by
    simp only [frz] at h
    cases hb : Nat.blt id n0 with
    | false => simp [hb] at h
    | true =>
      simp only [hb, cond_true, Option.some.injEq] at h; subst h
      have hlt := lt_of_blt hb
      have : ∀ v, V T g w (.tptr ty n id off) v → V T (g.thaw n0 w) w (.tptr ty n id off) v := fun v hv => by
        obtain ⟨b, h1, h2, rfl⟩ := V.tptr_inv hv
        exact .tptr ty n id off b (by simp [Gh.thaw, hlt, h1]) h2
      exact ⟨this, one_cells rfl rfl this⟩
  | .msl st id off n, a', h => by
    simp only [frz] at h
    cases hb : Nat.blt id n0 with
    | true =>
      simp only [hb, cond_true, Option.some.injEq] at h; subst h
      have hlt := lt_of_blt hb
      have : ∀ v, V T g w (.msl st id off n) v → V T (g.thaw n0 w) w (.msl st id off n) v := fun v hv => by
        obtain ⟨b, cap, ty, m, h1, h2, h3, h4, h5, rfl⟩ := V.msl_inv hv
        exact .msl st id off n b cap ty m (by simp [Gh.thaw, hlt, h1]) h2 h3 h4 h5
      exact ⟨this, one_cells rfl rfl this⟩
    | false =>
      simp only [hb, cond_false] at h
      cases hs : Nat.beq st 1 with
      | false => simp [hs] at h
      | true =>
        simp only [hs, cond_true] at h
        have hs1 := beq_nat hs
        subst hs1
        have hge : ¬ id < n0 := fun hlt => by
          have : Nat.blt id n0 = true := by simpa [Nat.blt_eq] using hlt
          rw [hb] at this; cases this
        split at h
        · rename_i cs hid
          split at h
          · rename_i l hl
            cases hsc : l.all scal with
            | false => simp [hsc] at h
            | true =>
              simp only [hsc, cond_true, Option.some.injEq] at h; subst h
              obtain ⟨b', arr, j1, ⟨j2, j3, j4⟩, j5, j6⟩ := hh.objs id cs hid
              obtain ⟨s1, s2⟩ := sub_Vs hl j5
              obtain ⟨f1, f2⟩ := scal_cells hsc
              have hll : l.length = n := by rw [s1.length]; exact s2
              have this : ∀ v, V T g w (.msl 1 id off n) v → V T (g.thaw n0 w) w (.slc .ro l) v := fun v hv => by
                obtain ⟨b, cap, ty, m, h1, h2, h3, h4, h5, rfl⟩ := V.msl_inv hv
                rw [j1] at h1; cases h1
                have hv : (Value.slice (some ⟨b', off, none⟩) n cap) = .slice (some ⟨b', off, none⟩) l.length cap := by rw [hll]
                rw [hv]
                refine .slc l b' off _ 1 cap (fun k u hk => ?_) (by rw [f1]; exact s1.scal hsc) f2 (by omega) (by omega)
                obtain ⟨z1, z2⟩ := get_sub hk
                rw [List.getElem?_take] at z1
                split at z1
                · refine ⟨?_, by rw [j4.cell, ← Array.getElem?_toList]; exact z1, j4.2.2 u (List.mem_of_getElem? z1)⟩
                  have hsz : off + k < arr.size := by
                    have := (List.getElem?_eq_some_iff.1 z1).1
                    simpa using this
                  have harr : arrOf w b' = arr := by
                    obtain ⟨⟨ty', fz, hb'⟩, _⟩ := j4
                    simp [arrOf, hb']
                  simp only [Gh.thaw, j2, hge, if_false, harr]
                  omega
                · cases z1
              exact ⟨this, one_cells rfl rfl this⟩
          · cases h
        · cases h
  | .slc p es, a', h => by
    simp only [frz] at h
    split at h
    · rename_i l hl
      simp only [Option.some.injEq] at h; subst h
      obtain ⟨k1, k2, k3, k4⟩ := frzL_ok hh es l hl
      have this : ∀ v, V T g w (.slc p es) v → V T (g.thaw n0 w) w (.slc p l) v := fun v hv => by
        obtain ⟨rfl, b, o, us, st, cap, h1, h2, h3, h4, h5, rfl⟩ := V.slc_inv hv
        rw [← k3] at h5 ⊢
        exact .slc l b o us st cap h1.thaw (k2 _ h2) (k4 st h3) h4 h5
      exact ⟨this, one_cells rfl rfl this⟩
    · cases h
  | .agg cs, a', h => by
    simp only [frz] at h
    split at h
    · rename_i l hl
      simp only [Option.some.injEq] at h; subst h
      obtain ⟨k1, k2, k3, k4⟩ := frzL_ok hh cs l hl
      refine ⟨fun v hv => ?_, fun us hu => k1 us hu, k3⟩
      obtain ⟨us, h1, h2, rfl⟩ := V.agg_inv hv
      exact .agg l us (k1 _ h1) h2
    · cases h
  | .tup cs, a', h => by
    simp only [frz] at h
    split at h
    · rename_i l hl
      simp only [Option.some.injEq] at h; subst h
      obtain ⟨k1, k2, k3, k4⟩ := frzL_ok hh cs l hl
      have this : ∀ v, V T g w (.tup cs) v → V T (g.thaw n0 w) w (.tup l) v := fun v hv => by
        obtain ⟨us, h1, rfl⟩ := V.tup_inv hv
        exact .tup l us (k1 _ h1)
      exact ⟨this, one_cells rfl rfl this⟩
    · cases h
  | .ifc t x, a', h => by
    simp only [frz] at h
    split at h
    · rename_i y hy
      simp only [Option.some.injEq] at h; subst h
      have k1 := (frz_ok hh x y hy).1
      have this : ∀ v, V T g w (.ifc t x) v → V T (g.thaw n0 w) w (.ifc t y) v := fun v hv => by
        obtain ⟨u, h1, rfl⟩ := V.ifc_inv hv
        exact .ifc t y u (k1 _ h1)
      exact ⟨this, one_cells rfl rfl this⟩
    · cases h
  | .undef, a', h => by simp [frz] at h
  | .bsl .., a', h => by simp [frz] at h
  | .rptr .., a', h => by simp [frz] at h
  | .fn .., a', h => by simp [frz] at h
  | .box _, a', h => by simp [frz] at h
  | .loc .., a', h => by simp [frz] at h
  | .eloc .., a', h => by simp [frz] at h
  | .ref .., a', h => by simp [frz] at h
theorem frzL_ok (hh : HeapR T g w H) : ∀ (l l' : List AV), frzL n0 H l = some l' → Froz T g w n0 l l'
  | [], l', h => by
    simp only [frzL, Option.some.injEq] at h; subst h
    exact ⟨fun us hu => by cases hu; exact .nil, fun us hu => by cases hu; exact .nil, rfl, fun st _ e he => by simp at he⟩
  | a :: l, l', h => by
    simp only [frzL] at h
    split at h
    · rename_i b hb
      split at h
      · rename_i bs hbs
        simp only [Option.some.injEq] at h; subst h
        obtain ⟨k1, k2, k3⟩ := frz_ok hh a b hb
        exact froz_cons k1 k2 k3 (frzL_ok hh l bs hbs)
      · cases h
    · cases h
end

end
end Go.Ak

namespace Go.Ak
section
variable {T : Tr} {bar : Nat} {g g' : Gh} {w w' : World} {H H' : Heap}

theorem frz_SV (hh : HeapR T g w H) {n0 : Nat} {a a' : AV} {v : Value} (h : SV T g w .res a v) (hf : frz n0 H a = some a') : SV T (g.thaw n0 w) w .res a' v := by
  have hres : ∀ b, g.own b = .res → (g.thaw n0 w).own b = .res ∧ (g.thaw n0 w).S b = g.S b := fun b hb => by simp [Gh.thaw, hb]
  have plain : V T g w a v → SV T (g.thaw n0 w) w .res a' v := fun hv => .of_V ((frz_ok hh a a' hf).1 v hv)
  cases a with
  | slc p es =>
    cases p with
    | ro => exact plain h
    | own =>
      simp only [frz] at hf
      split at hf
      · rename_i l hl
        simp only [Option.some.injEq] at hf; subst hf
        obtain ⟨k1, k2, k3, k4⟩ := frzL_ok hh es l hl
        obtain ⟨b, off, cap, arr, st, hv, ⟨h1, h2, h3⟩, h4, h5, h6, h7, us, h8, h9⟩ := h
        obtain ⟨j1, j2⟩ := hres b h1
        rw [← k3] at h5 hv
        exact ⟨b, off, cap, arr, st, hv, ⟨j1, by rw [j2, h2], h3⟩, h4, h5, ⟨h6.1, fun e => h6.2 (List.eq_nil_of_length_eq_zero (by rw [← k3, e]; rfl))⟩, k4 st h7, us, k2 _ h8, h9⟩
      · cases hf
    | app =>
      simp only [frz] at hf
      split at hf
      · rename_i l hl
        simp only [Option.some.injEq] at hf; subst hf
        obtain ⟨k1, k2, k3, k4⟩ := frzL_ok hh es l hl
        obtain ⟨b, off, cap, arr, st, hv, h1, h2, h3, h4, h5, h6, h7, us, h8, h9⟩ := h
        obtain ⟨j1, j2⟩ := hres b h1
        rw [← k3] at h5 hv h2
        exact ⟨b, off, cap, arr, st, hv, j1, by rw [j2, h2], h3, h4, h5, ⟨h6.1, fun e => h6.2 (List.eq_nil_of_length_eq_zero (by rw [← k3, e]; rfl))⟩, k4 st h7, us, k2 _ h8, h9⟩
      · cases hf
  | box cs => simp [frz] at hf
  | loc a b c => exact h.elim
  | eloc a b c d => exact h.elim
  | ref a b c d => exact h.elim
  | _ => exact plain h

theorem Ext.thaw (hh : HeapR T g w H) (he : Ext H.length g w g' w') : Ext bar g w (g'.thaw H.length w') w' where
  size := he.size
  S b := Nat.le_trans (he.S b) (thaw_S b)
  cell := he.cell
  ob id b hb := by
    have := hh.ob id b hb
    simp only [Gh.thaw, this, if_true]
    exact he.ob id b hb
  shape := he.shape
  kept b hb := by
    obtain ⟨h1, h2, h3⟩ := he.kept b hb
    exact ⟨by simp [Gh.thaw, h1], by simp [Gh.thaw, h1, h2], h3⟩
  low id b _ ho hb := by
    have hlt := hh.ob id b ho
    obtain ⟨h1, h2, h3⟩ := he.low id b hlt ho hb
    exact ⟨by simp [Gh.thaw, h1, hlt], by simp [Gh.thaw, h1, hlt, h2], h3⟩
  os := he.os
  out := he.out

theorem HeapR.thaw (hh : HeapR T g w H) (he : Ext H.length g w g' w') (hh' : HeapR T g' w' H') : HeapR T (g'.thaw H.length w') w' H where
  objs id cs hc := by
    obtain ⟨b, arr, h1, ⟨h2, h3, h4⟩, h5, h6⟩ := hh.objs id cs hc
    have hx := Ext.thaw (bar := H.length) hh he
    have hlt := hh.ob id b h1
    obtain ⟨k1, k2, k3⟩ := hx.low id b hlt h1 h2
    exact ⟨b, arr, hx.ob id b h1, ⟨k1, k2.trans h3, h4.congr k3⟩, Vs.mono hx h5, h6⟩
  ob id b hb := by
    simp only [Gh.thaw] at hb
    split at hb
    · assumption
    · cases hb
  fresh b hb := by
    obtain ⟨h1, h2⟩ := hh'.fresh b hb
    exact ⟨by simp [Gh.thaw, h1], by simp [Gh.thaw, h1, h2]⟩
  gl b x hb := by
    have hx := Ext.thaw (bar := H.length) hh he
    obtain ⟨k1, k2⟩ := hh.gl b x hb
    obtain ⟨j1, _, j3⟩ := hx.kept b k1
    exact ⟨j1, j3.trans k2⟩

/-- A call whose own objects go. -/
theorem pure_ok {f : FuncId} {us : List Value} {out out' : Out} (hh : HeapR T g w H) (hcall : Calls T.P f us.toArray w (CallPost T H.length g w out H')) {H'' : Heap} (he : pureR H.length H (some (out, H')) = some (out', H'')) :
    Calls T.P f us.toArray w (CallPost T bar g w out' H'') := by
  refine hcall.mono fun e w' hq => ?_
  cases e with
  | returned v =>
    obtain ⟨g', a, rfl, e1, e2, e3⟩ := hq
    simp only [pureR] at he
    split at he
    · rename_i a' ha
      simp only [Option.some.injEq, Prod.mk.injEq] at he
      obtain ⟨rfl, rfl⟩ := he
      exact ⟨_, a', rfl, Ext.thaw hh e1, HeapR.thaw hh e1 e2, frz_SV e2 e3 ha⟩
    · cases he
  | panicked ch =>
    obtain ⟨g', a, v, h1, rfl, e1, e2, e3⟩ := hq
    simp only [pureR] at he
    split at he
    · rename_i a' ha
      simp only [Option.some.injEq, Prod.mk.injEq] at he
      obtain ⟨rfl, rfl⟩ := he
      exact ⟨_, a', v, h1, rfl, Ext.thaw hh e1, HeapR.thaw hh e1 e2, (frz_ok e2 a a' ha).1 v e3⟩
    · cases he
  | outgrown => exact hq

/-- The heap's objects out of sight. -/
def Gh.shut (g : Gh) : Gh where
  ob _ := none
  S := g.S
  own b := match g.own b with
    | .obj _ => .kept
    | o => o

/-- .. and in sight again. -/
def Gh.open' (g g2 : Gh) : Gh where
  ob := g.ob
  S := g2.S
  own b := match g.own b with
    | .obj id => .obj id
    | _ => g2.own b

mutual
theorem V.shut : ∀ (a : AV) (v : Value), clo a = true → V T g w a v → V T g.shut w a v
  | .bool _, _, _, h => h.scal rfl
  | .int .., _, _, h => h.scal rfl
  | .str _, _, _, h => h.scal rfl
  | .nilp, _, _, h => h.scal rfl
  | .nils, _, _, h => h.scal rfl
  | .nilf, _, _, h => h.scal rfl
  | .nili, _, _, h => h.scal rfl
  | .slc p es, v, hc, h => by
    obtain ⟨rfl, b, o, us, st, cap, h1, h2, h3, h4, h5, rfl⟩ := V.slc_inv h
    exact .slc es b o us st cap h1 (Vs.shutF es us (by simpa [clo] using hc) h2) h3 h4 h5
  | .rptr cs off, v, hc, h => by
    obtain ⟨b, o, us, h1, h2, rfl⟩ := V.rptr_inv h
    exact .rptr cs off b o us h1 (Vs.shut cs us (by simpa [clo] using hc) h2)
  | .agg cs, v, hc, h => by
    obtain ⟨us, h1, h2, rfl⟩ := V.agg_inv h
    exact .agg cs us (Vs.shut cs us (by simpa [clo] using hc) h1) h2
  | .tup cs, v, hc, h => by
    obtain ⟨us, h1, rfl⟩ := V.tup_inv h
    exact .tup cs us (Vs.shut cs us (by simpa [clo] using hc) h1)
  | .fn f cs, v, hc, h => by
    obtain ⟨us, h1, rfl⟩ := V.fn_inv h
    exact .fn f cs us (Vs.shut cs us (by simpa [clo] using hc) h1)
  | .ifc t a, v, hc, h => by
    obtain ⟨u, h1, rfl⟩ := V.ifc_inv h
    exact .ifc t a u (V.shut a u (by simpa [clo] using hc) h1)
  | .undef, _, hc, _ => by simp [clo] at hc
  | .ptr .., _, hc, _ => by simp [clo] at hc
  | .tptr .., _, hc, _ => by simp [clo] at hc
  | .msl .., _, hc, _ => by simp [clo] at hc
  | .bsl .., _, hc, _ => by simp [clo] at hc
  | .box _, _, hc, _ => by simp [clo] at hc
  | .loc .., _, hc, _ => by simp [clo] at hc
  | .eloc .., _, hc, _ => by simp [clo] at hc
  | .ref .., _, hc, _ => by simp [clo] at hc
theorem Vs.shut : ∀ (as : List AV) (us : List Value), cloL as = true → Vs T g w as us → Vs T g.shut w as us
  | [], _, _, h => by cases h; exact .nil
  | a :: as, us, hc, h => by
    simp only [cloL, Bool.and_eq_true] at hc
    cases h with
    | cons _ v _ vs h1 h2 => exact .cons _ _ _ _ (V.shut a v hc.1 h1) (Vs.shut as vs hc.2 h2)
theorem Vs.shutF : ∀ (as : List AV) (us : List Value), cloL as = true → Vs T g w (flat as) us → Vs T g.shut w (flat as) us
  | [], _, _, h => by cases h; exact .nil
  | a :: as, us, hc, h => by
    simp only [cloL, Bool.and_eq_true] at hc
    simp only [flat, List.flatMap_cons] at h ⊢
    obtain ⟨u1, u2, rfl, q1, q2⟩ := Vs.split h
    refine Vs.append ?_ (Vs.shutF as u2 hc.2 q2)
    cases a with
    | agg cs => exact Vs.shut cs u1 (by simpa [clo] using hc.1) q1
    | _ =>
      cases q1 with
      | cons _ v _ vs h1 h2 => cases h2; exact .cons _ _ _ _ (V.shut _ v hc.1 h1) .nil
end


theorem SV.shut {i : Nat} {a : AV} {v : Value} (hc : clo a = true) (h : SV T g w (.arg i) a v) : SV T g.shut w (.arg i) a v := by
  have ho : ∀ b, g.own b = .arg i → g.shut.own b = .arg i := fun b hb => by simp [Gh.shut, hb]
  cases a with
  | slc p es =>
    cases p with
    | ro => exact V.shut _ _ hc h
    | own =>
      obtain ⟨b, off, cap, arr, st, hv, ⟨h1, h2, h3⟩, h4, h5, h6, h7, us, h8, h9⟩ := h
      exact ⟨b, off, cap, arr, st, hv, ⟨ho b h1, h2, h3⟩, h4, h5, h6, h7, us, Vs.shutF es us (by simpa [clo] using hc) h8, h9⟩
    | app =>
      obtain ⟨b, off, cap, arr, st, hv, h1, h2, h3, h4, h5, h6, h7, us, h8, h9⟩ := h
      exact ⟨b, off, cap, arr, st, hv, ho b h1, h2, h3, h4, h5, h6, h7, us, Vs.shutF es us (by simpa [clo] using hc) h8, h9⟩
  | box cs => simp [clo] at hc
  | loc a b c => exact h.elim
  | eloc a b c d => exact h.elim
  | ref a b c d => exact h.elim
  | _ => exact V.shut _ _ hc h

theorem ArgsV.shut {i : Nat} {as : List AV} {us : List Value} (hc : cloL as = true) (h : ArgsV T g w i as us) : ArgsV T g.shut w i as us := by
  induction h with
  | nil i => exact .nil i
  | cons i a v as us h1 _ ih =>
    simp only [cloL, Bool.and_eq_true] at hc
    exact .cons i a v as us (SV.shut hc.1 h1) (ih hc.2)

theorem HeapR.shut (h : HeapR T g w H) : HeapR T g.shut w [] where
  objs id cs hc := by simp at hc
  ob id b hb := by simp [Gh.shut] at hb
  fresh b hb := by
    obtain ⟨h1, h2⟩ := h.fresh b hb
    exact ⟨by simp [Gh.shut, h1], h2⟩
  gl b x hb := ⟨by simp [Gh.shut, (h.gl b x hb).1], (h.gl b x hb).2⟩

/-- The way back: the ghost behind a closed call. -/
def Gh.after (g g' : Gh) (w' : World) : Gh := g.open' (g'.thaw 0 w')

theorem after_own {b : Nat} (he : Ext 0 g.shut w g' w') (hb : (g'.thaw 0 w').own b = .res) : (g.after g' w').own b = .res := by
  simp only [Gh.after, Gh.open']
  cases ho : g.own b with
  | obj id =>
    obtain ⟨h1, _⟩ := he.kept b (by simp [Gh.shut, ho])
    simp [Gh.thaw, h1] at hb
  | _ => exact hb

theorem after_keep {b : Nat} (he : Ext 0 g.shut w g' w') (hb : g.shut.own b = .kept) : (g'.thaw 0 w').own b = .kept ∧ (g'.thaw 0 w').S b = g.S b ∧ w'.heap[b]? = w.heap[b]? := by
  obtain ⟨h1, h2, h3⟩ := he.kept b hb
  exact ⟨by simp [Gh.thaw, h1], by simp only [Gh.thaw, h1]; exact h2, h3⟩

theorem Ext.after (he : Ext 0 g.shut w g' w') : Ext bar g w (g.after g' w') w' where
  size := he.size
  S b := Nat.le_trans (he.S b) (thaw_S b)
  cell := he.cell
  ob _ _ h := h
  shape := he.shape
  kept b hb := by
    obtain ⟨h1, h2, h3⟩ := after_keep he (b := b) (by simp [Gh.shut, hb])
    exact ⟨by simp only [Gh.after, Gh.open', hb]; exact h1, h2, h3⟩
  low id b _ _ hb := by
    obtain ⟨_, h2, h3⟩ := after_keep he (b := b) (by simp [Gh.shut, hb])
    exact ⟨by simp only [Gh.after, Gh.open', hb], h2, h3⟩
  os := he.os
  out := he.out

theorem HeapR.after (hh : HeapR T g w H) (he : Ext 0 g.shut w g' w') (hh' : HeapR T g' w' H') : HeapR T (g.after g' w') w' H where
  objs id cs hc := by
    obtain ⟨b, arr, h1, ⟨h2, h3, h4⟩, h5, h6⟩ := hh.objs id cs hc
    have hx := Ext.after (bar := id + 1) he
    obtain ⟨k1, k2, k3⟩ := hx.low id b (Nat.lt_succ_self _) h1 h2
    exact ⟨b, arr, h1, ⟨k1, k2.trans h3, h4.congr k3⟩, Vs.mono hx h5, h6⟩
  ob id b hb := hh.ob id b hb
  fresh b hb := by
    obtain ⟨h1, h2⟩ := hh'.fresh b hb
    have hlt : w.heap.size ≤ b := Nat.le_trans he.size hb
    exact ⟨by simp [Gh.after, Gh.open', (hh.fresh b hlt).1, Gh.thaw, h1], by simp [Gh.after, Gh.open', Gh.thaw, h1, h2]⟩
  gl b x hb := by
    obtain ⟨k1, k2⟩ := hh.gl b x hb
    obtain ⟨j1, _, j3⟩ := (Ext.after (bar := 0) he).kept b k1
    exact ⟨j1, j3.trans k2⟩

theorem ext_after : Ext 0 { g'.thaw 0 w' with own := (g.after g' w').own } w' (g.after g' w') w' where
  size := Nat.le_refl _
  S _ := Nat.le_refl _
  cell _ _ _ := rfl
  ob id b h := by simp [Gh.thaw] at h
  shape _ _ h := h
  kept _ h := ⟨h, rfl, rfl⟩
  low _ _ hi := absurd hi (Nat.not_lt_zero _)
  os := rfl
  out := rfl

theorem SV.after (he : Ext 0 g.shut w g' w') {a : AV} {v : Value} (h : SV T (g'.thaw 0 w') w' .res a v) : SV T (g.after g' w') w' .res a v :=
  (h.reown (g.after g' w').own fun b hb => after_own he hb).frame ext_after fun _ hb => ⟨hb, rfl, rfl⟩

theorem V.after {a : AV} {v : Value} (h : V T (g'.thaw 0 w') w' a v) : V T (g.after g' w') w' a v := V.mono ext_after (h.reown (g.after g' w').own)

/-- A call none of whose arguments holds an address of the heap: the heap is out of its sight. -/
theorem closed_ok {f : FuncId} {us : List Value} {out out' : Out} (hh : HeapR T g w H) (hcall : Calls T.P f us.toArray w (CallPost T 0 g.shut w out H')) {H'' : Heap} (he : pureR 0 H (some (out, H')) = some (out', H'')) :
    Calls T.P f us.toArray w (CallPost T bar g w out' H'') := by
  refine hcall.mono fun e w' hq => ?_
  cases e with
  | returned v =>
    obtain ⟨g', a, rfl, e1, e2, e3⟩ := hq
    simp only [pureR] at he
    split at he
    · rename_i a' ha
      simp only [Option.some.injEq, Prod.mk.injEq] at he
      obtain ⟨rfl, rfl⟩ := he
      exact ⟨_, a', rfl, Ext.after e1, HeapR.after hh e1 e2, SV.after e1 (frz_SV e2 e3 ha)⟩
    · cases he
  | panicked ch =>
    obtain ⟨g', a, v, h1, rfl, e1, e2, e3⟩ := hq
    simp only [pureR] at he
    split at he
    · rename_i a' ha
      simp only [Option.some.injEq, Prod.mk.injEq] at he
      obtain ⟨rfl, rfl⟩ := he
      exact ⟨_, a', v, h1, rfl, Ext.after e1, HeapR.after hh e1 e2, V.after ((frz_ok e2 a a' ha).1 v e3)⟩
    · cases he
  | outgrown => exact hq

/-- The functions walked are the program's. -/
def FsOK (T : Tr) (fs : Nat → Option AFunc) : Prop := ∀ f F, fs f = some F → ∃ fn, T.P.funcs[T.fm f]? = some fn ∧ chkFunc T F fn = true ∧ (fn.name != "runtime.NumGoroutine") = true

/-- What is told by functions of their own is so. -/
def SpOK (T : Tr) (fs : Nat → Option AFunc) (sp : Nat → (Nat → CallF) → Nat → CallF) : Prop :=
  ∀ (n : Nat) (runs : Nat → CallF), (∀ bar, CallOK T bar (runs bar)) → ∀ (bar f : Nat) (as : List AV) (H : Heap) (out : Out) (H' : Heap), fs f = none → sp n runs bar f as H = some (out, H') → chkFn T.P (T.fm f) = true ∧
    ∀ (g : Gh) (w : World) (us : List Value), HeapR T g w H → ArgsV T g w 0 as us → Calls T.P (T.fm f) us.toArray w (CallPost T bar g w out H')

theorem run_ok (hm : T.P.follows .mixedOrders = true) {fs : Nat → Option AFunc} {sp : Nat → (Nat → CallF) → Nat → CallF} (hfs : FsOK T fs) (hsp : SpOK T fs sp) : ∀ (n bar : Nat), CallOK T bar (run fs sp n bar) := by
  intro n
  induction n with
  | zero => intro bar f as H out H' he; simp [run] at he
  | succ n ih =>
    intro bar f as H out H' he
    simp only [run] at he
    split at he
    · rename_i hf
      exact hsp n (run fs sp n) ih bar f as H out H' hf he
    · rename_i F hf
      obtain ⟨fn, h1, h2, h3⟩ := hfs f F hf
      have hfn : chkFn T.P (T.fm f) = true := by
        have hb : fn.body.isSome = true := by
          simp only [chkFunc, Bool.and_eq_true] at h2
          cases hb : fn.body with
          | none => simp [hb] at h2
          | some c => rfl
        simp only [chkFn, h1, Bool.and_eq_true]
        exact ⟨h3, hb⟩
      refine ⟨hfn, fun g w us hh ha => ?_⟩
      cases hp : F.pure with
      | false =>
        simp only [hp, cond_false] at he
        exact runF_ok hm (ih bar) h1 h2 he g w us hh ha
      | true =>
        simp only [hp, cond_true] at he
        cases hcl : cloL as with
        | true =>
          simp only [hcl, cond_true] at he
          cases hr : runF (run fs sp n 0) n 0 F as [] with
          | none => rw [hr] at he; simp [pureR] at he
          | some q =>
            obtain ⟨out0, H0⟩ := q
            rw [hr] at he
            exact closed_ok hh (runF_ok hm (ih 0) h1 h2 hr g.shut w us hh.shut (ha.shut hcl)) he
        | false =>
        simp only [hcl, cond_false] at he
        cases hr : runF (run fs sp n H.length) n H.length F as H with
        | none => rw [hr] at he; simp [pureR] at he
        | some q =>
          obtain ⟨out0, H0⟩ := q
          rw [hr] at he
          exact pure_ok hh (runF_ok hm (ih H.length) h1 h2 hr g w us hh ha) he

end
end Go.Ak

namespace Go.Ak

/-- What is kept beside a world at the outset: all that is there is kept, and will not change. -/
def gh0 (w : World) : Gh where
  ob _ := none
  S b := if b < w.heap.size then (arrOf w b).size else 0
  own b := if b < w.heap.size then .kept else .free

section
variable {T : Tr} {w : World}

theorem heap0 (hg : ∀ b x, T.gl b = some x → w.heap[b]? = some x) : HeapR T (gh0 w) w [] where
  objs id cs h := by simp at h
  ob id b h := by simp [gh0] at h
  fresh b h := by simp [gh0, Nat.not_lt.2 h]
  gl b x hb := by
    have h := hg b x hb
    have hlt : b < w.heap.size := (Array.getElem?_eq_some_iff.1 h).1
    exact ⟨by simp [gh0, hlt], h⟩

theorem below0 {g' : Gh} {w' : World} (h : Ext 0 (gh0 w) w g' w') : RowKit.Below w.heap.size w w' where
  os := h.os
  tape := (Prod.mk.inj h.out).2
  output := (Prod.mk.inj h.out).1
  size := h.size
  block k hk := (h.kept k (by simp [gh0, hk])).2.2

/-- A run told, a call told. -/
theorem run_calls (hg : ∀ b x, T.gl b = some x → w.heap[b]? = some x) (hm : T.P.follows .mixedOrders = true) {fs : Nat → Option AFunc} {sp : Nat → (Nat → CallF) → Nat → CallF} (hfs : FsOK T fs) (hsp : SpOK T fs sp) {n f : Nat} {as : List AV} {a : AV} {H' : Heap} (hr : run fs sp n 0 f as [] = some (.ret a, H'))
    {us : List Value} (hv : Vs T (gh0 w) w as us) : Calls T.P (T.fm f) us.toArray w fun e w' => ∃ v, e = .returned v ∧ RowKit.Below w.heap.size w w' ∧ ∃ g', Ext 0 (gh0 w) w g' w' ∧ SV T g' w' .res a v := by
  refine ((run_ok hm hfs hsp n 0 f as [] _ H' hr).2 (gh0 w) w us (heap0 hg) (ArgsV.of_Vs 0 hv)).mono fun e w' he => ?_
  cases e with
  | returned v =>
    obtain ⟨g', a', h1, h2, h3, h4⟩ := he
    cases h1
    exact ⟨v, rfl, below0 h2, g', h2, h4⟩
  | panicked ch =>
    obtain ⟨g', a', v, _, h1, _⟩ := he
    cases h1
  | outgrown => exact he.elim

/-- .. a truth told. -/
theorem run_calls_bool (hg : ∀ b x, T.gl b = some x → w.heap[b]? = some x) (hm : T.P.follows .mixedOrders = true) {fs : Nat → Option AFunc} {sp : Nat → (Nat → CallF) → Nat → CallF} (hfs : FsOK T fs) (hsp : SpOK T fs sp) {n f : Nat} {as : List AV} {b : Bool} {H' : Heap} (hr : run fs sp n 0 f as [] = some (.ret (.bool b), H'))
    {us : List Value} (hv : Vs T (gh0 w) w as us) : Calls T.P (T.fm f) us.toArray w fun e w' => e = .returned (.bool b) ∧ RowKit.Below w.heap.size w w' :=
  (run_calls hg hm hfs hsp hr hv).mono fun e w' ⟨v, h1, h2, g', _, h3⟩ => by
    have : v = .bool b := V.bool_inv h3
    subst this
    exact ⟨h1, h2⟩

/-- No function of its own. -/
def sp0 (_ : Nat) (_ : Nat → CallF) (_ : Nat) : CallF := fun _ _ _ => none

theorem sp0_ok {fs : Nat → Option AFunc} : SpOK T fs sp0 := fun _ _ _ _ _ _ _ _ _ _ h => by cases h

theorem str_V (g : Gh) (s : ByteArray) : V T g w (.str s.data.toList) (.string s) := by
  have : s = ⟨s.data.toList.toArray⟩ := by simp
  conv => rhs; rw [this]
  exact .str _

end
end Go.Ak

namespace Go.Ak
open Go.RowKit Go.ChangeShapes

theorem keptBut_below {W W' : World} (h : RowKit.Below W.heap.size W W') (may : MemPlace → Prop) : W.keptBut W' may := by
  refine ⟨h.os, h.output, fun i hi => ?_⟩
  rw [h.block i hi]
  cases hb : W.heap[i]? with
  | none => simp
  | some o => cases o <;> simp

/-- 'post_of_same', the world grown: of the old blocks nothing has turned, whatever the new ones hold. -/
theorem post_of_below {H : Type} {enc : TypeId × Value → H} {P : Program} {f : Func} {s : ChangeSpec} {apart fresh handsOn again : Bool} {W W' : World} {args : Array Value} {v : Value} {ds gs : List (DataW H)} {before pa pv : List MemPlace}
    (hW : DataW.Whole enc P f.params.toList s.vars apart W args.toList ds gs before)
    (hres : ∀ (b : Nat) (sp : Nat → Bool) (hd : Bool), DataW.TrodAll enc P W' b sp hd f.resultTypes.toList (v.resultList f.resultTypes.size) (s.fn H (ds ++ gs)).results [])
    (hargs : ∀ sp : Nat → Bool, (∀ p ∈ before, sp p.block = true) → DataW.TrodAll enc P W' 0 sp true f.params.toList args.toList (s.fn H (ds ++ gs)).args pa)
    (hvars : ∀ sp : Nat → Bool, (∀ p ∈ before, sp p.block = true) → DataW.TrodVars enc P W' sp s.vars (s.fn H (ds ++ gs)).vars pv)
    (hps : before = pa ++ pv) (hb : RowKit.Below W.heap.size W W')
    (hok : ∀ (j : Nat) (t : TypeId) (r : Value), f.resultTypes[j]? = some t → (v.resultList f.resultTypes.size)[j]? = some r → Value.okWide P W' .any 0 t r) :
    s.post enc P f apart fresh handsOn again W args v W' := by
  have hold : ∀ p ∈ before, (fun b => decide (b < W.heap.size)) p.block = true := fun p hp => by simpa using hW.lt p hp
  have hlt := hW.lt
  refine ⟨ds, gs, before, [], pa, pv, hW, hres _ _ _, hargs _ hold, hvars _ hold, World.keptBut_mono (fun p hp => ⟨hp, ?_⟩) (keptBut_below hb (· ∈ before)), fun _ => ?_⟩
  · rw [hps, List.mem_append] at hp
    exact Or.inr hp
  · obtain ⟨_, _, _, _, _, hz, hn⟩ := hW
    refine ⟨hok, _, _, ([] ++ pa) ++ pv, ⟨[] ++ pa, pv, trodAll_append (hargs _ (fun _ _ => rfl)) (hres _ _ _), hvars _ (fun _ _ => rfl), rfl, ?_, ?_⟩, ?_⟩
    · intro b off hp
      have hp' : MemPlace.cell b off ∈ before := by rw [hps]; simpa using hp
      have : W'.frozen? ⟨b, off, none⟩ = W.frozen? ⟨b, off, none⟩ := by
        simp only [World.frozen?, hb.block b (hlt _ hp')]
      rw [this]
      exact hz b off hp'
    · intro ha
      have := hn ha
      rw [hps] at this
      simpa using this
    · intro p hp _
      rw [hps]
      simpa using hp

end Go.Ak

namespace Go.Ak
section
variable {T : Tr} {bar : Nat} {g : Gh} {w w' : World} {H : Heap}

theorem HeapR.rel (h : HeapR T g w H) : Rel T [] 0 g w ⟨[], [], [], H⟩ #[] :=
  ⟨rfl, fun _ _ => rfl, fun _ h => by simp at h, fun _ => V.undef _, fun _ => V.undef _, fun _ _ h => by simp [look] at h, h⟩

/-- A cell of an object set. -/
theorem HeapR.set1 (h : HeapR T g w H) {id off b : Nat} {cs : List AV} {a : AV} {u : Value} (hb : g.ob id = some b) (hbar : bar ≤ id) (hid : H[id]? = some (some cs)) (ho : off < cs.length) (hv : V T g w a u) (h1 : u.oneCell' = true) :
    Ext bar g w g (w.setCell ⟨b, off, none⟩ u) ∧ HeapR T g (w.setCell ⟨b, off, none⟩ u) (H.set id (some (cs.set off a))) := by
  have hw : wr ⟨[], [], [], H⟩ bar (.ptr id off) [a] = some ⟨[], [], [], H.set id (some (cs.set off a))⟩ := by
    have e1 : Nat.ble bar id = true := by rw [Nat.ble_eq]; exact hbar
    have e2 : Nat.ble (off + 1) cs.length = true := by rw [Nat.ble_eq]; exact ho
    simp [wr, e1, hid, e2, setCells]
  obtain ⟨b', off', arr, k1, _, _, k2, k3⟩ := wr_rel (bar := bar) (o := .res) h.rel (p := .ptr id off) (v := .pointer (some ⟨b, off, none⟩)) (AVR.of_SV (SV.of_V (V.ptr id off b hb))) (.cons _ _ _ _ hv .nil) (by simpa using h1) hw
  simp only [Value.pointer.injEq, Option.some.injEq, Addr.mk.injEq, and_true] at k1
  obtain ⟨rfl, rfl⟩ := k1
  exact ⟨k2, k3.heap⟩

theorem frozen_ext {b q n : Nat} (hown : g.own b = .obj q) (hbar : bar ≤ q) (h1 : w'.heap = (w.freeze ⟨b, 0, none⟩ n).heap) (h2 : w'.os = w.os) (h3 : (w'.output, w'.tape) = (w.output, w.tape)) :
    Ext bar g w g w' ∧ ∀ x, x ≠ b → w'.heap[x]? = w.heap[x]? := by
  have hx : ∀ x, x ≠ b → w'.heap[x]? = w.heap[x]? := fun x hx => by
    rw [h1]
    unfold World.freeze
    split
    · rfl
    · simp only [Array.getElem?_modify]
      rw [if_neg (fun e => hx e.symm)]
  have hb : ∀ x, w'.heap[x]? = w.heap[x]? ∨ ∃ c e lo hi lo' hi', w.heap[x]? = some (Obj.cells c e (lo, hi)) ∧ w'.heap[x]? = some (Obj.cells c e (lo', hi')) := fun x => by
    by_cases e : x = b
    · subst e
      cases hc : w.heap[x]? with
      | none =>
        left
        rw [h1]
        unfold World.freeze
        split
        · exact hc
        · show (w.heap.modify x _)[x]? = _
          rw [Array.getElem?_modify, if_pos rfl, hc]; rfl
      | some o =>
        cases o with
        | cells c e fz =>
          obtain ⟨lo, hi⟩ := fz
          by_cases hn : n = 0
          · left
            rw [h1]
            unfold World.freeze
            rw [if_pos hn]; exact hc
          · refine .inr ⟨c, e, lo, hi, (if lo == hi then (0, 0 + n) else (min lo 0, max hi (0 + n))).1, (if lo == hi then (0, 0 + n) else (min lo 0, max hi (0 + n))).2, hc, ?_⟩
            rw [h1]
            unfold World.freeze
            rw [if_neg hn]
            show (w.heap.modify x _)[x]? = _
            rw [Array.getElem?_modify, if_pos rfl, hc]; rfl
        | _ =>
          left
          rw [h1]
          unfold World.freeze
          split
          · exact hc
          · show (w.heap.modify x _)[x]? = _
            rw [Array.getElem?_modify, if_pos rfl, hc]; rfl
    · exact .inl (hx x e)
  refine ⟨⟨?_, fun _ => Nat.le_refl _, fun x o _ => ?_, fun _ _ h => h, fun x z hz => ?_, fun x hk => ⟨hk, rfl, hx x (fun e => by subst e; rw [hown] at hk; cases hk)⟩, fun id x hi _ hk => ⟨hk, rfl, hx x (fun e => by subst e; rw [hown] at hk; cases hk; omega)⟩, h2, h3⟩, hx⟩
  · rw [h1]; unfold World.freeze; split <;> simp
  · rcases hb x with e | ⟨c, e, lo, hi, lo', hi', e1, e2⟩
    · simp only [World.cell?, e]
    · simp only [World.cell?, e1, e2]
  · rcases hb x with e | ⟨c, e, lo, hi, lo', hi', e1, e2⟩
    · simpa only [World.shape?, e] using hz
    · simpa only [World.shape?, e1, e2] using hz

/-- Cells frozen: their object is told no more. -/
theorem HeapR.frozen (h : HeapR T g w H) {b q n : Nat} (hob : g.ob q = some b) (hown : g.own b = .obj q) (hbar : bar ≤ q) (h1 : w'.heap = (w.freeze ⟨b, 0, none⟩ n).heap) (h2 : w'.os = w.os) (h3 : (w'.output, w'.tape) = (w.output, w.tape)) :
    Ext bar g w g w' ∧ HeapR T g w' (H.set q none) := by
  obtain ⟨he, hx⟩ := frozen_ext (g := g) hown hbar h1 h2 h3
  refine ⟨he, fun id cs hc => ?_, fun id x hb => by simpa using h.ob id x hb, fun x hb => h.fresh x (Nat.le_trans he.size hb), fun x o ho => ?_⟩
  · by_cases hq : q = id
    · subst hq
      simp only [List.getElem?_set] at hc
      simp at hc
    · rw [List.getElem?_set_ne hq] at hc
      obtain ⟨b', arr, k1, ⟨k2, k3, k4⟩, k5, k6⟩ := h.objs id cs hc
      have hne : b' ≠ b := fun e => by subst e; rw [hown] at k2; cases k2; exact hq rfl
      exact ⟨b', arr, k1, ⟨k2, k3, k4.congr (hx b' hne)⟩, Vs.mono he k5, k6⟩
  · obtain ⟨j1, j2⟩ := h.gl x o ho
    exact ⟨j1, (hx x (fun e => by subst e; rw [hown] at j1; cases j1)).trans j2⟩

/-- Nothing but draws. -/
theorem HeapR.same (h : HeapR T g w H) (h1 : w'.heap = w.heap) (h2 : w'.os = w.os) (h3 : (w'.output, w'.tape) = (w.output, w.tape)) : Ext bar g w g w' ∧ HeapR T g w' H := by
  have he : Ext bar g w g w' := ⟨by rw [h1]; exact Nat.le_refl _, fun _ => Nat.le_refl _, fun _ _ _ => by simp only [World.cell?, h1], fun _ _ h => h, fun _ _ h => by simpa only [World.shape?, h1] using h, fun _ h => ⟨h, rfl, by rw [h1]⟩, fun _ _ _ _ h => ⟨h, rfl, by rw [h1]⟩, h2, h3⟩
  refine ⟨he, fun id cs hc => ?_, h.ob, fun x hb => h.fresh x (by rw [h1] at hb; exact hb), fun x o ho => ?_⟩
  · obtain ⟨b', arr, k1, ⟨k2, k3, k4⟩, k5, k6⟩ := h.objs id cs hc
    exact ⟨b', arr, k1, ⟨k2, k3, k4.congr (by rw [h1])⟩, Vs.mono he k5, k6⟩
  · rw [h1]; exact h.gl x o ho

/-- A cell of an object, read. -/
theorem HeapR.cell (h : HeapR T g w H) {id off b : Nat} {cs : List AV} {a : AV} (hb : g.ob id = some b) (hid : H[id]? = some (some cs)) (ha : cs[off]? = some a) : ∃ v, w.cell? ⟨b, off, none⟩ = some v ∧ V T g w a v ∧ w.frozen? ⟨b, off, none⟩ = false := by
  obtain ⟨b', arr, k1, ⟨k2, k3, k4⟩, k5, k6⟩ := h.objs id cs hid
  rw [hb] at k1; cases k1
  obtain ⟨v, hv, hV⟩ := k5.get off a ha
  rw [List.getElem?_take] at hv
  split at hv
  · rw [Array.getElem?_toList] at hv
    exact ⟨v, by rw [k4.cell]; exact hv, hV, k4.2.1 off (by omega)⟩
  · cases hv

end
end Go.Ak

namespace Go.Ak

/-- The ghost of a call that sees one object alone, at the block 'q'; what lies ahead of it is kept. -/
def Gh.alone (g : Gh) (q : Nat) : Gh where
  ob id := if id = 0 then some q else none
  S := g.S
  own b := if b = q then .obj 0 else if b < q then .kept else .free

/-- .. and the ghost behind it: 'n': how many blocks there were at the outset. -/
def Gh.home (g g' : Gh) (w' : World) (n q : Nat) : Gh where
  ob := g.ob
  S := (g'.thaw 0 w').S
  own b := if b < n then g.own b else if b < q then .free else (g'.thaw 0 w').own b

/-- The world grown by blocks. -/
structure Grown (n : Nat) (w W : World) : Prop where
  block : ∀ b, b < n → W.heap[b]? = w.heap[b]?
  size : n = w.heap.size
  le : n ≤ W.heap.size
  os : W.os = w.os
  out : (W.output, W.tape) = (w.output, w.tape)

/-- What is written of the blocks from 'n' to 'q' alone, and what is laid behind all. -/
structure Near (n q : Nat) (w w' : World) : Prop where
  size : w.heap.size ≤ w'.heap.size
  block : ∀ b, b < w.heap.size → (b < n ∨ q ≤ b) → w'.heap[b]? = w.heap[b]?
  shape : ∀ b x, w.shape? b = some x → w'.shape? b = some x
  os : w'.os = w.os
  out : (w'.output, w'.tape) = (w.output, w.tape)

theorem Near.refl (n q : Nat) (w : World) : Near n q w w := ⟨Nat.le_refl _, fun _ _ _ => rfl, fun _ _ h => h, rfl, rfl⟩

theorem Near.trans {n q : Nat} {w w1 w2 : World} (h : Near n q w w1) (k : Near n q w1 w2) : Near n q w w2 :=
  ⟨Nat.le_trans h.size k.size, fun b hb hq => (k.block b (Nat.lt_of_lt_of_le hb h.size) hq).trans (h.block b hb hq), fun b x hx => k.shape b x (h.shape b x hx), k.os.trans h.os, k.out.trans h.out⟩

theorem Near.setCell {n q b o : Nat} (w : World) (v : Value) (h1 : n ≤ b) (h2 : b < q) : Near n q w (w.setCell ⟨b, o, none⟩ v) := by
  refine ⟨by simp [World.setCell], fun x _ hx => ?_, fun x y hy => ?_, rfl, rfl⟩
  · simp only [World.setCell, Array.getElem?_modify]
    rw [if_neg (by omega)]
  · simp only [World.shape?, World.setCell, Array.getElem?_modify] at hy ⊢
    by_cases e : b = x
    · subst e
      rw [if_pos rfl]
      cases hc : w.heap[b]? with
      | none => simp [hc] at hy
      | some ob =>
        cases ob with
        | cells c el fz => simpa [hc] using hy
        | _ => simp [hc] at hy
    · rw [if_neg e]; exact hy

theorem Near.alloc (n q : Nat) (w : World) (o : Obj) : Near n q w (w.alloc o).drew := by
  have hh : ∀ b, b < w.heap.size → (w.alloc o).drew.heap[b]? = w.heap[b]? := fun b hb => by
    show (w.heap.push o)[b]? = _
    rw [Array.getElem?_push, if_neg (by omega)]
  refine ⟨?_, fun b hb _ => hh b hb, fun b x hx => ?_, rfl, rfl⟩
  · show w.heap.size ≤ (w.heap.push o).size
    simp
  · have hb : b < w.heap.size := by
      rcases Nat.lt_or_ge b w.heap.size with h | h
      · exact h
      · simp [World.shape?, Array.getElem?_eq_none h] at hx
    simp only [World.shape?, hh b hb] at hx ⊢
    exact hx

section
variable {T : Tr} {bar n q : Nat} {g g' : Gh} {w W w' F : World} {H : Heap}

theorem alone_heap (hh : HeapR T g w H) (hW : Grown n w W) (hq : n ≤ q) (hs : W.heap.size = q + 1) {arr : Array Value} {cs : List AV} (hb : blk W q arr) (hv : Vs T (g.alone q) W cs arr.toList) : HeapR T (g.alone q) W [some cs] where
  objs id xs hx := by
    cases id with
    | zero =>
      simp only [List.getElem?_cons_zero, Option.some.injEq] at hx
      subst hx
      have hl := hv.length
      refine ⟨q, arr, by simp [Gh.alone], ⟨by simp [Gh.alone], (hh.fresh q (by rw [← hW.size]; exact hq)).2, hb⟩, ?_, ?_⟩
      · rw [hl, List.take_length]; exact hv
      · rw [hl]; simp
    | succ id => simp at hx
  ob id b hb := by
    simp only [Gh.alone] at hb
    split at hb
    · rename_i h; simp [h]
    · cases hb
  fresh b hb := by
    rw [hs] at hb
    have := hW.size
    exact ⟨by simp only [Gh.alone]; rw [if_neg (by omega), if_neg (by omega)], (hh.fresh b (by omega)).2⟩
  gl b x hb := by
    obtain ⟨_, k2⟩ := hh.gl b x hb
    have hlt : b < n := by rw [hW.size]; exact (Array.getElem?_eq_some_iff.1 k2).1
    exact ⟨by simp only [Gh.alone]; rw [if_neg (by omega), if_pos (by omega)], (hW.block b hlt).trans k2⟩

theorem alone_kept {b : Nat} (hb : b < q) : (g.alone q).own b = .kept := by
  simp only [Gh.alone]; rw [if_neg (by omega), if_pos hb]

/-- What was there at the outset, behind the call. -/
theorem home_old (hW : Grown n w W) (hq : n ≤ q) (hs : W.heap.size = q + 1) (he : Ext 0 (g.alone q) W g' w') (hF : Near n q w' F) {b : Nat} (hb : b < n) : (g.home g' w' n q).own b = g.own b ∧ (g.home g' w' n q).S b = g.S b ∧ F.heap[b]? = w.heap[b]? := by
  obtain ⟨k1, k2, k3⟩ := he.kept b (alone_kept (by omega))
  have h1 := he.size
  refine ⟨by simp only [Gh.home]; rw [if_pos hb], ?_, ?_⟩
  · simp only [Gh.home, Gh.thaw, k1]
    exact k2
  · rw [hF.block b (by omega) (.inl hb), k3, hW.block b hb]

theorem home_mid (hs : W.heap.size = q + 1) (hh : HeapR T g w H) (hW : Grown n w W) (he : Ext 0 (g.alone q) W g' w') {b : Nat} (h1 : n ≤ b) (h2 : b < q) : (g'.thaw 0 w').S b = 0 := by
  obtain ⟨k1, k2, _⟩ := he.kept b (alone_kept h2)
  have : (g'.thaw 0 w').S b = g'.S b := by simp only [Gh.thaw, k1]
  rw [this, k2]
  exact (hh.fresh b (by rw [← hW.size]; exact h1)).2

theorem home_ext (hh : HeapR T g w H) (hW : Grown n w W) (hq : n ≤ q) (hs : W.heap.size = q + 1) (he : Ext 0 (g.alone q) W g' w') (hF : Near n q w' F) : Ext bar g w (g.home g' w' n q) F where
  size := by have := he.size; have := hF.size; have := hW.size; omega
  S b := by
    have h1 : (g.alone q).S b ≤ g'.S b := he.S b
    exact Nat.le_trans h1 (thaw_S b)
  cell b o ho := by
    have hb : b < n := by
      rw [hW.size]
      rcases Nat.lt_or_ge b w.heap.size with h | h
      · exact h
      · rw [(hh.fresh b h).2] at ho; omega
    simp only [World.cell?, (home_old (g' := g') hW hq hs he hF hb).2.2]
  ob _ _ h := h
  shape b x hx := by
    have hb : b < n := by
      rw [hW.size]
      rcases Nat.lt_or_ge b w.heap.size with h | h
      · exact h
      · simp [World.shape?, Array.getElem?_eq_none h] at hx
    simp only [World.shape?, (home_old (g' := g') hW hq hs he hF hb).2.2] at hx ⊢
    exact hx
  kept b hb := by
    have hlt : b < n := by
      rw [hW.size]
      rcases Nat.lt_or_ge b w.heap.size with h | h
      · exact h
      · rw [(hh.fresh b h).1] at hb; cases hb
    obtain ⟨k1, k2, k3⟩ := home_old (g' := g') hW hq hs he hF hlt
    exact ⟨k1.trans hb, k2, k3⟩
  low id b _ _ hb := by
    have hlt : b < n := by
      rw [hW.size]
      rcases Nat.lt_or_ge b w.heap.size with h | h
      · exact h
      · rw [(hh.fresh b h).1] at hb; cases hb
    obtain ⟨k1, k2, k3⟩ := home_old (g' := g') hW hq hs he hF hlt
    exact ⟨k1.trans hb, k2, k3⟩
  os := hF.os.trans (he.os.trans hW.os)
  out := hF.out.trans (he.out.trans hW.out)

theorem home_heap {H1 : Heap} (hh : HeapR T g w H) (hW : Grown n w W) (hq : n ≤ q) (hs : W.heap.size = q + 1) (he : Ext 0 (g.alone q) W g' w') (hh' : HeapR T g' w' H1) (hF : Near n q w' F) : HeapR T (g.home g' w' n q) F H where
  objs id cs hc := by
    obtain ⟨b, arr, h1, ⟨h2, h3, h4⟩, h5, h6⟩ := hh.objs id cs hc
    have hlt : b < n := by rw [hW.size]; exact h4.lt
    obtain ⟨k1, k2, k3⟩ := home_old (g' := g') hW hq hs he hF hlt
    exact ⟨b, arr, h1, ⟨k1.trans h2, k2.trans h3, h4.congr k3⟩, Vs.mono (home_ext (bar := 0) hh hW hq hs he hF) h5, h6⟩
  ob id b hb := hh.ob id b hb
  fresh b hb := by
    have hge : w'.heap.size ≤ b := Nat.le_trans hF.size hb
    obtain ⟨h1, h2⟩ := hh'.fresh b hge
    have := he.size
    have := hW.size
    refine ⟨?_, by simp [Gh.home, Gh.thaw, h1, h2]⟩
    simp only [Gh.home]
    rw [if_neg (by omega), if_neg (by omega)]
    simp [Gh.thaw, h1]
  gl b x hb := by
    obtain ⟨k1, k2⟩ := hh.gl b x hb
    have hlt : b < n := by rw [hW.size]; exact (Array.getElem?_eq_some_iff.1 k2).1
    obtain ⟨j1, _, j3⟩ := home_old (g' := g') hW hq hs he hF hlt
    exact ⟨j1.trans k1, j3.trans k2⟩

/-- What the call hands out. -/
theorem home_V {H1 : Heap} (hh : HeapR T g w H) (hW : Grown n w W) (hq : n ≤ q) (hs : W.heap.size = q + 1) (he : Ext 0 (g.alone q) W g' w') (hh' : HeapR T g' w' H1) (hF : Near n q w' F) : Ext 0 { g'.thaw 0 w' with own := (g.home g' w' n q).own } w' (g.home g' w' n q) F where
  size := hF.size
  S _ := Nat.le_refl _
  cell b o ho := by
    have hn : ¬ (n ≤ b ∧ b < q) := fun ⟨h1, h2⟩ => by
      have := home_mid hs hh hW he h1 h2
      simp only at ho
      omega
    have hb : b < w'.heap.size := by
      rcases Nat.lt_or_ge b w'.heap.size with h | h
      · exact h
      · obtain ⟨h1, h2⟩ := hh'.fresh b h
        simp only [Gh.thaw, h1, h2] at ho
        omega
    simp only [World.cell?, hF.block b hb (by omega)]
  ob id b h := by simp [Gh.thaw] at h
  shape := hF.shape
  kept b hb := by
    refine ⟨hb, rfl, ?_⟩
    have hn : ¬ (n ≤ b ∧ b < q) := fun ⟨h1, h2⟩ => by
      simp only [Gh.home] at hb
      rw [if_neg (by omega), if_pos h2] at hb
      cases hb
    have hlt : b < w'.heap.size := by
      rcases Nat.lt_or_ge b w'.heap.size with h | h
      · exact h
      · obtain ⟨h1, h2⟩ := hh'.fresh b h
        have := he.size
        have := hW.size
        simp only [Gh.home] at hb
        rw [if_neg (by omega), if_neg (by omega)] at hb
        simp [Gh.thaw, h1] at hb
    exact hF.block b hlt (by omega)
  low _ _ hi := absurd hi (Nat.not_lt_zero _)
  os := hF.os
  out := hF.out

end
end Go.Ak

