/- Words of the proofs: calls over abstract memory; a region's operations in the text's order. -/
import Derived.Test.YtelpdppdhimfoaaB1
namespace Go.Proofs.Ytelpdppdhimfoaa
open Go
set_option linter.unusedSimpArgs false
set_option linter.unusedVariables false

/-- From every state that (args, H) stands for the call returns, and what it leaves is stood for by some (v, H') with R v H'. -/
def ACalls (P : Program) (f : FuncId) (args : Array Value) (H : AH) (R : Value → AH → Prop) : Prop :=
  ∀ (φ : Phi) (W : World) (args' : Array Value), Sim φ H W → VRA φ args args' → Calls P f args' W fun e W' =>
    ∃ v v' H' φ', e = .returned v' ∧ VR φ' v v' ∧ R v H' ∧ Sim φ' H' W' ∧ Ev φ H W φ' H' W'
theorem ACalls.mono {P : Program} {f : FuncId} {args : Array Value} {H : AH} {R R' : Value → AH → Prop} (h : ACalls P f args H R) (hr : ∀ v H', R v H' → R' v H') : ACalls P f args H R' :=
  fun φ W args' hS hA => (h φ W args' hS hA).mono fun e W' ⟨v, v', H', φ', h1, h2, h3, h4, h5⟩ => ⟨v, v', H', φ', h1, h2, hr _ _ h3, h4, h5⟩

/-- The slots that are known, the latest first; of all others nothing is known. -/
abbrev ATmps := List (Nat × Value)
def look : ATmps → Nat → Value
  | [], _ => undef
  | (j, v) :: r, i => if i = j then v else look r i
def aeval (t : ATmps) : Operand → Value
  | .tmp i => look t i
  | .const v => v
  | .global _ => undef
  | .func f => .func (.func f) #[] #[]
def aput (t : ATmps) (dst : Option Tmp) (v : Value) : ATmps :=
  match dst with
  | some d => (d, v) :: t
  | none => t
/-- Constants that hold no address. -/
def operandOk (x : Operand) : Bool := match x with | .const v => plainv v | _ => true

structure TR (n : Nat) (φ : Phi) (t : ATmps) (a : Act) : Prop where
  defers : a.defers = []
  size : a.tmps.size = n
  rel : ∀ i, VR φ (look t i) (a.tmps.getD i undef)
theorem TR.mono {n : Nat} {φ φ' : Phi} (hφ : ∀ g bi, φ g = some bi → φ' g = some bi) {t : ATmps} {a : Act} (h : TR n φ t a) : TR n φ' t a :=
  ⟨h.defers, h.size, fun i => (h.rel i).mono hφ⟩
theorem TR.eval {n : Nat} {φ : Phi} {t : ATmps} {a : Act} (h : TR n φ t a) {x : Operand} (hx : operandOk x = true) : VR φ (aeval t x) (a.eval x) := by
  cases x with
  | tmp i => exact h.rel i
  | const v => exact VR.plain hx
  | global g => exact .any _
  | func f => exact .func _ rfl rfl (fun i h1 _ => by simp at h1) (fun i h1 _ => by simp at h1)
def dstOk (n : Nat) (d : Option Tmp) : Bool := match d with | some d => decide (d < n) | none => true
theorem getD_set {tmps : Array Value} {d i : Nat} {v : Value} (hd : d < tmps.size) : (tmps.setIfInBounds d v).getD i undef = if i = d then v else tmps.getD i undef := by
  simp only [Array.getD_eq_getD_getElem?, Array.getElem?_setIfInBounds]
  by_cases e : d = i
  · subst e; simp [hd]
  · simp [e, Ne.symm e]
theorem TR.put {n : Nat} {φ : Phi} {t : ATmps} {a : Act} (h : TR n φ t a) {dst : Option Tmp} (hd : dstOk n dst = true) {v v' : Value} (hv : VR φ v v') : TR n φ (aput t dst v) (a.put dst v') := by
  cases dst with
  | none => exact h
  | some d =>
    have hd' : d < a.tmps.size := by rw [h.size]; simpa [dstOk] using hd
    refine ⟨h.defers, by simp [Act.put, h.size], fun i => ?_⟩
    show VR φ (if i = d then v else look t i) ((a.tmps.setIfInBounds d v').getD i undef)
    rw [getD_set hd']
    split
    · exact hv
    · exact h.rel i

def isLight (op : Op) : Bool :=
  match op with
  | .move _ | .assign _ | .pick .. | .build .. | .binOp .. | .unOp .. | .makeInterface .. | .makeFunc .. | .fieldAddr .. | .field .. | .indexAddr .. | .index .. | .slice .. | .extract .. | .nilCheck .. | .typeAssert ..
  | .load .. | .alloc .. | .box .. | .buildSlice .. | .makeSlice .. => true
  | .convert s d _ => s != d
  | .call c => match c.callee with
    | .builtin .len | .builtin .min | .builtin .max => true
    | _ => false
  | _ => false
noncomputable def aLight (P : Program) (ρ : Operand → Value) (H : AH) (op : Op) : Option (Value × AH) :=
  match op with
  | .load .. => (aread P ρ H op).map fun v => (v, H)
  | .alloc .. | .box .. | .buildSlice .. | .makeSlice .. => (anew P ρ op).map fun p => (p.2 H.length, H ++ [.own p.1])
  | .convert .. => match apure P ρ op with
    | some v => some (v, H)
    | none => match aread P ρ H op with
      | some v => some (v, H)
      | none => (anew P ρ op).map fun p => (p.2 H.length, H ++ [.own p.1])
  | _ => (apure P ρ op).map fun v => (v, H)
/-- The three kinds of a light operation. -/
theorem aLight_cases {P : Program} {ρ : Operand → Value} {H H' : AH} {op : Op} {v : Value} (h : aLight P ρ H op = some (v, H')) :
    (apure P ρ op = some v ∧ H' = H) ∨ (aread P ρ H op = some v ∧ H' = H) ∨ (∃ cs vf, anew P ρ op = some (cs, vf) ∧ v = vf H.length ∧ H' = H ++ [.own cs]) := by
  unfold aLight at h
  split at h
  · simp only [Option.map_eq_some_iff] at h
    obtain ⟨u, hu, e⟩ := h
    cases e
    exact .inr (.inl ⟨hu, rfl⟩)
  · simp only [Option.map_eq_some_iff] at h
    obtain ⟨u, hu, e⟩ := h
    cases e
    exact .inr (.inr ⟨_, _, hu, rfl, rfl⟩)
  · simp only [Option.map_eq_some_iff] at h
    obtain ⟨u, hu, e⟩ := h
    cases e
    exact .inr (.inr ⟨_, _, hu, rfl, rfl⟩)
  · simp only [Option.map_eq_some_iff] at h
    obtain ⟨u, hu, e⟩ := h
    cases e
    exact .inr (.inr ⟨_, _, hu, rfl, rfl⟩)
  · simp only [Option.map_eq_some_iff] at h
    obtain ⟨u, hu, e⟩ := h
    cases e
    exact .inr (.inr ⟨_, _, hu, rfl, rfl⟩)
  · split at h
    · rename_i hu
      cases h
      exact .inl ⟨hu, rfl⟩
    · split at h
      · rename_i hu
        cases h
        exact .inr (.inl ⟨hu, rfl⟩)
      · simp only [Option.map_eq_some_iff] at h
        obtain ⟨u, hu, e⟩ := h
        cases e
        exact .inr (.inr ⟨_, _, hu, rfl, rfl⟩)
  · simp only [Option.map_eq_some_iff] at h
    obtain ⟨u, hu, e⟩ := h
    cases e
    exact .inl ⟨hu, rfl⟩

/-- A new block of the machine for an abstract one that stands for nothing yet. -/
theorem news_concretize {φ : Phi} {H : AH} {W W1 : World} {g : Nat} {cs : List Value} {C : Array Value} {ty : TypeId} {fr : Nat × Nat} (hS : Sim φ H W) (hg : H[g]? = some (.own cs)) (hφ : φ g = none)
    (hh : W1.heap = W.heap.push (.cells C ty fr)) (hfr : fr.1 = fr.2 ∨ C.size ≤ fr.1) (hl : cs.length ≤ C.size) (hc : ∀ (i : Nat) (v : Value), cs[i]? = some v → ∃ v', C[i]? = some v' ∧ VR φ v v') :
    Sim (φ.upd g ⟨W.heap.size, 0, C.size⟩) H W1 :=
  (hS.concretize hg hφ hfr hl hc).heap hh

theorem light_sound {P : Program} {φ : Phi} {ρ ρ' : Operand → Value} {H H' : AH} {W : World} {o : Oper} {v : Value} (hS : Sim φ H W) (h : aLight P ρ H o.op = some (v, H')) (hr : ∀ x ∈ o.op.operands, VR φ (ρ x) (ρ' x)) :
    ∃ φ' W' v', (execOp ρ' o).run P W = .ok (.value v') W' ∧ VR φ' v v' ∧ Sim φ' H' W' ∧ Ev φ H W φ' H' W' := by
  rcases aLight_cases h with ⟨hh, rfl⟩ | ⟨hh, rfl⟩ | ⟨cs, vf, hh, rfl, rfl⟩
  · obtain ⟨v', h1, h2⟩ := apure_sound hh hr
    exact ⟨φ, W, v', h2 W, h1, hS, Ev.refl _ _ _⟩
  · obtain ⟨v', h1, h2⟩ := aread_sound hS hh hr
    exact ⟨φ, W, v', h2, h1, hS, Ev.refl _ _ _⟩
  · obtain ⟨C, ty, fr, v', W1, h1, h2, h3, h4, h5, h6, h7, h8, h9⟩ := anew_sound hh hr W
    have hn := hS.fresh_none (Nat.le_refl H.length)
    have hP := hS.push (.own cs)
    refine ⟨_, W1, v', h1, h9 _ _ Phi.upd_self, news_concretize hP get_push_eq hn h2 h6 h7 h8, ?_⟩
    have e0 := Ev.concretize (φ := φ) (H := H) (W := W) hn (bi := ⟨W.heap.size, 0, C.size⟩) rfl (.cells C ty fr) (Nat.le_refl _) (H' := H ++ [.own cs]) (fun x hx => get_push_lt hx) (by simp) rfl
    refine e0.trans (Ev.heap ?_ h3 h4 h5)
    rw [h2]; rfl

def callable (P : Program) (k : FuncId) : Bool :=
  match P.funcs[k]? with
  | some fn => fn.name != "runtime.NumGoroutine" && fn.body.isSome
  | none => false
/-- What an operation leaves is handed on. -/
def andK (x : Option (Value × AH)) (K : Value → AH → Prop) : Prop := match x with | some r => K r.1 r.2 | none => False
theorem andK_some {v : Value} {H : AH} {K : Value → AH → Prop} : andK (some (v, H)) K = K v H := rfl
theorem andK_spec {x : Option (Value × AH)} {K : Value → AH → Prop} (h : andK x K) : ∃ v H', x = some (v, H') ∧ K v H' := by
  cases x with
  | none => exact h.elim
  | some r => exact ⟨r.1, r.2, rfl, h⟩
/-- What a heavy operation (a store, an append, a copy, a call) comes to. -/
def aHeavy (P : Program) (ρ : Operand → Value) (H : AH) (op : Op) (K : Value → AH → Prop) : Prop :=
  match op with
  | .store t a x => andK ((astore P H t (ρ a) (ρ x)).map fun H' => (undef, H')) K
  | .convert s d x => match aconvInt P s d (ρ x) with
    | some v => K v H
    | none => andK ((amark P H s d (ρ x)).map fun v => (v, H)) K
  | .call c => match c.callee with
    | .builtin .append => match c.args.toList, c.argTypes.toList with
      | [s, x], [t, tx] => andK (aappend P H t tx (ρ s) (ρ x)) K
      | _, _ => False
    | .builtin .copy => match c.args.toList, c.argTypes.toList with
      | [s, x], [t, tx] => andK (acopy P H t tx (ρ s) (ρ x)) K
      | _, _ => False
    | .value f => match ρ f with
      | .func (.func k) first captured => callable P k = true ∧ ACalls P k (first ++ c.args.map ρ ++ captured) H K
      | _ => False
    | _ => False
  | _ => False

theorem VRA.append {φ : Phi} {a a' b b' : Array Value} (h : VRA φ a a') (k : VRA φ b b') : VRA φ (a ++ b) (a' ++ b') := by
  refine ⟨by simp [h.1, k.1], fun i h1 h2 => ?_⟩
  rw [Array.getElem_append, Array.getElem_append]
  by_cases hi : i < a.size
  · rw [dif_pos hi, dif_pos (by rw [← h.1]; exact hi)]; exact h.2 i _ _
  · rw [dif_neg hi, dif_neg (by rw [← h.1]; exact hi)]
    have := k.2 (i - a.size) (by simp at h1; omega) (by have := h.1; simp at h1 h2; omega)
    simpa only [h.1] using this

/-- The machine's word for a heavy operation. -/
theorem heavy_sound {P : Program} {φ : Phi} {ρ : Operand → Value} {H : AH} {W : World} {o : Oper} {a : Act} {K : Value → AH → Prop} {next : Act → World → Prop} {Q : Exit → Act → World → Prop} (hS : Sim φ H W)
    (hr : ∀ x ∈ o.op.operands, VR φ (ρ x) (a.eval x)) (h : aHeavy P ρ H o.op K)
    (hnext : ∀ v v' φ' H' W', VR φ' v v' → K v H' → Sim φ' H' W' → Ev φ H W φ' H' W' → next (a.put o.dst v') W') : o.wp P a W next Q := by
  obtain ⟨dst, op, ty, pos, after, guard⟩ := o
  cases op <;> simp only [aHeavy] at h
  case convert s d x =>
    unfold Oper.wp
    have hx := hr x (by simp [Op.operands])
    split at h
    · rename_i v hv
      obtain ⟨v', k1, k2⟩ := aconvInt_sound hv hx
      have : (execOp a.eval { dst := dst, op := .convert s d x, type := ty, pos := pos, after := after, guard := guard }).run P W = .ok (.value v') W := by simp [execOp, k2]
      rw [this]
      exact hnext v v' φ H W k1 h hS (Ev.refl _ _ _)
    · obtain ⟨v, H', h1, h2⟩ := andK_spec h
      simp only [Option.map_eq_some_iff] at h1
      obtain ⟨v0, h1, e⟩ := h1
      cases e
      obtain ⟨W', k1, k2, k3, k4⟩ := amark_sound hS h1 hx
      have : (execOp a.eval { dst := dst, op := .convert s d x, type := ty, pos := pos, after := after, guard := guard }).run P W = .ok (.value (a.eval x)) W' := by simp [execOp, k4]
      rw [this]
      exact hnext _ _ φ H W' k1 h2 k2 k3
  case store t x y =>
    obtain ⟨v, H', h1, h2⟩ := andK_spec h
    simp only [Option.map_eq_some_iff] at h1
    obtain ⟨H'', h1, e⟩ := h1
    cases e
    obtain ⟨W', k1, k2, k3⟩ := astore_sound hS h1 (hr x (by simp [Op.operands])) (hr y (by simp [Op.operands]))
    unfold Oper.wp
    have : (execOp a.eval { dst := dst, op := .store t x y, type := ty, pos := pos, after := after, guard := guard }).run P W = .ok .skip W' := by simp [execOp, k3]
    rw [this]
    exact hnext undef undef φ H' W' (.any _) h2 k1 k2
  case call c =>
    obtain ⟨callee, args, argTypes⟩ := c
    simp only at h
    split at h
    · split at h
      · rename_i s x t tx hx ht
        have hxa : args = #[s, x] := by apply Array.toList_inj.1; simpa using hx
        have hta : argTypes = #[t, tx] := by apply Array.toList_inj.1; simpa using ht
        subst hxa; subst hta
        obtain ⟨v, H', h1, h2⟩ := andK_spec h
        obtain ⟨φ', W', v', k1, k2, k3, k4⟩ := aappend_sound (ty := ty) hS h1 (hr s (by simp [Op.operands, Call.operands])) (hr x (by simp [Op.operands, Call.operands]))
        unfold Oper.wp
        have : (execOp a.eval { dst := dst, op := .call { callee := .builtin .append, args := #[s, x], argTypes := #[t, tx] }, type := ty, pos := pos, after := after, guard := guard }).run P W = .ok (.value v') W' := by
          simp [execOp, resolve, invoke, builtin, k4]
        rw [this]
        exact hnext v v' φ' H' W' k3 h2 k1 k2
      · exact h.elim
    · split at h
      · rename_i s x t tx hx ht
        have hxa : args = #[s, x] := by apply Array.toList_inj.1; simpa using hx
        have hta : argTypes = #[t, tx] := by apply Array.toList_inj.1; simpa using ht
        subst hxa; subst hta
        obtain ⟨v, H', h1, h2⟩ := andK_spec h
        obtain ⟨W', v', k1, k2, k3, k4⟩ := acopy_sound (ty := ty) hS h1 (hr s (by simp [Op.operands, Call.operands])) (hr x (by simp [Op.operands, Call.operands]))
        unfold Oper.wp
        have : (execOp a.eval { dst := dst, op := .call { callee := .builtin .copy, args := #[s, x], argTypes := #[t, tx] }, type := ty, pos := pos, after := after, guard := guard }).run P W = .ok (.value v') W' := by
          simp [execOp, resolve, invoke, builtin, k4]
        rw [this]
        exact hnext v v' φ H' W' k3 h2 k1 k2
      · exact h.elim
    · rename_i f
      have hf := hr f (by simp [Op.operands, Call.operands])
      split at h
      · rename_i k first captured hk
        rw [hk] at hf
        obtain ⟨hc, hcall⟩ := h
        generalize hq : a.eval f = q at hf
        cases hf with
        | func _ s1 s2 c1 c2 =>
          rename_i first' captured'
          have hargs : VRA φ (args.map ρ) (args.map a.eval) := VRA.map fun x hx => hr x (by simp [Op.operands, Call.operands, hx])
          have hall : VRA φ (first ++ args.map ρ ++ captured) (first' ++ args.map a.eval ++ captured') := (VRA.append ⟨s1, c1⟩ hargs).append ⟨s2, c2⟩
          unfold callable at hc
          split at hc
          · rename_i fn hfn
            simp only [Bool.and_eq_true, bne_iff_ne, ne_eq] at hc
            have hb : fn.body.isNone = false := by cases hbb : fn.body <;> simp_all
            unfold Oper.wp
            have : (execOp a.eval { dst := dst, op := .call { callee := .value f, args := args, argTypes := argTypes }, type := ty, pos := pos, after := after, guard := guard }).run P W = .ok (.enter k (first' ++ args.map a.eval ++ captured')) W := by
              simp [execOp, resolve, hq, Deferred.ofValue, invoke, callFunc, program, Sem.run, hfn, hc.1]
              intro hn; simp [hn] at hb
            rw [this]
            refine (hcall φ W _ hS hall).mono ?_
            rintro e W' ⟨v, v', H', φ', rfl, h2, h3, h4, h5⟩
            exact hnext v v' φ' H' W' h2 h3 h4 h5
          · cases hc
      · exact h.elim
    · exact h.elim
end Go.Proofs.Ytelpdppdhimfoaa
