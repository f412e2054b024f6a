/- Words of the proofs: all pure operations under one name, and their law. -/
import Derived.Test.YtelpdppdhimfoaaA5
namespace Go.Proofs.Ytelpdppdhimfoaa
open Go
set_option linter.unusedSimpArgs false
set_option linter.unusedVariables false

noncomputable def apure (P : Program) (ρ : Operand → Value) (op : Op) : Option Value :=
  match op with
  | .move x | .assign x => some (ρ x)
  | .pick c a b => match ρ c with | .bool t => some (if t then ρ a else ρ b) | _ => none
  | .build t parts => abuildV P t (parts.toList.map fun p => (p.1, ρ p.2))
  | .binOp op t x y _ => abinO P op t x y (ρ x) (ρ y)
  | .unOp op _ x => aunop op (ρ x)
  | .convert s d x => aconvInt P s d (ρ x)
  | .makeInterface t x => amakeIface P t (ρ x)
  | .makeFunc fn first cap => some (.func fn (first.map ρ) (cap.map ρ))
  | .fieldAddr s x f => afieldAddr P s (ρ x) f
  | .field t x f => afield P t (ρ x) f
  | .indexAddr t x i => aindexAddr P t (ρ x) (ρ i)
  | .index t x i => aindex P t (ρ x) (ρ i)
  | .slice t x lo hi none => aslice P t (ρ x) (lo.map ρ) (hi.map ρ)
  | .extract t i => aextract (ρ t) i
  | .nilCheck x => anilCheck (ρ x)
  | .typeAssert x _ t ok => atypeAssert P (ρ x) t ok
  | .call c => match c.callee with
    | .builtin .len => (match c.args.toList, c.argTypes.toList with
      | [x], [t] => alen P t (ρ x)
      | _, _ => none)
    | .builtin .min => aminmax false (c.args.toList.map ρ)
    | .builtin .max => aminmax true (c.args.toList.map ρ)
    | _ => none
  | _ => none

theorem VRA.map {φ : Phi} {ρ ρ' : Operand → Value} {l : Array Operand} (h : ∀ x ∈ l, VR φ (ρ x) (ρ' x)) : VRA φ (l.map ρ) (l.map ρ') := by
  refine ⟨by simp, fun i h1 h2 => ?_⟩
  simp only [Array.getElem_map]
  exact h _ (Array.getElem_mem _)

/-- THE LAW OF PURE OPERATIONS. -/
theorem apure_sound {P : Program} {φ : Phi} {ρ ρ' : Operand → Value} {o : Oper} {v : Value} (h : apure P ρ o.op = some v) (hr : ∀ x ∈ o.op.operands, VR φ (ρ x) (ρ' x)) :
    ∃ v', VR φ v v' ∧ ∀ W, (execOp ρ' o).run P W = .ok (.value v') W := by
  have lift : ∀ {s : Sem Value}, Pures P φ s v → (∀ W, (execOp ρ' o).run P W = ((s.run P W).andThen fun a w => .ok (.value a) w)) → ∃ v', VR φ v v' ∧ ∀ W, (execOp ρ' o).run P W = .ok (.value v') W := by
    rintro s ⟨v', h1, h2⟩ h3
    exact ⟨v', h1, fun W => by rw [h3, h2]; rfl⟩
  obtain ⟨dst, op, ty, pos, after, guard⟩ := o
  cases op <;> simp only [apure] at h <;> simp only [Op.operands] at hr
  case move x => cases h; exact ⟨ρ' x, hr x (by simp), fun W => rfl⟩
  case assign x => cases h; exact ⟨ρ' x, hr x (by simp), fun W => rfl⟩
  case pick c a b =>
    have hc := hr c (by simp)
    have ha := hr a (by simp)
    have hb := hr b (by simp)
    split at h
    · rename_i t ht
      rw [ht] at hc
      cases h
      refine ⟨if t then ρ' a else ρ' b, by cases t <;> simpa, fun W => ?_⟩
      generalize hq : ρ' c = q at hc
      cases hc
      simp [execOp, hq, asBool]
    · cases h
  case build t parts =>
    refine lift (abuild_sound h fun p hp => hr _ ?_) fun W => ?_
    · simp only [List.mem_toArray, List.mem_map]; exact ⟨p, hp, rfl⟩
    · simp only [execOp, Sem.run_bind]; rfl
  case binOp op t x y yt =>
    exact lift (abinO_sound h (hr x (by simp)) (hr y (by simp))) fun W => by simp only [execOp, Sem.run_bind]; rfl
  case unOp op t x => exact lift (aunop_sound h (hr x (by simp))) fun W => by simp only [execOp, Sem.run_bind]; rfl
  case convert s d x => exact lift (aconvInt_sound h (hr x (by simp))) fun W => by simp only [execOp, Sem.run_bind]; rfl
  case makeInterface t x => exact lift (amakeIface_sound h (hr x (by simp))) fun W => by simp only [execOp, Sem.run_bind]; rfl
  case makeFunc fn first cap =>
    cases h
    have h1 := VRA.map (φ := φ) (ρ := ρ) (ρ' := ρ') (l := first) fun x hx => hr x (by simp [hx])
    have h2 := VRA.map (φ := φ) (ρ := ρ) (ρ' := ρ') (l := cap) fun x hx => hr x (by simp [hx])
    exact ⟨.func fn (first.map ρ') (cap.map ρ'), .func fn h1.1 h2.1 h1.2 h2.2, fun W => rfl⟩
  case fieldAddr s x f => exact lift (afieldAddr_sound h (hr x (by simp))) fun W => by simp only [execOp, Sem.run_bind]; rfl
  case field s x f => exact lift (afield_sound h (hr x (by simp))) fun W => by simp only [execOp, Sem.run_bind]; rfl
  case indexAddr t x i => exact lift (aindexAddr_sound h (hr x (by simp)) (hr i (by simp))) fun W => by simp only [execOp, Sem.run_bind]; rfl
  case index t x i => exact lift (aindex_sound h (hr x (by simp)) (hr i (by simp))) fun W => by simp only [execOp, Sem.run_bind]; rfl
  case slice t x lo hi mx =>
    cases mx with
    | some m => simp at h
    | none =>
      refine lift (aslice_sound h (hr x (by simp)) ?_ ?_) fun W => by simp only [execOp, Sem.run_bind]; rfl
      · cases lo with
        | none => exact .none
        | some l => exact .some (hr l (by simp))
      · cases hi with
        | none => exact .none
        | some l => exact .some (hr l (by simp))
  case extract t i => exact lift (aextract_sound h (hr t (by simp))) fun W => by simp only [execOp, Sem.run_bind]; rfl
  case nilCheck x =>
    have hx := hr x (by simp)
    unfold anilCheck at h
    split at h
    · rename_i a ha
      rw [ha] at hx
      cases h
      generalize hq : ρ' x = q at hx
      cases hx with
      | ptr hg => exact ⟨_, .ptr hg, fun W => by simp [execOp, hq]⟩
    · cases h
  case typeAssert x xt t ok => exact lift (atypeAssert_sound h (hr x (by simp))) fun W => by simp only [execOp, Sem.run_bind]; rfl
  case call c =>
    obtain ⟨callee, args, argTypes⟩ := c
    simp only at h
    split at h
    · skip
      split at h
      · rename_i x t hx ht
        have hxa : args = #[x] := by apply Array.toList_inj.1; simpa using hx
        have hta : argTypes = #[t] := by apply Array.toList_inj.1; simpa using ht
        subst hxa; subst hta
        refine lift (alen_sound (ty := ty) h (hr x (by simp [Call.operands]))) fun W => ?_
        simp [execOp, resolve, invoke, builtin]
      · cases h
    · skip
      have := aminmax_sound (P := P) (ρ' := ρ') (ts := argTypes) (ty := ty) h fun x hx => hr x (by simp [Call.operands]; simpa using hx)
      rw [← Array.toList_map, Array.toArray_toList] at this
      refine lift this fun W => ?_
      simp [execOp, resolve, invoke, builtin]
    · skip
      have := aminmax_sound (P := P) (ρ' := ρ') (ts := argTypes) (ty := ty) h fun x hx => hr x (by simp [Call.operands]; simpa using hx)
      rw [← Array.toList_map, Array.toArray_toList] at this
      refine lift this fun W => ?_
      simp [execOp, resolve, invoke, builtin]
    · cases h
  all_goals cases h
end Go.Proofs.Ytelpdppdhimfoaa
