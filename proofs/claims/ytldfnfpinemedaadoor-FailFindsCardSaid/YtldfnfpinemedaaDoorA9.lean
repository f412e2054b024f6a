/- Words of the proofs: '==' of whole arrays and structs; all pure operations under one name, and their law. Words of the proofs: all pure operations under one name, and their law. Words of the proofs: how abstract and machine memory go on together: a block's cells are written, a block is given up, a block is bound anew. Words of the proofs: the operations that read memory, and those that make memory. Words of the proofs: the operations that write memory: stores, append, copy. -/
import Derived.Test.YtldfnfpinemedaaDoorA4
import Derived.DeepKeys
import Derived.Laws.IdiomCopy
import Derived.Laws.IdiomStrings

namespace Go.Proofs.YtldfnfpinemedaaDoor
open Go
set_option linter.unusedSimpArgs false
set_option linter.unusedVariables false

def scalarv (v : Value) : Bool := match v with | .bool _ | .int _ _ | .string _ => true | _ => false
theorem VR.scalar {φ : Phi} {v v' : Value} (h : VR φ v v') (hs : scalarv v = true) : v' = v := by
  cases h <;> first | rfl | cases hs
theorem VRA.scalar {φ : Phi} {cs cs' : Array Value} (h : VRA φ cs cs') (hs : cs.all scalarv = true) : cs' = cs := by
  refine Array.ext h.1.symm fun i h1 h2 => ?_
  exact (h.2 i h2 h1).scalar (Array.all_eq_true.1 hs i h2)

noncomputable def aeqAgg (P : Program) (T : TypeId) (xs ys : Array Value) : Option Bool :=
  if xs.all scalarv && ys.all scalarv && P.keyTypeAt 8 T && !P.eqGuardType P.depth T && (Value.agg xs).formed P T && (Value.agg ys).formed P T then
    match P.keyLits 8 T xs.toList, P.keyLits 8 T ys.toList with
    | some a, some b => some (@decide (a = b) (Classical.propDecidable _))
    | _, _ => none
  else none
theorem aeqAgg_sound {P : Program} {φ : Phi} {T : TypeId} {xs ys xs' ys' : Array Value} {b : Bool} (h : aeqAgg P T xs ys = some b) (hx : VRA φ xs xs') (hy : VRA φ ys ys') :
    (∀ W, (Op.equal T (.agg xs') (.agg ys')).run P W = .ok b W) ∧ P.eqGuardType P.depth T = false := by
  unfold aeqAgg at h
  split at h
  · rename_i hc
    simp only [Bool.and_eq_true, Bool.not_eq_true'] at hc
    obtain ⟨⟨⟨⟨⟨h1, h2⟩, h3⟩, h4⟩, h5⟩, h6⟩ := hc
    split at h
    · rename_i la lb ha hb
      cases h
      rw [hx.scalar h1, hy.scalar h2]
      refine ⟨fun W => ?_, h4⟩
      obtain ⟨r, hr, hiff⟩ := run_equalIn_deep (P := P) 9992 8 T h3 W 8 8 (.agg xs) (.agg ys) la lb h5 h6 ha hb
      have : r = @decide (la = lb) (Classical.propDecidable _) := by
        cases r
        · simp at hiff; simp [hiff]
        · simp at hiff; simp [hiff]
      subst this
      exact hr
    · cases h
  · cases h

/-- A binary operation of the text. -/
noncomputable def QI (P : Program) (op : BinOp) (t : TypeId) (x y : Operand) (u v : Value) : Option Value :=
  match u, v with
  | .agg xs, .agg ys => match op with
    | .eql => (aeqAgg P t xs ys).map .bool
    | .neq => (aeqAgg P t xs ys).map fun b => .bool !b
    | _ => none
  | .nilIface, .nilIface => match x, y, P.underlying t with
    | _, .const _, some (.interface _) => (match op with | .eql => some (.bool true) | .neq => some (.bool false) | _ => none)
    | .const _, _, some (.interface _) => (match op with | .eql => some (.bool true) | .neq => some (.bool false) | _ => none)
    | _, _, _ => none
  | _, _ => abin P op t u v
theorem nilIface_eq {P : Program} {t : TypeId} {ms : Array (String × TypeId)} (hu : P.underlying t = some (.interface ms)) (W : World) : (Op.equal t .nilIface .nilIface).run P W = .ok true W := by
  refine equal_of_in fun d => ?_
  simp only [Op.equalIn, Sem.run_bind, run_underlying hu, Result.andThen_ok]
  rfl
theorem boolT_spec {P : Program} {t : TypeId} (h : boolT P t = true) : P.underlying t = some .bool := by
  unfold boolT at h
  split at h
  · assumption
  · cases h
theorem abin_sound {P : Program} {φ : Phi} {op : BinOp} {t : TypeId} {x y : Operand} {u v u' v' r : Value} (h : abin P op t u v = some r) (hu : VR φ u u') (hv : VR φ v v') :
    Pures P φ (do eqGuard op t x y u' v'; binOp op t u' v') r := by
  unfold abin at h
  split at h
  · cases hu; cases hv
    have he : ∀ W, (binOp op t (.int ‹_› ‹_›) (.int ‹_› ‹_›)).run P W = .ok r W → True := fun _ _ => trivial
    have key : ∀ k a k' b, (match op with | .shl | .shr => ashift op k a b | _ => if k = k' then aint op k a b else none) = some r → (∀ W, (binOp op t (.int k a) (.int k' b)).run P W = .ok r W) ∧ VR φ r r := by
      intro k a k' b h
      split at h
      · refine ⟨fun W => ashift_sound h W, ?_⟩
        unfold ashift at h; split at h
        · cases h
        · simp at h; subst h; exact .int _ _
      · refine ⟨fun W => ashift_sound h W, ?_⟩
        unfold ashift at h; split at h
        · cases h
        · simp at h; subst h; exact .int _ _
      · rename_i h1 h2
        split at h
        · rename_i hk
          subst hk
          refine ⟨fun W => aint_sound h (fun e => h1 e) (fun e => h2 e) W, ?_⟩
          cases op <;> simp [aint] at h <;> first | (obtain ⟨_, rfl⟩ := h; exact .int _ _) | (subst h; first | exact .int _ _ | exact .bool _)
        · cases h
    obtain ⟨h1, h2⟩ := key _ _ _ _ h
    exact ⟨r, h2, fun W => by simp [eqGuard_at_int, h1]⟩
  · cases hu; cases hv
    refine ⟨r, ?_, fun W => by simp [eqGuard_at_string, astr_sound h]⟩
    cases op <;> simp [astr] at h <;> first | (obtain ⟨_, rfl⟩ := h; exact .string _) | (subst h; exact .bool _)
  · split at h
    · rename_i hb
      cases hu; cases hv
      have hbt := boolT_spec hb
      have he : ∀ (a b : Bool) W, (Op.equal t (.bool a) (.bool b)).run P W = .ok (a == b) W := fun a b W => equal_of_in fun d => run_equalIn_bool' W d t a b hbt
      cases op <;> simp at h <;> subst h
      · exact ⟨_, .bool _, fun W => by simp [eqGuard_at_bool, binOp, he]⟩
      · exact ⟨_, .bool _, fun W => by simp [eqGuard_at_bool, binOp, he]⟩
    · cases h
  · split at h
    · rename_i hn
      refine ⟨r, ?_, fun W => ?_⟩
      · cases op <;> simp only [Option.map_eq_some_iff, reduceCtorEq] at h <;> obtain ⟨b, _, rfl⟩ := h <;> exact .bool _
      · have hb := anil_sound hn h hu hv W
        have hg : eqGuard op t x y u' v' = pure () := by
          have hne : op = .eql ∨ op = .neq := by cases op <;> simp at h <;> simp
          have : ∃ b, anil u v = some b := by
            rcases hne with rfl | rfl
            · simp only [Option.map_eq_some_iff] at h; obtain ⟨b, hb, _⟩ := h; exact ⟨b, hb⟩
            · simp only [Option.map_eq_some_iff] at h; obtain ⟨b, hb, _⟩ := h; exact ⟨b, hb⟩
          obtain ⟨b, hb⟩ := this
          unfold anil at hb
          split at hb <;> first | cases hb | skip
          all_goals (cases hu <;> cases hv <;> simp [eqGuard_at_slice, eqGuard_at_pointer, eqGuard_nil_iface, eqGuard_at_iface])
        rw [hg]
        simpa using hb
    · cases h
theorem abinO_sound {P : Program} {φ : Phi} {op : BinOp} {t : TypeId} {x y : Operand} {u v u' v' r : Value} (h : QI P op t x y u v = some r) (hu : VR φ u u') (hv : VR φ v v') :
    Pures P φ (do eqGuard op t x y u' v'; binOp op t u' v') r := by
  unfold QI at h
  split at h
  · cases hu with
    | agg s1 c1 =>
      cases hv with
      | agg s2 c2 =>
        split at h
        · simp only [Option.map_eq_some_iff] at h
          obtain ⟨b, hb, rfl⟩ := h
          obtain ⟨h1, h2⟩ := aeqAgg_sound hb ⟨s1, c1⟩ ⟨s2, c2⟩
          refine ⟨_, .bool b, fun W => ?_⟩
          simp only [Sem.run_bind, run_eqGuard_agg W _ t x y _ _ h2, Result.andThen_ok, binOp, h1, Sem.run_pure]
        · simp only [Option.map_eq_some_iff] at h
          obtain ⟨b, hb, rfl⟩ := h
          obtain ⟨h1, h2⟩ := aeqAgg_sound hb ⟨s1, c1⟩ ⟨s2, c2⟩
          refine ⟨_, .bool _, fun W => ?_⟩
          simp only [Sem.run_bind, run_eqGuard_agg W _ t x y _ _ h2, Result.andThen_ok, binOp, h1, Sem.run_pure]
        · cases h
  · cases hu; cases hv
    split at h
    · rename_i hI
      have := nilIface_eq (P := P) hI
      split at h <;> cases h
      · exact ⟨_, .bool _, fun W => by rw [eqGuard_nil_constR]; simp [binOp, this]⟩
      · exact ⟨_, .bool _, fun W => by rw [eqGuard_nil_constR]; simp [binOp, this]⟩
    · rename_i hI
      have := nilIface_eq (P := P) hI
      split at h <;> cases h
      · exact ⟨_, .bool _, fun W => by rw [eqGuard_nil_constL]; simp [binOp, this]⟩
      · exact ⟨_, .bool _, fun W => by rw [eqGuard_nil_constL]; simp [binOp, this]⟩
    · cases h
  · exact abin_sound h hu hv
theorem atypeAssert_sound {P : Program} {φ : Phi} {x x' v : Value} {xt at_ : TypeId} {ok : Bool} (h : atypeAssert P x at_ ok = some v) (hx : VR φ x x') : Pures P φ (Instr.typeAssert x' xt at_ ok) v := by
  have hz : ∀ z : Value, (plainv z || (Qe z && z.cells.all plainv)) = true → VR φ z z := by
    intro z hz
    rw [Bool.or_eq_true, Bool.and_eq_true] at hz
    rcases hz with hz | ⟨hd, hz⟩
    · exact VR.plain hz
    · cases z with
      | agg cs => have := VRA.plain (φ := φ) hz; exact .agg this.1 this.2
      | tuple cs => cases hd
      | _ => first | exact VR.plain (by simpa [Value.cells] using hz) | skip
  have two : ∀ (a b c d : Value), VR φ a c → VR φ b d → VR φ (.tuple #[a, b]) (.tuple #[c, d]) := fun a b c d h1 h2 => .tuple rfl fun i hi hi' => by
    have : i = 0 ∨ i = 1 := by simp at hi; omega
    rcases this with rfl | rfl
    · exact h1
    · exact h2
  unfold atypeAssert at h
  split at h
  · cases h
  · rename_i d hd hu
    have fails : ∀ z, (match (P.info? at_).bind (·.zero) with | some z => if plainv z || (Qe z && z.cells.all plainv) then some (Value.tuple #[z, .bool false]) else none | none => none) = some z →
        ∃ u, z = .tuple #[u, .bool false] ∧ VR φ u u ∧ ∀ W, (zeroValue at_).run P W = .ok u W := by
      intro z h
      split at h
      · rename_i u hu2
        split at h
        · rename_i hp
          cases h
          refine ⟨u, rfl, hz u hp, fun W => ?_⟩
          cases hi : P.info? at_ with
          | none => simp [hi] at hu2
          | some i => simp [hi] at hu2; simp [zeroValue, typeInfo, hi, hu2]
        · cases h
      · cases h
    split at h
    · rename_i t u
      cases hx with
      | iface _ hv =>
        rename_i u'
        split at h
        · rename_i ht
          subst ht
          cases h
          cases ok
          · refine ⟨u', hv, fun W => ?_⟩
            simp only [Instr.typeAssert, Sem.run_bind, run_underlying hu, Result.andThen_ok]
            cases d <;> first | exact absurd rfl (hd _) | simp
          · refine ⟨.tuple #[u', .bool true], two _ _ _ _ hv (.bool _), fun W => ?_⟩
            simp only [Instr.typeAssert, Sem.run_bind, run_underlying hu, Result.andThen_ok]
            cases d <;> first | exact absurd rfl (hd _) | simp
        · rename_i ht
          split at h
          · rename_i hok
            subst hok
            obtain ⟨z, rfl, h1, h2⟩ := fails v h
            refine ⟨_, two _ _ _ _ h1 (.bool _), fun W => ?_⟩
            simp only [Instr.typeAssert, Sem.run_bind, run_underlying hu, Result.andThen_ok]
            cases d <;> first | exact absurd rfl (hd _) | simp [ht, h2]
          · cases h
    · cases hx
      split at h
      · rename_i hok
        subst hok
        obtain ⟨z, rfl, h1, h2⟩ := fails v h
        refine ⟨_, two _ _ _ _ h1 (.bool _), fun W => ?_⟩
        simp only [Instr.typeAssert, Sem.run_bind, run_underlying hu, Result.andThen_ok]
        cases d <;> first | exact absurd rfl (hd _) | simp [h2]
      · cases h
    · cases h
  · cases h

theorem amin2_sound {P : Program} {φ : Phi} {x y x' y' v : Value} (h : QD x y = some v) (hx : VR φ x x') (hy : VR φ y y') : VR φ v v ∧ ∀ W, (Builtin.min2 x' y').run P W = .ok v W := by
  unfold QD at h
  split at h
  · cases h; cases hx; cases hy; exact ⟨.int _ _, fun W => rfl⟩
  · cases h
theorem amax2_sound {P : Program} {φ : Phi} {x y x' y' v : Value} (h : QE x y = some v) (hx : VR φ x x') (hy : VR φ y y') : VR φ v v ∧ ∀ W, (Builtin.max2 x' y').run P W = .ok v W := by
  unfold QE at h
  split at h
  · cases h; cases hx; cases hy; exact ⟨.int _ _, fun W => rfl⟩
  · cases h
theorem aminmax_sound {P : Program} {φ : Phi} {l : List Operand} {ρ ρ' : Operand → Value} {ts : Array TypeId} {ty : TypeId} {v : Value} {mx : Bool} (h : Ql mx (l.map ρ) = some v) (hr : ∀ x ∈ l, VR φ (ρ x) (ρ' x)) :
    Pures P φ (if mx then Builtin.max_ ts ty (l.map ρ').toArray else Builtin.min_ ts ty (l.map ρ').toArray) v := by
  have step : ∀ a b c a' b', (if mx then QE a b else QD a b) = some c → VR φ a a' → VR φ b b' → VR φ c c ∧ ∀ W, (if mx then Builtin.max2 a' b' else Builtin.min2 a' b').run P W = .ok c W := by
    intro a b c a' b' h h1 h2
    cases mx
    · exact amin2_sound (by simpa using h) h1 h2
    · exact amax2_sound (by simpa using h) h1 h2
  match l, h, hr with
  | [], h, _ => simp [Ql] at h
  | [_], h, _ => simp [Ql] at h
  | [x, y], h, hr =>
    obtain ⟨h1, h2⟩ := step _ _ _ _ _ (by simpa [Ql] using h) (hr x (by simp)) (hr y (by simp))
    refine ⟨v, h1, fun W => ?_⟩
    have := h2 W
    cases mx <;> simpa [Builtin.max_, Builtin.min_] using this
  | [x, y, z], h, hr =>
    simp only [Ql, List.map_cons, List.map_nil, Option.bind_eq_some_iff] at h
    obtain ⟨u, hu1, hu2⟩ := h
    obtain ⟨h1, h2⟩ := step _ _ _ _ _ hu1 (hr x (by simp)) (hr y (by simp))
    obtain ⟨h3, h4⟩ := step _ _ _ _ _ hu2 h1 (hr z (by simp))
    refine ⟨v, h3, fun W => ?_⟩
    have k1 := h2 W
    have k2 := h4 W
    cases mx <;> simp only [Bool.false_eq_true, if_true, if_false] at k1 k2 <;> simp [Builtin.max_, Builtin.min_, k1, k2]
  | _ :: _ :: _ :: _ :: _, h, _ => simp [Ql] at h
end Go.Proofs.YtldfnfpinemedaaDoor

namespace Go.Proofs.YtldfnfpinemedaaDoor
open Go
set_option linter.unusedSimpArgs false
set_option linter.unusedVariables false

noncomputable def QC (P : Program) (ρ : Operand → Value) (op : Op) : Option Value :=
  match op with
  | .move x | .assign x => some (ρ x)
  | .pick c a b => match ρ c with | .bool t => some (if t then ρ a else ρ b) | _ => none
  | .build t parts => abuildV P t (parts.toList.map fun p => (p.1, ρ p.2))
  | .binOp op t x y _ => QI P op t x y (ρ x) (ρ y)
  | .unOp op _ x => QG op (ρ x)
  | .convert s d x => Qg P s d (ρ x)
  | .makeInterface t x => Qa P t (ρ x)
  | .makeFunc fn first cap => some (.func fn (first.map ρ) (cap.map ρ))
  | .fieldAddr s x f => Qc P s (ρ x) f
  | .field t x f => Qt P t (ρ x) f
  | .indexAddr t x i => Qb P t (ρ x) (ρ i)
  | .index t x i => Qs P t (ρ x) (ρ i)
  | .slice t x lo hi none => Qr P t (ρ x) (lo.map ρ) (hi.map ρ)
  | .slice t x (some lo) (some hi) (some mx) => aslice3 P t (ρ x) (ρ lo) (ρ hi) (ρ mx)
  | .extract t i => Qh (ρ t) i
  | .nilCheck x => Qd (ρ x)
  | .typeAssert x _ t ok => atypeAssert P (ρ x) t ok
  | .call c => match c.callee with
    | .builtin .len => (match c.args.toList, c.argTypes.toList with
      | [x], [t] => alen P t (ρ x)
      | _, _ => none)
    | .builtin .cap => (match c.args.toList, c.argTypes.toList with
      | [x], [t] => acap P t (ρ x)
      | _, _ => none)
    | .builtin .min => Ql false (c.args.toList.map ρ)
    | .builtin .max => Ql true (c.args.toList.map ρ)
    | _ => none
  | _ => none

theorem VRA.map {φ : Phi} {ρ ρ' : Operand → Value} {l : Array Operand} (h : ∀ x ∈ l, VR φ (ρ x) (ρ' x)) : VRA φ (l.map ρ) (l.map ρ') := by
  refine ⟨by simp, fun i h1 h2 => ?_⟩
  simp only [Array.getElem_map]
  exact h _ (Array.getElem_mem _)

/-- THE LAW OF PURE OPERATIONS. -/
theorem apure_sound {P : Program} {φ : Phi} {ρ ρ' : Operand → Value} {o : Oper} {v : Value} (h : QC P ρ o.op = some v) (hr : ∀ x ∈ o.op.operands, VR φ (ρ x) (ρ' x)) :
    ∃ v', VR φ v v' ∧ ∀ W, (execOp ρ' o).run P W = .ok (.value v') W := by
  have lift : ∀ {s : Sem Value}, Pures P φ s v → (∀ W, (execOp ρ' o).run P W = ((s.run P W).andThen fun a w => .ok (.value a) w)) → ∃ v', VR φ v v' ∧ ∀ W, (execOp ρ' o).run P W = .ok (.value v') W := by
    rintro s ⟨v', h1, h2⟩ h3
    exact ⟨v', h1, fun W => by rw [h3, h2]; rfl⟩
  obtain ⟨dst, op, ty, pos, after, guard⟩ := o
  cases op <;> simp only [QC] at h <;> simp only [Op.operands] at hr
  case move x => cases h; exact ⟨ρ' x, hr x (by simp), fun W => rfl⟩
  case assign x => cases h; exact ⟨ρ' x, hr x (by simp), fun W => rfl⟩
  case pick c a b =>
    have hc := hr c (by simp)
    have ha := hr a (by simp)
    have hb := hr b (by simp)
    split at h
    · rename_i t ht
      rw [ht] at hc
      cases h
      refine ⟨if t then ρ' a else ρ' b, by cases t <;> simpa, fun W => ?_⟩
      generalize hq : ρ' c = q at hc
      cases hc
      simp [execOp, hq, asBool]
    · cases h
  case build t parts =>
    refine lift (abuild_sound h fun p hp => hr _ ?_) fun W => ?_
    · simp only [List.mem_toArray, List.mem_map]; exact ⟨p, hp, rfl⟩
    · simp only [execOp, Sem.run_bind]; rfl
  case binOp op t x y yt =>
    exact lift (abinO_sound h (hr x (by simp)) (hr y (by simp))) fun W => by simp only [execOp, Sem.run_bind]; rfl
  case unOp op t x => exact lift (aunop_sound h (hr x (by simp))) fun W => by simp only [execOp, Sem.run_bind]; rfl
  case convert s d x => exact lift (aconvInt_sound h (hr x (by simp))) fun W => by simp only [execOp, Sem.run_bind]; rfl
  case makeInterface t x => exact lift (amakeIface_sound h (hr x (by simp))) fun W => by simp only [execOp, Sem.run_bind]; rfl
  case makeFunc fn first cap =>
    cases h
    have h1 := VRA.map (φ := φ) (ρ := ρ) (ρ' := ρ') (l := first) fun x hx => hr x (by simp [hx])
    have h2 := VRA.map (φ := φ) (ρ := ρ) (ρ' := ρ') (l := cap) fun x hx => hr x (by simp [hx])
    exact ⟨.func fn (first.map ρ') (cap.map ρ'), .func fn h1.1 h2.1 h1.2 h2.2, fun W => rfl⟩
  case fieldAddr s x f => exact lift (afieldAddr_sound h (hr x (by simp))) fun W => by simp only [execOp, Sem.run_bind]; rfl
  case field s x f => exact lift (afield_sound h (hr x (by simp))) fun W => by simp only [execOp, Sem.run_bind]; rfl
  case indexAddr t x i => exact lift (aindexAddr_sound h (hr x (by simp)) (hr i (by simp))) fun W => by simp only [execOp, Sem.run_bind]; rfl
  case index t x i => exact lift (aindex_sound h (hr x (by simp)) (hr i (by simp))) fun W => by simp only [execOp, Sem.run_bind]; rfl
  case slice t x lo hi mx =>
    cases mx with
    | some m =>
      cases lo with
      | none => simp at h
      | some lo =>
        cases hi with
        | none => simp at h
        | some hi => exact lift (aslice3_sound h (hr x (by simp)) (hr lo (by simp)) (hr hi (by simp)) (hr m (by simp))) fun W => by simp only [execOp, Sem.run_bind]; rfl
    | none =>
      refine lift (aslice_sound h (hr x (by simp)) ?_ ?_) fun W => by simp only [execOp, Sem.run_bind]; rfl
      · cases lo with
        | none => exact .none
        | some l => exact .some (hr l (by simp))
      · cases hi with
        | none => exact .none
        | some l => exact .some (hr l (by simp))
  case extract t i => exact lift (aextract_sound h (hr t (by simp))) fun W => by simp only [execOp, Sem.run_bind]; rfl
  case nilCheck x =>
    have hx := hr x (by simp)
    unfold Qd at h
    split at h
    · rename_i a ha
      rw [ha] at hx
      cases h
      generalize hq : ρ' x = q at hx
      cases hx with
      | ptr hg => exact ⟨_, .ptr hg, fun W => by simp [execOp, hq]⟩
    · cases h
  case typeAssert x xt t ok => exact lift (atypeAssert_sound h (hr x (by simp))) fun W => by simp only [execOp, Sem.run_bind]; rfl
  case call c =>
    obtain ⟨callee, args, argTypes⟩ := c
    simp only at h
    split at h
    · skip
      split at h
      · rename_i x t hx ht
        have hxa : args = #[x] := by apply Array.toList_inj.1; simpa using hx
        have hta : argTypes = #[t] := by apply Array.toList_inj.1; simpa using ht
        subst hxa; subst hta
        refine lift (alen_sound (ty := ty) h (hr x (by simp [Call.operands]))) fun W => ?_
        simp [execOp, resolve, invoke, builtin]
      · cases h
    · skip
      split at h
      · rename_i x t hx ht
        have hxa : args = #[x] := by apply Array.toList_inj.1; simpa using hx
        have hta : argTypes = #[t] := by apply Array.toList_inj.1; simpa using ht
        subst hxa; subst hta
        refine lift (acap_sound (ty := ty) h (hr x (by simp [Call.operands]))) fun W => ?_
        simp [execOp, resolve, invoke, builtin]
      · cases h
    · skip
      have := aminmax_sound (P := P) (ρ' := ρ') (ts := argTypes) (ty := ty) h fun x hx => hr x (by simp [Call.operands]; simpa using hx)
      rw [← Array.toList_map, Array.toArray_toList] at this
      refine lift this fun W => ?_
      simp [execOp, resolve, invoke, builtin]
    · skip
      have := aminmax_sound (P := P) (ρ' := ρ') (ts := argTypes) (ty := ty) h fun x hx => hr x (by simp [Call.operands]; simpa using hx)
      rw [← Array.toList_map, Array.toArray_toList] at this
      refine lift this fun W => ?_
      simp [execOp, resolve, invoke, builtin]
    · cases h
  all_goals cases h
end Go.Proofs.YtldfnfpinemedaaDoor

namespace Go.Proofs.YtldfnfpinemedaaDoor
open Go
set_option linter.unusedSimpArgs false
set_option linter.unusedVariables false

def AH.cells (H : AH) (g : Nat) : Option (List Value) :=
  match H[g]? with
  | some (.own cs) | some (.ro cs) => some cs
  | _ => none
theorem AH.cells_own {H : AH} {g : Nat} {cs : List Value} (h : H[g]? = some (.own cs)) : H.cells g = some cs := by simp [AH.cells, h]
theorem AH.cells_ro {H : AH} {g : Nat} {cs : List Value} (h : H[g]? = some (.ro cs)) : H.cells g = some cs := by simp [AH.cells, h]
theorem AH.cells_cases {H : AH} {g : Nat} {cs : List Value} (h : H.cells g = some cs) : H[g]? = some (.own cs) ∨ H[g]? = some (.ro cs) := by
  unfold AH.cells at h
  split at h
  · cases h; left; assumption
  · cases h; right; assumption
  · cases h

theorem Sim.cell {φ : Phi} {H : AH} {W : World} (h : Sim φ H W) {g : Nat} {cs : List Value} {bi : BI} (hg : H.cells g = some cs) (hφ : φ g = some bi) {i : Nat} {v : Value} (hv : cs[i]? = some v) :
    ∃ v', W.cell? ⟨bi.blk, bi.off + i, none⟩ = some v' ∧ VR φ v v' := by
  rcases AH.cells_cases hg with hg | hg
  · obtain ⟨C, ty, fr, h1, _, _, _, h5⟩ := h.own g cs bi hg hφ
    obtain ⟨v', e1, e2⟩ := h5 i v hv
    exact ⟨v', by simp [World.cell?, h1, e1], e2⟩
  · obtain ⟨C, ty, fr, h1, h5⟩ := h.ro g cs bi hg hφ
    obtain ⟨v', e1, e2⟩ := h5 i v hv
    exact ⟨v', by simp [World.cell?, h1, e1], e2⟩

theorem list_choice {p : Nat → Value → Value → Prop} : ∀ (l : List Value), (∀ i v, l[i]? = some v → ∃ v', p i v v') → ∃ l' : List Value, l'.length = l.length ∧ ∀ i v v', l[i]? = some v → l'[i]? = some v' → p i v v' := by
  intro l
  induction l generalizing p with
  | nil => intro _; exact ⟨[], rfl, fun i v v' h => by simp at h⟩
  | cons x l ih =>
    intro h
    obtain ⟨x', hx⟩ := h 0 x rfl
    obtain ⟨l', h1, h2⟩ := ih (p := fun i => p (i + 1)) (fun i v hv => h (i + 1) v (by simpa using hv))
    refine ⟨x' :: l', by simp [h1], fun i v v' hv hv' => ?_⟩
    cases i with
    | zero => simp at hv hv'; subst hv; subst hv'; exact hx
    | succ i => exact h2 i v v' (by simpa using hv) (by simpa using hv')

/-- A run of cells as it is read. -/
theorem Sim.range {φ : Phi} {H : AH} {W : World} (h : Sim φ H W) {g : Nat} {cs : List Value} {bi : BI} (hg : H.cells g = some cs) (hφ : φ g = some bi) (o n : Nat) :
    ∃ vs' : List Value, VRL φ ((cs.drop o).take n) vs' ∧ ∀ (j : Nat) (v : Value), vs'[j]? = some v → W.cell? ((⟨bi.blk, bi.off + o, none⟩ : Addr).add j) = some v := by
  obtain ⟨l', h1, h2⟩ := list_choice (p := fun i v v' => W.cell? ⟨bi.blk, bi.off + (o + i), none⟩ = some v' ∧ VR φ v v') ((cs.drop o).take n) (fun i v hv => by
    rw [List.getElem?_take] at hv
    split at hv
    · rw [List.getElem?_drop] at hv; exact h.cell hg hφ hv
    · cases hv)
  refine ⟨l', ⟨h1.symm, fun i v v' hv hv' => (h2 i v v' hv hv').2⟩, fun j v hv => ?_⟩
  have hlt : j < ((cs.drop o).take n).length := by have := (List.getElem?_eq_some_iff.1 hv).1; omega
  rw [addr_add, Nat.add_assoc]
  exact (h2 j _ v (List.getElem?_eq_getElem hlt) hv).1

theorem setCells_other (b : Nat) : ∀ (vs : List Value) (o : Nat) (W : World) (k : Nat), k ≠ b → (W.setCells b o vs).heap[k]? = W.heap[k]?
  | [], _, _, _, _ => rfl
  | v :: r, o, W, k, hk => by
    rw [World.setCells, setCells_other b r _ _ k hk]
    exact heap_setCell_other W _ k _ hk
theorem setCells_meta (b : Nat) : ∀ (vs : List Value) (o : Nat) (W : World), (W.setCells b o vs).os = W.os ∧ (W.setCells b o vs).tape = W.tape ∧ (W.setCells b o vs).output = W.output ∧ (W.setCells b o vs).heap.size = W.heap.size
  | [], _, _ => ⟨rfl, rfl, rfl, rfl⟩
  | v :: r, o, W => by
    obtain ⟨h1, h2, h3, h4⟩ := setCells_meta b r (o + 1) (W.setCell ⟨b, o, none⟩ v)
    rw [World.setCells]
    exact ⟨h1, h2, h3, by rw [h4]; simp [World.setCell]⟩
theorem setCells_heap (b : Nat) : ∀ (vs : List Value) (o : Nat) (W : World) (C : Array Value) (ty : TypeId) (fr : Nat × Nat), W.heap[b]? = some (.cells C ty fr) → o + vs.length ≤ C.size →
    ∃ C' : Array Value, (W.setCells b o vs).heap[b]? = some (.cells C' ty fr) ∧ C'.size = C.size ∧ (∀ j, (j < o ∨ o + vs.length ≤ j) → C'[j]? = C[j]?) ∧ (∀ (j : Nat) (v : Value), vs[j]? = some v → C'[o + j]? = some v)
  | [], o, W, C, ty, fr, h, _ => ⟨C, h, rfl, fun _ _ => rfl, fun j v hv => by simp at hv⟩
  | x :: r, o, W, C, ty, fr, h, hl => by
    have h1 : (W.setCell ⟨b, o, none⟩ x).heap[b]? = some (.cells (C.setIfInBounds o x) ty fr) := by
      rw [setCell_eq_setRow W b o C ty fr x h]
      exact setRow_heap W b C _ ty fr h
    simp only [List.length_cons] at hl
    obtain ⟨C', e1, e2, e3, e4⟩ := setCells_heap b r (o + 1) _ _ ty fr h1 (by simp; omega)
    refine ⟨C', by rw [World.setCells]; exact e1, by simpa using e2, fun j hj => ?_, fun j v hv => ?_⟩
    · simp only [List.length_cons] at hj
      rw [e3 j (by omega), Array.getElem?_setIfInBounds_ne (by omega)]
    · cases j with
      | zero =>
        simp at hv
        subst hv
        rw [Nat.add_zero, e3 o (by omega), Array.getElem?_setIfInBounds_self_of_lt (by omega)]
      | succ j =>
        rw [show o + (j + 1) = o + 1 + j by omega]
        exact e4 j v (by simpa using hv)

theorem own_lt {H : AH} {g : Nat} {b : ABlk} (h : H[g]? = some b) : g < H.length := (List.getElem?_eq_some_iff.1 h).1
theorem set_get {H : AH} {g x : Nat} {b c : ABlk} (h : (H.set g b)[x]? = some c) (hg : g < H.length) : (x = g ∧ c = b) ∨ (x ≠ g ∧ H[x]? = some c) := by
  by_cases e : x = g
  · subst e
    rw [List.getElem?_set_self hg] at h
    cases h
    exact .inl ⟨rfl, rfl⟩
  · rw [List.getElem?_set_ne (fun he => e he.symm)] at h
    exact .inr ⟨e, h⟩

/-- A block that is mine is written. -/
theorem Sim.upmine {φ : Phi} {H : AH} {W W' : World} (h : Sim φ H W) {g : Nat} {c0 c1 : ABlk} {bi : BI} (hg : H[g]? = some c0) (hm0 : c0.mine) (hm1 : c1.mine) (hφ : φ g = some bi) (hsz : W'.heap.size = W.heap.size)
    (hoth : ∀ b, b ≠ bi.blk → W'.heap[b]? = W.heap[b]?)
    (hblk : ∀ cs', c1 = .own cs' → ∃ (C : Array Value) (ty : TypeId) (fr : Nat × Nat), W'.heap[bi.blk]? = some (.cells C ty fr) ∧ C.size = bi.room ∧ (fr.1 = fr.2 ∨ bi.mrk = true ∧ C.size ≤ fr.1) ∧ bi.off + cs'.length ≤ C.size ∧ ∀ i v, cs'[i]? = some v → ∃ v', C[bi.off + i]? = some v' ∧ VR φ v v')
    (hmap : ∀ es, c1 = .map es → ∃ (E : Array MapEntry) (clock : Nat), W'.heap[bi.blk]? = some (.map E clock) ∧ MapOk E clock es.length ∧ ∀ (i : Nat) k v, es[i]? = some (k, v) → ∃ e, E[i]? = some e ∧ VR φ k e.key ∧ VR φ v e.val)
    (hodd : ∀ mm b p, c1 = .oddm mm b p → ∃ o, bi.blk = b ∧ W'.heap[b]? = some o ∧ (mm = true → Odd o) ∧ ∀ φ' : Phi, (∀ g bi, φ g = some bi → φ' g = some bi) → p φ' o) :
    Sim φ (H.set g c1) W' := by
  have hlt := own_lt hg
  refine ⟨fun x b hx => ⟨by simpa using (h.dom x b hx).1, by rw [hsz]; exact (h.dom x b hx).2⟩, fun x c b h1 h2 => ?_, fun x c b h1 h2 => ?_, fun x c b h1 h2 => ?_, fun x mm b p h1 => ?_, fun x y c b b' h1 hm h2 h3 h4 h5 => ?_⟩
  · rcases set_get h1 hlt with ⟨rfl, e⟩ | ⟨hne, h1⟩
    · rw [hφ] at h2; cases h2
      exact hblk _ e.symm
    · have hb : b.blk ≠ bi.blk := (h.sep g x c0 bi b hg hm0 hφ hne h2 (by rw [h1]; simp)).symm
      obtain ⟨C, ty, fr, e1, e2⟩ := h.own x c b h1 h2
      exact ⟨C, ty, fr, by rw [hoth _ hb]; exact e1, e2⟩
  · rcases set_get h1 hlt with ⟨rfl, e⟩ | ⟨hne, h1⟩
    · exact absurd (e ▸ hm1) ABlk.mine_ro
    · have hb : b.blk ≠ bi.blk := (h.sep g x c0 bi b hg hm0 hφ hne h2 (by rw [h1]; simp)).symm
      obtain ⟨C, ty, fr, e1, e2⟩ := h.ro x c b h1 h2
      exact ⟨C, ty, fr, by rw [hoth _ hb]; exact e1, e2⟩
  · rcases set_get h1 hlt with ⟨rfl, e⟩ | ⟨hne, h1⟩
    · rw [hφ] at h2; cases h2
      exact hmap _ e.symm
    · have hb : b.blk ≠ bi.blk := (h.sep g x c0 bi b hg hm0 hφ hne h2 (by rw [h1]; simp)).symm
      obtain ⟨E, cl, e1, e2⟩ := h.map x c b h1 h2
      exact ⟨E, cl, by rw [hoth _ hb]; exact e1, e2⟩
  · rcases set_get h1 hlt with ⟨rfl, e⟩ | ⟨hne, h1⟩
    · obtain ⟨o, d2, d3, d4, d5⟩ := hodd mm b p e.symm
      exact ⟨bi, o, hφ, d2, d3, d4, d5⟩
    · obtain ⟨b0, o, d1, d2, d3, d4, d5⟩ := h.oddm x mm b p h1
      have hb : b0.blk ≠ bi.blk := (h.sep g x c0 bi b0 hg hm0 hφ hne d1 (by rw [h1]; simp)).symm
      exact ⟨b0, o, d1, d2, by rw [hoth _ (by rw [← d2]; exact hb)]; exact d3, d4, d5⟩
  · have h5' : H[y]? ≠ some .dead := fun e => by
      by_cases hyg : y = g
      · subst hyg; rw [hg] at e; cases e; exact ABlk.mine_dead hm0
      · rw [List.getElem?_set_ne (fun he => hyg he.symm)] at h5; exact h5 e
    rcases set_get h1 hlt with ⟨rfl, e⟩ | ⟨hne, h1⟩
    · exact h.sep x y c0 b b' hg hm0 h2 h3 h4 h5'
    · exact h.sep x y c b b' h1 hm h2 h3 h4 h5'
/-- The cells of an owned block are written. -/
theorem Sim.update {φ : Phi} {H : AH} {W W' : World} (h : Sim φ H W) {g : Nat} {cs cs' : List Value} {bi : BI} (hg : H[g]? = some (.own cs)) (hφ : φ g = some bi) (hsz : W'.heap.size = W.heap.size)
    (hoth : ∀ b, b ≠ bi.blk → W'.heap[b]? = W.heap[b]?)
    (hblk : ∃ (C : Array Value) (ty : TypeId) (fr : Nat × Nat), W'.heap[bi.blk]? = some (.cells C ty fr) ∧ C.size = bi.room ∧ (fr.1 = fr.2 ∨ bi.mrk = true ∧ C.size ≤ fr.1) ∧ bi.off + cs'.length ≤ C.size ∧ ∀ i v, cs'[i]? = some v → ∃ v', C[bi.off + i]? = some v' ∧ VR φ v v') :
    Sim φ (H.set g (.own cs')) W' :=
  h.upmine hg ABlk.mine_own ABlk.mine_own hφ hsz hoth (fun _ e => by cases e; exact hblk) (fun _ e => by cases e) (fun _ _ _ e => by cases e)
theorem Ev.upmine {φ : Phi} {H : AH} {W W' : World} {g : Nat} {c0 : ABlk} {bi : BI} {b : ABlk} (hg : H[g]? = some c0) (hm0 : c0.mine) (hφ : φ g = some bi) (hsz : W'.heap.size = W.heap.size)
    (hoth : ∀ b, b ≠ bi.blk → W'.heap[b]? = W.heap[b]?) (h1 : W'.os = W.os) (h2 : W'.tape = W.tape) (h3 : W'.output = W.output) : Ev φ H W φ (H.set g b) W' := by
  have hlt := own_lt hg
  refine ⟨h1, h2, h3, by omega, by simp, fun _ _ => rfl, fun x hx hn => ?_, fun k hk hown => hoth k (fun e => hown g c0 bi hg hm0 hφ e.symm), fun x c b' e1 em e2 e3 => ?_⟩
  · rw [List.getElem?_set_ne]
    rintro rfl
    rw [hφ] at hn; cases hn
  · rcases set_get e1 hlt with ⟨rfl, _⟩ | ⟨_, e1⟩
    · exact ⟨x, c0, b', hg, hm0, e2, rfl⟩
    · exact ⟨x, c, b', e1, em, e2, rfl⟩
theorem Ev.update {φ : Phi} {H : AH} {W W' : World} {g : Nat} {cs : List Value} {bi : BI} {b : ABlk} (hg : H[g]? = some (.own cs)) (hφ : φ g = some bi) (hsz : W'.heap.size = W.heap.size)
    (hoth : ∀ b, b ≠ bi.blk → W'.heap[b]? = W.heap[b]?) (h1 : W'.os = W.os) (h2 : W'.tape = W.tape) (h3 : W'.output = W.output) : Ev φ H W φ (H.set g b) W' :=
  Ev.upmine hg ABlk.mine_own hφ hsz hoth h1 h2 h3
/-- A block is given up. -/
theorem Sim.kill {φ : Phi} {H : AH} {W : World} (h : Sim φ H W) (g : Nat) (hlt : g < H.length) : Sim φ (H.set g .dead) W := by
  refine ⟨fun x b hx => ⟨by simpa using (h.dom x b hx).1, (h.dom x b hx).2⟩, fun x c b h1 h2 => ?_, fun x c b h1 h2 => ?_, fun x c b h1 h2 => ?_, fun x mm b p h1 => ?_, fun x y c b b' h1 hm h2 h3 h4 h5 => ?_⟩
  · rcases set_get h1 hlt with ⟨rfl, e⟩ | ⟨hne, h1⟩
    · cases e
    · exact h.own x c b h1 h2
  · rcases set_get h1 hlt with ⟨rfl, e⟩ | ⟨hne, h1⟩
    · cases e
    · exact h.ro x c b h1 h2
  · rcases set_get h1 hlt with ⟨rfl, e⟩ | ⟨hne, h1⟩
    · cases e
    · exact h.map x c b h1 h2
  · rcases set_get h1 hlt with ⟨rfl, e⟩ | ⟨hne, h1⟩
    · cases e
    · exact h.oddm x mm b p h1
  · rcases set_get h1 hlt with ⟨rfl, e⟩ | ⟨hne, h1⟩
    · exact absurd (e ▸ hm) ABlk.mine_dead
    · refine h.sep x y c b b' h1 hm h2 h3 h4 fun e => h5 ?_
      by_cases hyg : y = g
      · subst hyg; exact List.getElem?_set_self hlt
      · rw [List.getElem?_set_ne (fun he => hyg he.symm)]; exact e
/-- A new abstract block takes over a block of the machine that nobody owns any more. -/
theorem Sim.rebind {φ : Phi} {H : AH} {W W' : World} (h : Sim φ H W) {g b off room : Nat} {mk : Bool} {cs' : List Value} (hg : H[g]? = some (.own cs')) (hφ : φ g = none) (hb : b < W.heap.size)
    (hfree : ∀ x bi, φ x = some bi → H[x]? ≠ some .dead → bi.blk ≠ b) (hsz : W'.heap.size = W.heap.size) (hoth : ∀ k, k ≠ b → W'.heap[k]? = W.heap[k]?)
    (hblk : ∃ (C : Array Value) (ty : TypeId) (fr : Nat × Nat), W'.heap[b]? = some (.cells C ty fr) ∧ C.size = room ∧ (fr.1 = fr.2 ∨ mk = true ∧ C.size ≤ fr.1) ∧ off + cs'.length ≤ C.size ∧ ∀ i v, cs'[i]? = some v → ∃ v', C[off + i]? = some v' ∧ VR φ v v') :
    Sim (φ.upd g ⟨b, off, room, mk⟩) H W' := by
  have hle := Phi.upd_le (bi := ⟨b, off, room, mk⟩) hφ
  refine ⟨fun x bi hx => ?_, fun x c bi h1 hx => ?_, fun x c bi h1 hx => ?_, fun x c bi h1 hx => ?_, fun x mm b' p h1 => ?_, fun x y c bi bi' h1 hm hx hne hy h5 => ?_⟩
  · by_cases e : x = g
    · subst e
      rw [Phi.upd_self] at hx; cases hx
      exact ⟨own_lt hg, by rw [hsz]; exact hb⟩
    · rw [Phi.upd_ne e] at hx
      exact ⟨(h.dom x bi hx).1, by rw [hsz]; exact (h.dom x bi hx).2⟩
  · by_cases e : x = g
    · subst e
      rw [Phi.upd_self] at hx; cases hx
      rw [hg] at h1; cases h1
      obtain ⟨C, ty, fr, e1, e2, e3, e4, e5⟩ := hblk
      refine ⟨C, ty, fr, e1, e2, e3, e4, fun i v hv => ?_⟩
      obtain ⟨v', d1, d2⟩ := e5 i v hv
      exact ⟨v', d1, d2.mono hle⟩
    · rw [Phi.upd_ne e] at hx
      obtain ⟨C, ty, fr, d1, d2, d3, d4, d5⟩ := h.own x c bi h1 hx
      refine ⟨C, ty, fr, by rw [hoth _ (hfree x bi hx (by rw [h1]; simp))]; exact d1, d2, d3, d4, fun i v hv => ?_⟩
      obtain ⟨v', e1, e2⟩ := d5 i v hv
      exact ⟨v', e1, e2.mono hle⟩
  · have e : x ≠ g := by rintro rfl; rw [hg] at h1; cases h1
    rw [Phi.upd_ne e] at hx
    obtain ⟨C, ty, fr, d1, d5⟩ := h.ro x c bi h1 hx
    refine ⟨C, ty, fr, by rw [hoth _ (hfree x bi hx (by rw [h1]; simp))]; exact d1, fun i v hv => ?_⟩
    obtain ⟨v', e1, e2⟩ := d5 i v hv
    exact ⟨v', e1, e2.mono hle⟩
  · have e : x ≠ g := by rintro rfl; rw [hg] at h1; cases h1
    rw [Phi.upd_ne e] at hx
    obtain ⟨E, cl, d1, d2, d5⟩ := h.map x c bi h1 hx
    refine ⟨E, cl, by rw [hoth _ (hfree x bi hx (by rw [h1]; simp))]; exact d1, d2, fun i k v hv => ?_⟩
    obtain ⟨v', e1, e2, e3⟩ := d5 i k v hv
    exact ⟨v', e1, e2.mono hle, e3.mono hle⟩
  · have e : x ≠ g := by rintro rfl; rw [hg] at h1; cases h1
    obtain ⟨b0, o, d1, d2, d3, d4, d5⟩ := h.oddm x mm b' p h1
    exact ⟨b0, o, by rw [Phi.upd_ne e]; exact d1, d2, by rw [hoth _ (by rw [← d2]; exact hfree x b0 d1 (by rw [h1]; simp))]; exact d3, d4, fun φ' hφ' => d5 φ' fun y b' hy => hφ' y b' (hle y b' hy)⟩
  · by_cases e : x = g
    · subst e
      rw [Phi.upd_self] at hx; cases hx
      rw [Phi.upd_ne hne] at hy
      exact (hfree y bi' hy h5).symm
    · rw [Phi.upd_ne e] at hx
      by_cases e' : y = g
      · subst e'
        rw [Phi.upd_self] at hy; cases hy
        exact hfree x bi hx (by rw [h1]; intro e; cases e; exact ABlk.mine_dead hm)
      · rw [Phi.upd_ne e'] at hy
        exact h.sep x y c bi bi' h1 hm hx hne hy h5
end Go.Proofs.YtldfnfpinemedaaDoor

namespace Go.Proofs.YtldfnfpinemedaaDoor
open Go
set_option linter.unusedSimpArgs false
set_option linter.unusedVariables false

def bytesOf : List Value → Option (List UInt8)
  | [] => some []
  | .int .u8 n :: r => if 0 ≤ n ∧ n < 256 then (bytesOf r).map (UInt8.ofNat n.toNat :: ·) else none
  | _ :: _ => none
def QN (P : Program) (t : TypeId) : Bool :=
  match P.underlying t with
  | some (.slice e) => (match P.underlying e with | some (.int .u8) => true | _ => false)
  | _ => false
theorem byteSliceT_spec {P : Program} {t : TypeId} (h : QN P t = true) : ∃ e, P.underlying t = some (.slice e) ∧ P.underlying e = some (.int .u8) := by
  unfold QN at h
  split at h
  · rename_i e hu
    split at h
    · exact ⟨e, hu, by assumption⟩
    · cases h
  · cases h
theorem bytesOf_spec {φ : Phi} : ∀ (l l' : List Value) (bs : List UInt8), bytesOf l = some bs → VRL φ l l' → l' = bs.map fun b => Value.int .u8 (b.toNat : Int)
  | [], l', bs, h, hv => by
    cases h
    have := hv.1
    simp at this
    simp [List.eq_nil_of_length_eq_zero this.symm]
  | x :: r, [], bs, h, hv => by have := hv.1; simp at this
  | x :: r, x' :: r', bs, h, hv => by
    unfold bytesOf at h
    split at h
    · rename_i e; cases e
    · rename_i n r2 e
      obtain ⟨rfl, rfl⟩ := List.cons.inj e
      split at h
      · rename_i hb
        simp only [Option.map_eq_some_iff] at h
        obtain ⟨bs', hb', rfl⟩ := h
        have h0 := hv.2 0 _ _ rfl rfl
        cases h0
        have ih := bytesOf_spec r r' bs' hb' ⟨by have := hv.1; simpa using this, fun i x y hx hy => hv.2 (i + 1) x y (by simpa using hx) (by simpa using hy)⟩
        rw [ih, List.map_cons]
        congr 2
        have : n.toNat < 256 := by omega
        rw [UInt8.toNat_ofNat_of_lt' (by simpa using this)]
        omega
      · cases h
    · cases h

/-- What a variable's address reads. -/
def QF (P : Program) (H : AH) (t : TypeId) (x : Value) : Option Value :=
  match x with
  | .pointer (some ⟨g, o, none⟩) => match H.cells g, aggT P t with
    | some cs, some (some n) => if o + n ≤ cs.length then some (.agg ((cs.drop o).take n).toArray) else none
    | some cs, some none => cs[o]?
    | _, _ => none
  | _ => none
theorem aload_sound {P : Program} {φ : Phi} {H : AH} {W : World} {t : TypeId} {x x' v : Value} (hS : Sim φ H W) (h : QF P H t x = some v) (hx : VR φ x x') :
    ∃ v' a, x' = .pointer (some a) ∧ VR φ v v' ∧ (loadVar t a).run P W = .ok v' W := by
  unfold QF at h
  split at h
  · rename_i g o
    cases hx with
    | @ptr _ _ bi hφ =>
      split at h
      · rename_i cs n hg ha
        split at h
        · rename_i hl
          cases h
          obtain ⟨vs', h1, h2⟩ := hS.range hg hφ o n
          have hlen : vs'.length = n := by rw [← h1.1]; simp; omega
          have hrun := run_loadCells_list (P := P) W ⟨bi.blk, bi.off + o, none⟩ vs' h2
          rw [hlen] at hrun
          have hA := aggT_spec ha W
          exact ⟨.agg vs'.toArray, _, rfl, .agg h1.arr.1 h1.arr.2, by simp [loadVar, hA.1, szT_spec (hA.2 n rfl), hrun]⟩
        · cases h
      · rename_i cs hg ha
        obtain ⟨v', h1, h2⟩ := hS.cell hg hφ h
        have hA := aggT_spec ha W
        exact ⟨v', _, rfl, h2, by simp [loadVar, hA.1, load, Sem.run, h1]⟩
      · cases h
  · cases h

/-- What an operation reads. -/
def Qz (P : Program) (ρ : Operand → Value) (H : AH) (op : Op) : Option Value :=
  match op with
  | .load t x => QF P H t (ρ x)
  | .convert s d x => if QN P s && strT P d then (match ρ x with
    | .slice none 0 0 => some (.string ⟨#[]⟩)
    | .slice (some ⟨g, o, none⟩) n _ => if n = 0 then some (.string ⟨#[]⟩) else match H.cells g with
      | some cs => if o + n ≤ cs.length then (bytesOf ((cs.drop o).take n)).map fun l => .string ⟨l.toArray⟩ else none
      | none => none
    | _ => none) else none
  | _ => none

theorem aread_sound {P : Program} {φ : Phi} {H : AH} {W : World} {ρ ρ' : Operand → Value} {o : Oper} {v : Value} (hS : Sim φ H W) (h : Qz P ρ H o.op = some v) (hr : ∀ x ∈ o.op.operands, VR φ (ρ x) (ρ' x)) :
    ∃ v', VR φ v v' ∧ (execOp ρ' o).run P W = .ok (.value v') W := by
  obtain ⟨dst, op, ty, pos, after, guard⟩ := o
  cases op <;> simp only [Qz, reduceCtorEq] at h
  case load t x =>
    obtain ⟨v', a, h1, h2, h3⟩ := aload_sound hS h (hr x (by simp [Op.operands]))
    exact ⟨v', h2, by simp [execOp, h1, Instr.loadAt, Instr.sureAddr, h3]⟩
  case convert s d x =>
    have hx := hr x (by simp [Op.operands])
    split at h
    · rename_i hc
      simp only [Bool.and_eq_true] at hc
      obtain ⟨e, hu, he⟩ := byteSliceT_spec hc.1
      have hd := strT_spec hc.2
      split at h
      · rename_i hp
        cases h
        rw [hp] at hx
        generalize hq : ρ' x = q at hx
        cases hx
        exact ⟨_, .string _, by simp [execOp, hq, run_convert_bytes_nil W s e hu he, convert, run_underlying hu, run_underlying hd, run_underlying he, Conv.bytesToString]; rfl⟩
      · rename_i g o n c hp
        rw [hp] at hx
        generalize hq : ρ' x = q at hx
        split at h
        · rename_i hn
          cases h
          subst hn
          refine ⟨_, .string _, ?_⟩
          have key : ∀ (a : Addr) c, (convert s d (.slice (some a) 0 c)).run P W = .ok (.string ⟨#[]⟩) W := fun a c => by
            have := run_convert_bytes_back W s d e a c [] hu he hd (fun j hj => by simp at hj)
            simpa using this
          cases hx <;> simp [execOp, hq, key]
        · rename_i hn
          split at h
          · rename_i cs hg
            split at h
            · rename_i hl
              simp only [Option.map_eq_some_iff] at h
              obtain ⟨bs, hb, rfl⟩ := h
              cases hx with
              | empty => exact absurd rfl hn
              | @slice _ _ _ _ c' bi hφ hnc hrm =>
                obtain ⟨vs', h1, h2⟩ := hS.range hg hφ o n
                have hvs := bytesOf_spec _ _ _ hb h1
                have hlen : bs.length = n := by
                  have : vs'.length = n := by rw [← h1.1]; simp; omega
                  rw [hvs] at this; simpa using this
                have := run_convert_bytes_back W s d e ⟨bi.blk, bi.off + o, none⟩ c' bs hu he hd (fun j hj => by
                  refine h2 j _ ?_
                  rw [hvs]; simp [hj])
                rw [hlen] at this
                exact ⟨_, .string _, by simp [execOp, hq, this]⟩
            · cases h
          · cases h
      · cases h
    · cases h

def zerosL (z : Array Value) (n : Nat) : List Value := if z.size = 1 then List.replicate n (z.getD 0 undef) else (madeCells z (n * z.size)).toList
/-- What an operation makes: the new block's cells, and its value once the block has a number. -/
def anew (P : Program) (ρ : Operand → Value) (op : Op) : Option (List Value × (Nat → Value)) :=
  match op with
  | .alloc t => (zeroT P t).map fun z => (z.toList, fun g => .pointer (some ⟨g, 0, none⟩))
  | .box _ x => if Qe (ρ x) then some ((ρ x).cells.toList, fun g => .pointer (some ⟨g, 0, none⟩)) else none
  | .buildSlice t len parts => match P.underlying t with
    | some (.slice e) => match szT P e with
      | some s => if len * s ≤ 16777216 ∧ parts.all (fun p => Qe (ρ p.2)) = true then
          match (if len * s = 0 then some #[] else (zeroT P e).bind fun z => if z.size = s then some z else none) with
          | some z => (Instr.fill (fun i => some (i * s, s)) ((Array.range (len * s)).map (z[· % z.size]!)) (parts.toList.map fun p => (p.1, ρ p.2))).map fun cs => (cs.toList, fun g => .slice (some ⟨g, 0, none⟩) len s)
          | none => none
        else none
      | none => none
    | _ => none
  | .makeSlice t l c => match P.underlying t, ρ l, ρ c with
    | some (.slice e), .int _ l, .int _ c => match P.info? e, zeroT P e with
      | some i, some z => if 0 ≤ l ∧ l ≤ c ∧ (i.bytes : Int) * c ≤ 281474976710656 ∧ c ≤ 9223372036854775807 ∧ z.size = i.size then some (zerosL z l.toNat, fun g => .slice (some ⟨g, 0, none⟩) l.toNat i.size) else none
      | _, _ => none
    | _, _, _ => none
  | .convert s d x => match ρ x with
    | .string b => if strT P s && QN P d then some (b.data.toList.map fun x => .int .u8 x.toNat, fun g => .slice (some ⟨g, 0, none⟩) b.size 1) else none
    | _ => none
  | _ => none

/-- What is told of an operation that makes memory: whatever the world, one new block. -/
def News (P : Program) (φ : Phi) (s : Sem Next) (cs : List Value) (vf : Nat → Value) : Prop :=
  ∀ W : World, ∃ (C : Array Value) (ty : TypeId) (fr : Nat × Nat) (mk : Bool) (v' : Value) (W1 : World), s.run P W = .ok (.value v') W1 ∧ W1.heap = W.heap.push (.cells C ty fr) ∧ W1.os = W.os ∧ W1.tape = W.tape ∧ W1.output = W.output ∧
    (fr.1 = fr.2 ∨ mk = true ∧ C.size ≤ fr.1) ∧ cs.length ≤ C.size ∧ (∀ (i : Nat) (v : Value), cs[i]? = some v → ∃ v', C[i]? = some v' ∧ VR φ v v') ∧
    ∀ (φ' : Phi) (g : Nat), φ' g = some ⟨W.heap.size, 0, C.size, mk⟩ → VR φ' (vf g) v'
theorem rel_of_VRA {φ : Phi} {cs cs' : Array Value} (h : VRA φ cs cs') : ∀ (i : Nat) (v : Value), cs.toList[i]? = some v → ∃ v', cs'[i]? = some v' ∧ VR φ v v' := by
  intro i v hv
  rw [Array.getElem?_toList] at hv
  obtain ⟨h1, rfl⟩ := Array.getElem?_eq_some_iff.1 hv
  have h2 : i < cs'.size := by rw [← h.1]; exact h1
  exact ⟨cs'[i], Array.getElem?_eq_getElem h2, h.2 i h1 h2⟩
theorem nofr {mk : Bool} (C : Array Value) : ((0, 0) : Nat × Nat).1 = ((0, 0) : Nat × Nat).2 ∨ mk = true ∧ C.size ≤ ((0, 0) : Nat × Nat).1 := .inl rfl
theorem frNo {n : Nat} {fr : Nat × Nat} {mk : Bool} (h : fr.1 = fr.2 ∨ mk = true ∧ n ≤ fr.1) : ∀ j, j < n → ¬ (fr.1 ≤ j ∧ j < fr.2) := fun j hj => by
  rcases h with h | ⟨_, h⟩ <;> omega
theorem range_map_VRA {φ : Phi} {z z' : Array Value} (h : VRA φ z z') (n : Nat) (hz : 0 < n → 0 < z.size) : VRA φ ((Array.range n).map (z[· % z.size]!)) ((Array.range n).map (z'[· % z'.size]!)) := by
  refine ⟨by simp, fun i h1 h2 => ?_⟩
  have hn : 0 < n := by simp at h1; omega
  have hp := hz hn
  simp only [Array.getElem_map, Array.getElem_range]
  have e1 : i % z.size < z.size := Nat.mod_lt _ hp
  have e2 : i % z'.size < z'.size := by rw [← h.1]; exact e1
  rw [getElem!_pos z _ e1, getElem!_pos z' _ e2]
  have := h.2 (i % z.size) e1 (by rw [← h.1]; exact e1)
  simpa only [← h.1] using this

theorem anew_sound {P : Program} {φ : Phi} {ρ ρ' : Operand → Value} {o : Oper} {cs : List Value} {vf : Nat → Value} (h : anew P ρ o.op = some (cs, vf)) (hr : ∀ x ∈ o.op.operands, VR φ (ρ x) (ρ' x)) :
    News P φ (execOp ρ' o) cs vf := by
  obtain ⟨dst, op, ty, pos, after, guard⟩ := o
  intro W
  cases op <;> simp only [anew, reduceCtorEq] at h
  case alloc t =>
    simp only [Option.map_eq_some_iff] at h
    obtain ⟨z, hz, he⟩ := h
    cases he
    obtain ⟨i, zv, hi, hzz, rfl, hzr⟩ := zeroT_spec (φ := φ) hz
    refine ⟨zv.cells, t, (0, 0), false, .pointer (some ⟨W.heap.size, 0, none⟩), W.alloc (.cells zv.cells t), ?_, rfl, rfl, rfl, rfl, nofr _, by simp, rel_of_VRA hzr, fun φ' g hg => ?_⟩
    · simp [execOp, Instr.alloc, zeroValue, typeInfo, hi, hzz, newVar, newRow]
    · have := VR.ptr (φ := φ') (o := 0) hg
      simpa using this
  case box t x =>
    split at h
    · rename_i hd
      cases h
      have hx := (hr x (by simp [Op.operands])).cells hd
      refine ⟨(ρ' x).cells, t, (0, 0), false, .pointer (some ⟨W.heap.size, 0, none⟩), W.alloc (.cells (ρ' x).cells t), ?_, rfl, rfl, rfl, rfl, nofr _, by simp [hx.1], rel_of_VRA hx, fun φ' g hg => ?_⟩
      · simp [execOp, Instr.box, newVar, newRow]
      · have := VR.ptr (φ := φ') (o := 0) hg
        simpa using this
    · cases h
  case buildSlice t len parts =>
    split at h
    · rename_i e hu
      split at h
      · rename_i s hs
        split at h
        · rename_i hc
          split at h
          · rename_i z hz
            simp only [Option.map_eq_some_iff] at h
            obtain ⟨out, hf, he⟩ := h
            cases he
            have hd : ∀ p ∈ parts.toList, Qe (ρ p.2) = true := fun p hp => Array.all_eq_true_iff_forall_mem.1 hc.2 p (by simpa using hp)
            have hrp : ∀ p ∈ parts.toList, VR φ (ρ p.2) (ρ' p.2) := fun p hp => hr _ (by simp only [Op.operands, List.mem_toArray, List.mem_map]; exact ⟨p, hp, rfl⟩)
            have hzz : VRA φ ((Array.range (len * s)).map (z[· % z.size]!)) ((Array.range (len * s)).map (z[· % z.size]!)) ∧ (len * s = 0 → z = #[]) ∧ (len * s ≠ 0 → ∀ W, (zeroValue e).run P W = .ok (((P.info? e).bind (·.zero)).getD undef) W ∧ (((P.info? e).bind (·.zero)).getD undef).cells = z) := by
              by_cases h0 : len * s = 0
              · rw [if_pos h0] at hz; cases hz
                refine ⟨⟨rfl, fun i h1 _ => ?_⟩, fun _ => rfl, fun hne => absurd h0 hne⟩
                simp [h0] at h1
              · rw [if_neg h0] at hz
                rw [Option.bind_eq_some_iff] at hz
                obtain ⟨zc, hzc, hz⟩ := hz
                split at hz
                · rename_i hzs
                  cases hz
                  obtain ⟨i, zv, hi, hzz, rfl, hzr⟩ := zeroT_spec (φ := φ) hzc
                  have hz0 : 0 < zv.cells.size := Nat.pos_of_ne_zero fun e => h0 (by rw [← hzs, e]; simp)
                  exact ⟨range_map_VRA hzr _ (fun _ => hz0), fun e => absurd e h0, fun _ W => ⟨by simp [zeroValue, typeInfo, hi, hzz], by simp [hi, hzz]⟩⟩
                · cases hz
            obtain ⟨out', hf', hv⟩ := fill_VRA (φ := φ) (fun i => some (i * s, s)) ρ ρ' parts.toList _ _ out hd hrp hzz.1 hf
            have hsz : out'.size = len * s := by
              have hfs : ∀ (pl : Nat → Option (Nat × Nat)) (ps : List (Nat × Value)) (c d : Array Value), Instr.fill pl c ps = some d → d.size = c.size := by
                intro pl ps
                induction ps with
                | nil => intro c d h; simp [Instr.fill] at h; rw [← h]
                | cons p ps ih =>
                  intro c d h
                  simp only [Instr.fill] at h
                  split at h
                  · cases h
                  · split at h
                    · cases h
                    · rw [ih _ _ h]
                      have : ∀ (l : List (Value × Nat)) (off : Nat) (c : Array Value), (l.foldl (fun cs (x : Value × Nat) => cs.setIfInBounds (off + x.2) x.1) c).size = c.size := by
                        intro l off
                        induction l with
                        | nil => intro c; rfl
                        | cons x l ih => intro c; rw [List.foldl_cons, ih]; simp
                      rw [← Array.foldl_toList]
                      exact this _ _ _
              rw [hfs _ _ _ _ hf']; simp
            refine ⟨out', e, (0, 0), false, .slice (some ⟨W.heap.size, 0, none⟩) len len, W.alloc (.cells out' e), ?_, rfl, rfl, rfl, rfl, nofr _, by simp [hv.1], rel_of_VRA hv, fun φ' g hg => ?_⟩
            · have hsr := szT_spec hs
              have hnot : ¬ (len * s > 2 ^ 24) := by have := hc.1; omega
              have hrun : (Instr.buildSlice t len (parts.map fun p => (p.1, ρ' p.2))).run P W = .ok (.slice (some ⟨W.heap.size, 0, none⟩) len len) (W.alloc (.cells out' e)) := by
                have hparts : (parts.map fun p => (p.1, ρ' p.2)).toList = parts.toList.map fun p => (p.1, ρ' p.2) := by simp
                simp only [Instr.buildSlice, Sem.run_bind, run_underlying hu, Result.andThen_ok, hsr, if_neg hnot, Sem.run_pure, hparts]
                by_cases h0 : len * s = 0
                · have := hzz.2.1 h0
                  subst this
                  simp only [if_pos h0, Sem.run_pure, Result.andThen_ok, hf', Sem.run_bind, newRow]
                  rfl
                · obtain ⟨hz1, hz2⟩ := hzz.2.2 h0 W
                  simp only [if_neg h0, Sem.run_bind, Sem.run_pure, Result.andThen_ok, hz1, hz2, hf', newRow]
                  rfl
              simp only [execOp, Sem.run_bind]
              show ((Instr.buildSlice t len (parts.map fun p => (p.1, ρ' p.2))).run P W).andThen _ = _
              rw [hrun]
              rfl
            · have := VR.slice (φ := φ') (o := 0) (n := len) (e := s) (c' := len) hg (Nat.le_refl _) (.inr (by simp [hsz]))
              simpa using this
          · cases h
        · cases h
      · cases h
    · cases h
  case makeSlice t lx cx =>
    split at h
    · rename_i e kl l kc c hu hl hcv
      split at h
      · rename_i i z hi hz
        split at h
        · rename_i hc
          cases h
          obtain ⟨i', zv, hi', hzz, rfl, hzr⟩ := zeroT_spec (φ := φ) hz
          rw [hi] at hi'; cases hi'
          have h1 := hr lx (by simp [Op.operands])
          have h2 := hr cx (by simp [Op.operands])
          rw [hl] at h1; rw [hcv] at h2
          have e1 : ρ' lx = .int kl l := h1.scalar rfl
          have e2 : ρ' cx = .int kc c := h2.scalar rfl
          have hrun := run_make (P := P) W t e i zv hu hi hzz kl kc l c hc.1 hc.2.1 hc.2.2.1 hc.2.2.2.1
          refine ⟨madeCells zv.cells (c.toNat * i.size), e, (0, 0), false, .slice (some ⟨W.heap.size, 0, none⟩) l.toNat c.toNat, W.alloc (.cells (madeCells zv.cells (c.toNat * i.size)) e), by simp [execOp, e1, e2, hrun], rfl, rfl, rfl, rfl, nofr _, ?_, ?_, fun φ' g hg => ?_⟩
          · unfold zerosL
            have hle : l.toNat ≤ c.toNat := by omega
            split
            · rename_i hs1; simp [size_madeCells, ← hc.2.2.2.2, hs1]; omega
            · simp [size_madeCells, ← hc.2.2.2.2]; exact Nat.mul_le_mul_right _ hle
          · intro j v hv
            have hle : l.toNat ≤ c.toNat := by omega
            have key : ∀ n : Nat, j < n → n ≤ c.toNat * zv.cells.size → 0 < zv.cells.size → ((madeCells zv.cells (c.toNat * i.size))[j]? = some (zv.cells[j % zv.cells.size]!)) ∧ VR φ (zv.cells[j % zv.cells.size]!) (zv.cells[j % zv.cells.size]!) := by
              intro n hj hn hp
              have hj' : j < c.toNat * i.size := by rw [← hc.2.2.2.2]; omega
              refine ⟨by simp [madeCells, hj'], ?_⟩
              have hlt := Nat.mod_lt j hp
              rw [getElem!_pos zv.cells _ hlt]
              exact hzr.2 _ hlt hlt
            unfold zerosL at hv
            split at hv
            · rename_i hs1
              rw [List.getElem?_replicate] at hv
              split at hv
              · rename_i hj
                cases hv
                obtain ⟨k1, k2⟩ := key l.toNat hj (by rw [hs1]; omega) (by omega)
                refine ⟨_, k1, ?_⟩
                have : j % zv.cells.size = 0 := by rw [hs1]; exact Nat.mod_one j
                rw [this] at k2 ⊢
                have : zv.cells[0]! = zv.cells.getD 0 undef := by
                  rw [getElem!_pos zv.cells 0 (by omega)]; simp [hs1]
                rw [← this]; exact k2
              · cases hv
            · rename_i hs1
              rw [Array.getElem?_toList] at hv
              obtain ⟨hj, rfl⟩ := Array.getElem?_eq_some_iff.1 hv
              rw [size_madeCells] at hj
              have hp : 0 < zv.cells.size := Nat.pos_of_ne_zero (fun e => by rw [e] at hj; omega)
              obtain ⟨k1, k2⟩ := key _ hj (Nat.mul_le_mul_right _ hle) hp
              exact ⟨_, k1, by simpa [madeCells] using k2⟩
          · have := VR.slice (φ := φ') (o := 0) (n := l.toNat) (e := i.size) (c' := c.toNat) hg (by omega) (.inr (by simp [size_madeCells]))
            simpa using this
        · cases h
      · cases h
    · cases h
  case convert s d x =>
    split at h
    · rename_i b hb
      split at h
      · rename_i hc
        cases h
        simp only [Bool.and_eq_true] at hc
        obtain ⟨e, hu, he⟩ := byteSliceT_spec hc.2
        have h1 := hr x (by simp [Op.operands])
        rw [hb] at h1
        have e1 : ρ' x = .string b := h1.scalar rfl
        have hrun := run_bytes_of_string (P := P) W s d e b (strT_spec hc.1) hu he
        have hcap : b.size ≤ grownCap W b.size 0 e := by unfold grownCap Question.cut; simp
        have hbs : b.data.size = b.size := rfl
        have hsz : (bytesRow b (grownCap W b.size 0 e)).size = grownCap W b.size 0 e := by simp [bytesRow, hbs]; omega
        refine ⟨bytesRow b (grownCap W b.size 0 e), e, ((bytesRow b (grownCap W b.size 0 e)).size, (bytesRow b (grownCap W b.size 0 e)).size + 1), true, .slice (some ⟨W.heap.size, 0, none⟩) b.size (grownCap W b.size 0 e), (W.drew.alloc (.cells (bytesRow b (grownCap W b.size 0 e)) e ((bytesRow b (grownCap W b.size 0 e)).size, (bytesRow b (grownCap W b.size 0 e)).size + 1))), by simp [execOp, e1, hrun], rfl, rfl, rfl, rfl, Or.inr ⟨rfl, Nat.le_refl _⟩, by rw [hsz]; simpa [hbs] using hcap, fun i v hv => ?_, fun φ' g hg => ?_⟩
        · rw [List.getElem?_map] at hv
          simp only [Option.map_eq_some_iff] at hv
          obtain ⟨y, hy, rfl⟩ := hv
          refine ⟨_, ?_, .int _ _⟩
          have hi : i < b.data.size := by have := (List.getElem?_eq_some_iff.1 hy).1; simpa using this
          rw [Array.getElem?_toList] at hy
          unfold bytesRow
          rw [Array.getElem?_append_left (by simpa using hi), Array.getElem?_map, hy]; rfl
        · have := VR.slice (φ := φ') (o := 0) (n := b.size) (e := 1) (c' := grownCap W b.size 0 e) hg hcap (.inr ⟨by simp [hsz], fun h => absurd h (by decide)⟩)
          simpa using this
      · cases h
    · cases h
end Go.Proofs.YtldfnfpinemedaaDoor

namespace Go.Proofs.YtldfnfpinemedaaDoor
open Go
set_option linter.unusedSimpArgs false
set_option linter.unusedVariables false

def cellv (v : Value) : Bool := match v with | .agg _ | .tuple _ => false | _ => true
theorem VR.cellv {φ : Phi} {v v' : Value} (h : VR φ v v') (hc : cellv v = true) : v'.oneCell' = true := by
  cases h <;> first | rfl | cases hc
theorem VRL.cellv {φ : Phi} {l l' : List Value} (h : VRL φ l l') (hc : l.all Go.Proofs.YtldfnfpinemedaaDoor.cellv = true) : ∀ v ∈ l', v.oneCell' = true := by
  intro v hv
  obtain ⟨i, hi⟩ := List.mem_iff_getElem?.1 hv
  have hlt : i < l.length := by have := (List.getElem?_eq_some_iff.1 hi).1; rw [h.1]; exact this
  exact (h.2 i _ v (List.getElem?_eq_getElem hlt) hi).cellv (List.all_eq_true.1 hc _ (List.getElem_mem hlt))

/-- cs with vs from place o on. -/
def ovr (cs : List Value) (o : Nat) (vs : List Value) : List Value :=
  match vs with
  | [v] => cs.set o v
  | vs => if o = 0 ∧ vs.length = cs.length then vs else cs.take o ++ vs ++ cs.drop (o + vs.length)
theorem ovr_length {cs vs : List Value} {o : Nat} (h : o + vs.length ≤ cs.length) : (ovr cs o vs).length = cs.length := by
  unfold ovr
  split
  · simp
  · split
    · rename_i hh; exact hh.2
    · simp; omega
theorem ovr_get {cs vs : List Value} {o : Nat} (h : o + vs.length ≤ cs.length) (i : Nat) : (ovr cs o vs)[i]? = if o ≤ i ∧ i < o + vs.length then vs[i - o]? else cs[i]? := by
  have gen : (cs.take o ++ vs ++ cs.drop (o + vs.length))[i]? = if o ≤ i ∧ i < o + vs.length then vs[i - o]? else cs[i]? := by
    rw [List.append_assoc]
    by_cases h1 : i < o
    · rw [if_neg (by omega), List.getElem?_append_left (by simp; omega), List.getElem?_take, if_pos h1]
    · rw [List.getElem?_append_right (by simp; omega)]
      have hl : (cs.take o).length = o := by simp; omega
      rw [hl]
      by_cases h2 : i < o + vs.length
      · rw [if_pos ⟨by omega, h2⟩, List.getElem?_append_left (by omega)]
      · rw [if_neg (by omega), List.getElem?_append_right (by omega), List.getElem?_drop]
        congr 1; omega
  unfold ovr
  split
  · rename_i v
    simp only [List.length_singleton] at h ⊢
    rw [List.getElem?_set]
    by_cases hi : o = i
    · subst hi
      rw [if_pos rfl, if_pos (by omega), if_pos (by omega)]; simp
    · rw [if_neg hi, if_neg (by omega)]
  · split
    · rename_i hh
      obtain ⟨h0, hl⟩ := hh
      subst h0
      by_cases hi : i < vs.length
      · rw [if_pos ⟨Nat.zero_le _, by omega⟩, Nat.sub_zero]
      · rw [if_neg (by omega), List.getElem?_eq_none (by omega), List.getElem?_eq_none (by omega)]
    · exact gen

/-- An owned block's cells are written by the machine, from a place on. -/
theorem Sim.write {φ : Phi} {H : AH} {W : World} (h : Sim φ H W) {g : Nat} {cs vs vs' : List Value} {bi : BI} {o : Nat} (hg : H[g]? = some (.own cs)) (hφ : φ g = some bi) (hl : o + vs.length ≤ cs.length) (hv : VRL φ vs vs') :
    (∀ j, j < vs'.length → (W.cell? ⟨bi.blk, bi.off + o + j, none⟩).isSome = true) ∧ (∀ j, j < vs'.length → W.frozen? ⟨bi.blk, bi.off + o + j, none⟩ = false) ∧
    Sim φ (H.set g (.own (ovr cs o vs))) (W.setCells bi.blk (bi.off + o) vs') ∧ Ev φ H W φ (H.set g (.own (ovr cs o vs))) (W.setCells bi.blk (bi.off + o) vs') := by
  obtain ⟨C, ty, fr, h1, h2, h3, h4, h5⟩ := h.own g cs bi hg hφ
  have hlen := hv.1
  obtain ⟨C', e1, e2, e3, e4⟩ := setCells_heap bi.blk vs' (bi.off + o) W C ty fr h1 (by omega)
  obtain ⟨m1, m2, m3, m4⟩ := setCells_meta bi.blk vs' (bi.off + o) W
  refine ⟨fun j hj => ?_, fun j hj => ?_, ?_, ?_⟩
  · have : bi.off + o + j < C.size := by omega
    simp [World.cell?, h1, this]
  · have hj' : bi.off + o + j < C.size := by omega
    have := frNo h3 (bi.off + o + j) hj'
    simp only [World.frozen?, h1]
    rcases fr with ⟨lo, hi⟩
    simp only at this ⊢
    rw [Bool.eq_false_iff]
    simp only [ne_eq, Bool.and_eq_true, decide_eq_true_eq]
    exact this
  · refine h.update hg hφ m4 (fun b hb => setCells_other _ _ _ _ _ hb) ⟨C', ty, fr, e1, by rw [e2, h2], by rw [e2]; exact h3, by rw [e2, ovr_length hl]; exact h4, fun i v hi => ?_⟩
    rw [ovr_get hl] at hi
    split at hi
    · rename_i hin
      obtain ⟨v', d1, d2⟩ := hv.get hi
      refine ⟨v', ?_, d2⟩
      have := e4 (i - o) v' d1
      rwa [show bi.off + o + (i - o) = bi.off + i by omega] at this
    · rename_i hin
      obtain ⟨v', d1, d2⟩ := h5 i v hi
      exact ⟨v', by rw [e3 _ (by omega)]; exact d1, d2⟩
  · exact Ev.update hg hφ m4 (fun b hb => setCells_other _ _ _ _ _ hb) m1 m2 m3

/-- What is told of an operation that writes. -/
def Writes (P : Program) (φ : Phi) (H : AH) (W : World) (s : Sem Next) (v : Option Value) (H' : AH) : Prop :=
  ∃ (φ' : Phi) (W' : World), Sim φ' H' W' ∧ Ev φ H W φ' H' W' ∧ match v with
    | none => s.run P W = .ok .skip W'
    | some v => ∃ v', VR φ' v v' ∧ s.run P W = .ok (.value v') W'

def astore (P : Program) (H : AH) (t : TypeId) (a x : Value) : Option AH :=
  match a with
  | .pointer (some ⟨g, o, none⟩) => match H[g]? with
    | some (.own cs) => if Qe x = true ∧ x.cells.toList.all cellv = true ∧ szT P t = some x.cells.toList.length ∧ o + x.cells.toList.length ≤ cs.length then some (H.set g (.own (ovr cs o x.cells.toList))) else none
    | _ => none
  | _ => none
theorem astore_sound {P : Program} {φ : Phi} {H H' : AH} {W : World} {t : TypeId} {a x a' x' : Value} (hS : Sim φ H W) (h : astore P H t a x = some H') (ha : VR φ a a') (hx : VR φ x x') :
    ∃ W', Sim φ H' W' ∧ Ev φ H W φ H' W' ∧ (Instr.storeAt t a' x').run P W = .ok () W' := by
  unfold astore at h
  split at h
  · rename_i g o
    split at h
    · rename_i cs hg
      split at h
      · rename_i hc
        cases h
        obtain ⟨h1, h2, h3, h4⟩ := hc
        cases ha with
        | @ptr _ _ bi hφ =>
          have hv := (hx.cells h1)
          obtain ⟨k1, k2, k3, k4⟩ := hS.write hg hφ h4 hv.list
          refine ⟨_, k3, k4, ?_⟩
          have hst := run_storeCells_cells (P := P) bi.blk (bi.off + o) x'.cells.toList 0 W (by simpa using k1) (by simpa using k2) (hv.list.cellv h2)
          simp only [Nat.add_zero] at hst
          have hsz : x'.cells.size = x.cells.toList.length := by simp [hv.1]
          simp [Instr.storeAt, Instr.sureAddr, storeVar, szT_spec h3, hsz, hst]
      · cases h
    · cases h
  · cases h

/-- What an append's, or a copy's, second argument yields. -/
def asrc (P : Program) (H : AH) (tx : TypeId) (x : Value) (size : Nat) : Option (List Value × Nat) :=
  match x with
  | .slice none 0 0 => if sliceT P tx then some ([], 0) else none
  | .slice (some ⟨g, o, _⟩) n _ => if sliceT P tx then (if n = 0 then some ([], 0) else match H.cells g with
    | some cs => if o + n * size ≤ cs.length ∧ ((cs.drop o).take (n * size)).all cellv = true then some ((cs.drop o).take (n * size), n) else none
    | none => none) else none
  | .string s => if strT P tx && size == 1 then some (s.data.toList.map fun x => .int .u8 x.toNat, s.size) else none
  | _ => none
theorem asrc_sound {P : Program} {φ : Phi} {H : AH} {W : World} {tx : TypeId} {x x' : Value} {size n : Nat} {news : List Value} (hS : Sim φ H W) (h : asrc P H tx x size = some (news, n)) (hx : VR φ x x') :
    ∃ news', VRL φ news news' ∧ Src P size tx x' n news' W ∧ ∀ k, k ≤ n → (Builtin.firstCells size k x').run P W = .ok (news'.take (k * size)).toArray W := by
  unfold asrc at h
  split at h
  · split at h
    · rename_i ht
      cases h; cases hx
      obtain ⟨e, hu⟩ := sliceT_spec ht
      exact ⟨[], .nil, Src.ofNil W hu 0, fun k hk => by simp [Builtin.firstCells]⟩
    · cases h
  · rename_i g o sp n cc
    split at h
    · rename_i ht
      obtain ⟨e, hu⟩ := sliceT_spec ht
      split at h
      · rename_i hn
        cases h; subst hn
        have key : ∀ a c, Src P size tx (.slice (some a) 0 c) 0 [] W := fun a c => Src.ofSlice W hu a 0 c [] (by simp) (fun j u hu => by simp at hu) (fun u hu => by simp at hu)
        have key2 : ∀ (a : Addr) c k, k ≤ 0 → (Builtin.firstCells size k (.slice (some a) 0 c)).run P W = .ok (([] : List Value).take (k * size)).toArray W := fun a c k hk => by
          have : k = 0 := by omega
          subst this
          have := run_loadCells_list (P := P) W a [] (by simp)
          simpa [Builtin.firstCells] using this
        cases hx
        · exact ⟨[], .nil, key _ _, key2 _ _⟩
        · exact ⟨[], .nil, key _ _, key2 _ _⟩
        · exact ⟨[], .nil, key _ _, key2 _ _⟩
      · rename_i hn
        split at h
        · rename_i cs hg
          split at h
          · rename_i hc
            cases h
            cases hx with
            | empty => exact absurd rfl hn
            | @slice _ _ _ _ c' bi hφ hnc hr =>
              obtain ⟨vs', h1, h2⟩ := hS.range hg hφ o (n * size)
              have hlen : vs'.length = n * size := by rw [← h1.1]; simp; omega
              refine ⟨vs', h1, Src.ofSlice W hu _ n c' vs' hlen h2 (h1.cellv hc.2), fun k hk => ?_⟩
              have hk' : k * size ≤ n * size := Nat.mul_le_mul_right _ hk
              have := run_loadCells_list (P := P) W ⟨bi.blk, bi.off + o, none⟩ (vs'.take (k * size)) (fun j v hv => by
                rw [List.getElem?_take] at hv
                split at hv
                · exact h2 j v hv
                · cases hv)
              rw [List.length_take, hlen, Nat.min_eq_left hk'] at this
              simpa [Builtin.firstCells] using this
            | @sliceX _ _ _ _ c' bi hφ hnc hr =>
              obtain ⟨vs', h1, h2⟩ := hS.range hg hφ o (n * size)
              have hlen : vs'.length = n * size := by rw [← h1.1]; simp; omega
              refine ⟨vs', h1, Src.ofSlice W hu _ n c' vs' hlen h2 (h1.cellv hc.2), fun k hk => ?_⟩
              have hk' : k * size ≤ n * size := Nat.mul_le_mul_right _ hk
              have := run_loadCells_list (P := P) W ⟨bi.blk, bi.off + o, none⟩ (vs'.take (k * size)) (fun j v hv => by
                rw [List.getElem?_take] at hv
                split at hv
                · exact h2 j v hv
                · cases hv)
              rw [List.length_take, hlen, Nat.min_eq_left hk'] at this
              simpa [Builtin.firstCells] using this
          · cases h
        · cases h
    · cases h
  · split at h
    · rename_i s ht
      simp only [Bool.and_eq_true, beq_iff_eq] at ht
      obtain ⟨h1, rfl⟩ := ht
      cases h; cases hx
      refine ⟨byteCells s, ⟨by simp [byteCells], fun i v v' hv hv' => ?_⟩, Src.ofString W (strT_spec h1) s, fun k hk => ?_⟩
      · unfold byteCells at hv'
        rw [hv] at hv'
        cases hv'
        rw [List.getElem?_map, Option.map_eq_some_iff] at hv
        obtain ⟨b, _, rfl⟩ := hv
        exact .int _ _
      · simp only [Builtin.firstCells, Sem.run_pure, byteCells, Nat.mul_one]
        congr 1
        apply Array.ext'
        have hb : s.data.size = s.size := rfl
        simp only [Array.toList_map, ← List.map_take]
        congr 1
        apply List.ext_getElem?
        intro i
        rw [Array.getElem?_toList, List.getElem?_take, Array.getElem?_toList, ByteArray.data_extract, Array.getElem?_extract]
        simp only [Nat.sub_zero, Nat.zero_add]
        by_cases hi : i < k
        · rw [if_pos hi, if_pos (by rw [hb]; omega)]
        · rw [if_neg hi, if_neg (by rw [hb]; omega)]
    · cases h
  · cases h
end Go.Proofs.YtldfnfpinemedaaDoor
