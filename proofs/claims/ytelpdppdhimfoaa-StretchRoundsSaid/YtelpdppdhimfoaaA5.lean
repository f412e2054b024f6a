/- Words of the proofs: '==' of whole arrays and structs; all pure operations under one name, and their law. -/
import Derived.Test.YtelpdppdhimfoaaA4
import Derived.DeepKeys
namespace Go.Proofs.Ytelpdppdhimfoaa
open Go
set_option linter.unusedSimpArgs false
set_option linter.unusedVariables false

def scalarv (v : Value) : Bool := match v with | .bool _ | .int _ _ | .string _ => true | _ => false
theorem VR.scalar {φ : Phi} {v v' : Value} (h : VR φ v v') (hs : scalarv v = true) : v' = v := by
  cases h <;> first | rfl | cases hs
theorem VRA.scalar {φ : Phi} {cs cs' : Array Value} (h : VRA φ cs cs') (hs : cs.all scalarv = true) : cs' = cs := by
  refine Array.ext h.1.symm fun i h1 h2 => ?_
  exact (h.2 i h2 h1).scalar (Array.all_eq_true.1 hs i h2)

noncomputable def aeqAgg (P : Program) (T : TypeId) (xs ys : Array Value) : Option Bool :=
  if xs.all scalarv && ys.all scalarv && P.keyTypeAt 8 T && !P.eqGuardType P.depth T && (Value.agg xs).formed P T && (Value.agg ys).formed P T then
    match P.keyLits 8 T xs.toList, P.keyLits 8 T ys.toList with
    | some a, some b => some (@decide (a = b) (Classical.propDecidable _))
    | _, _ => none
  else none
theorem aeqAgg_sound {P : Program} {φ : Phi} {T : TypeId} {xs ys xs' ys' : Array Value} {b : Bool} (h : aeqAgg P T xs ys = some b) (hx : VRA φ xs xs') (hy : VRA φ ys ys') :
    (∀ W, (Op.equal T (.agg xs') (.agg ys')).run P W = .ok b W) ∧ P.eqGuardType P.depth T = false := by
  unfold aeqAgg at h
  split at h
  · rename_i hc
    simp only [Bool.and_eq_true, Bool.not_eq_true'] at hc
    obtain ⟨⟨⟨⟨⟨h1, h2⟩, h3⟩, h4⟩, h5⟩, h6⟩ := hc
    split at h
    · rename_i la lb ha hb
      cases h
      rw [hx.scalar h1, hy.scalar h2]
      refine ⟨fun W => ?_, h4⟩
      obtain ⟨r, hr, hiff⟩ := run_equalIn_deep (P := P) 9992 8 T h3 W 8 8 (.agg xs) (.agg ys) la lb h5 h6 ha hb
      have : r = @decide (la = lb) (Classical.propDecidable _) := by
        cases r
        · simp at hiff; simp [hiff]
        · simp at hiff; simp [hiff]
      subst this
      exact hr
    · cases h
  · cases h

/-- A binary operation of the text. -/
noncomputable def abinO (P : Program) (op : BinOp) (t : TypeId) (x y : Operand) (u v : Value) : Option Value :=
  match u, v with
  | .agg xs, .agg ys => match op with
    | .eql => (aeqAgg P t xs ys).map .bool
    | .neq => (aeqAgg P t xs ys).map fun b => .bool !b
    | _ => none
  | .nilIface, .nilIface => match x, y, P.underlying t with
    | _, .const _, some (.interface _) => (match op with | .eql => some (.bool true) | .neq => some (.bool false) | _ => none)
    | .const _, _, some (.interface _) => (match op with | .eql => some (.bool true) | .neq => some (.bool false) | _ => none)
    | _, _, _ => none
  | _, _ => abin P op t u v
theorem nilIface_eq {P : Program} {t : TypeId} {ms : Array (String × TypeId)} (hu : P.underlying t = some (.interface ms)) (W : World) : (Op.equal t .nilIface .nilIface).run P W = .ok true W := by
  refine equal_of_in fun d => ?_
  simp only [Op.equalIn, Sem.run_bind, run_underlying hu, Result.andThen_ok]
  rfl
theorem boolT_spec {P : Program} {t : TypeId} (h : boolT P t = true) : P.underlying t = some .bool := by
  unfold boolT at h
  split at h
  · assumption
  · cases h
theorem abin_sound {P : Program} {φ : Phi} {op : BinOp} {t : TypeId} {x y : Operand} {u v u' v' r : Value} (h : abin P op t u v = some r) (hu : VR φ u u') (hv : VR φ v v') :
    Pures P φ (do eqGuard op t x y u' v'; binOp op t u' v') r := by
  unfold abin at h
  split at h
  · cases hu; cases hv
    have he : ∀ W, (binOp op t (.int ‹_› ‹_›) (.int ‹_› ‹_›)).run P W = .ok r W → True := fun _ _ => trivial
    have key : ∀ k a k' b, (match op with | .shl | .shr => ashift op k a b | _ => if k = k' then aint op k a b else none) = some r → (∀ W, (binOp op t (.int k a) (.int k' b)).run P W = .ok r W) ∧ VR φ r r := by
      intro k a k' b h
      split at h
      · refine ⟨fun W => ashift_sound h W, ?_⟩
        unfold ashift at h; split at h
        · cases h
        · simp at h; subst h; exact .int _ _
      · refine ⟨fun W => ashift_sound h W, ?_⟩
        unfold ashift at h; split at h
        · cases h
        · simp at h; subst h; exact .int _ _
      · rename_i h1 h2
        split at h
        · rename_i hk
          subst hk
          refine ⟨fun W => aint_sound h (fun e => h1 e) (fun e => h2 e) W, ?_⟩
          cases op <;> simp [aint] at h <;> first | (obtain ⟨_, rfl⟩ := h; exact .int _ _) | (subst h; first | exact .int _ _ | exact .bool _)
        · cases h
    obtain ⟨h1, h2⟩ := key _ _ _ _ h
    exact ⟨r, h2, fun W => by simp [eqGuard_at_int, h1]⟩
  · cases hu; cases hv
    refine ⟨r, ?_, fun W => by simp [eqGuard_at_string, astr_sound h]⟩
    cases op <;> simp [astr] at h <;> first | (obtain ⟨_, rfl⟩ := h; exact .string _) | (subst h; exact .bool _)
  · split at h
    · rename_i hb
      cases hu; cases hv
      have hbt := boolT_spec hb
      have he : ∀ (a b : Bool) W, (Op.equal t (.bool a) (.bool b)).run P W = .ok (a == b) W := fun a b W => equal_of_in fun d => run_equalIn_bool' W d t a b hbt
      cases op <;> simp at h <;> subst h
      · exact ⟨_, .bool _, fun W => by simp [eqGuard_at_bool, binOp, he]⟩
      · exact ⟨_, .bool _, fun W => by simp [eqGuard_at_bool, binOp, he]⟩
    · cases h
  · split at h
    · rename_i hn
      refine ⟨r, ?_, fun W => ?_⟩
      · cases op <;> simp only [Option.map_eq_some_iff, reduceCtorEq] at h <;> obtain ⟨b, _, rfl⟩ := h <;> exact .bool _
      · have hb := anil_sound hn h hu hv W
        have hg : eqGuard op t x y u' v' = pure () := by
          have hne : op = .eql ∨ op = .neq := by cases op <;> simp at h <;> simp
          have : ∃ b, anil u v = some b := by
            rcases hne with rfl | rfl
            · simp only [Option.map_eq_some_iff] at h; obtain ⟨b, hb, _⟩ := h; exact ⟨b, hb⟩
            · simp only [Option.map_eq_some_iff] at h; obtain ⟨b, hb, _⟩ := h; exact ⟨b, hb⟩
          obtain ⟨b, hb⟩ := this
          unfold anil at hb
          split at hb <;> first | cases hb | skip
          all_goals (cases hu <;> cases hv <;> simp [eqGuard_at_slice, eqGuard_at_pointer, eqGuard_nil_iface, eqGuard_at_iface])
        rw [hg]
        simpa using hb
    · cases h
theorem abinO_sound {P : Program} {φ : Phi} {op : BinOp} {t : TypeId} {x y : Operand} {u v u' v' r : Value} (h : abinO P op t x y u v = some r) (hu : VR φ u u') (hv : VR φ v v') :
    Pures P φ (do eqGuard op t x y u' v'; binOp op t u' v') r := by
  unfold abinO at h
  split at h
  · cases hu with
    | agg s1 c1 =>
      cases hv with
      | agg s2 c2 =>
        split at h
        · simp only [Option.map_eq_some_iff] at h
          obtain ⟨b, hb, rfl⟩ := h
          obtain ⟨h1, h2⟩ := aeqAgg_sound hb ⟨s1, c1⟩ ⟨s2, c2⟩
          refine ⟨_, .bool b, fun W => ?_⟩
          simp only [Sem.run_bind, run_eqGuard_agg W _ t x y _ _ h2, Result.andThen_ok, binOp, h1, Sem.run_pure]
        · simp only [Option.map_eq_some_iff] at h
          obtain ⟨b, hb, rfl⟩ := h
          obtain ⟨h1, h2⟩ := aeqAgg_sound hb ⟨s1, c1⟩ ⟨s2, c2⟩
          refine ⟨_, .bool _, fun W => ?_⟩
          simp only [Sem.run_bind, run_eqGuard_agg W _ t x y _ _ h2, Result.andThen_ok, binOp, h1, Sem.run_pure]
        · cases h
  · cases hu; cases hv
    split at h
    · rename_i hI
      have := nilIface_eq (P := P) hI
      split at h <;> cases h
      · exact ⟨_, .bool _, fun W => by rw [eqGuard_nil_constR]; simp [binOp, this]⟩
      · exact ⟨_, .bool _, fun W => by rw [eqGuard_nil_constR]; simp [binOp, this]⟩
    · rename_i hI
      have := nilIface_eq (P := P) hI
      split at h <;> cases h
      · exact ⟨_, .bool _, fun W => by rw [eqGuard_nil_constL]; simp [binOp, this]⟩
      · exact ⟨_, .bool _, fun W => by rw [eqGuard_nil_constL]; simp [binOp, this]⟩
    · cases h
  · exact abin_sound h hu hv
theorem atypeAssert_sound {P : Program} {φ : Phi} {x x' v : Value} {xt at_ : TypeId} {ok : Bool} (h : atypeAssert P x at_ ok = some v) (hx : VR φ x x') : Pures P φ (Instr.typeAssert x' xt at_ ok) v := by
  have hz : ∀ z : Value, (plainv z || (definite z && z.cells.all plainv)) = true → VR φ z z := by
    intro z hz
    rw [Bool.or_eq_true, Bool.and_eq_true] at hz
    rcases hz with hz | ⟨hd, hz⟩
    · exact VR.plain hz
    · cases z with
      | agg cs => have := VRA.plain (φ := φ) hz; exact .agg this.1 this.2
      | tuple cs => cases hd
      | _ => first | exact VR.plain (by simpa [Value.cells] using hz) | skip
  have two : ∀ (a b c d : Value), VR φ a c → VR φ b d → VR φ (.tuple #[a, b]) (.tuple #[c, d]) := fun a b c d h1 h2 => .tuple rfl fun i hi hi' => by
    have : i = 0 ∨ i = 1 := by simp at hi; omega
    rcases this with rfl | rfl
    · exact h1
    · exact h2
  unfold atypeAssert at h
  split at h
  · cases h
  · rename_i d hd hu
    have fails : ∀ z, (match (P.info? at_).bind (·.zero) with | some z => if plainv z || (definite z && z.cells.all plainv) then some (Value.tuple #[z, .bool false]) else none | none => none) = some z →
        ∃ u, z = .tuple #[u, .bool false] ∧ VR φ u u ∧ ∀ W, (zeroValue at_).run P W = .ok u W := by
      intro z h
      split at h
      · rename_i u hu2
        split at h
        · rename_i hp
          cases h
          refine ⟨u, rfl, hz u hp, fun W => ?_⟩
          cases hi : P.info? at_ with
          | none => simp [hi] at hu2
          | some i => simp [hi] at hu2; simp [zeroValue, typeInfo, hi, hu2]
        · cases h
      · cases h
    split at h
    · rename_i t u
      cases hx with
      | iface _ hv =>
        rename_i u'
        split at h
        · rename_i ht
          subst ht
          cases h
          cases ok
          · refine ⟨u', hv, fun W => ?_⟩
            simp only [Instr.typeAssert, Sem.run_bind, run_underlying hu, Result.andThen_ok]
            cases d <;> first | exact absurd rfl (hd _) | simp
          · refine ⟨.tuple #[u', .bool true], two _ _ _ _ hv (.bool _), fun W => ?_⟩
            simp only [Instr.typeAssert, Sem.run_bind, run_underlying hu, Result.andThen_ok]
            cases d <;> first | exact absurd rfl (hd _) | simp
        · rename_i ht
          split at h
          · rename_i hok
            subst hok
            obtain ⟨z, rfl, h1, h2⟩ := fails v h
            refine ⟨_, two _ _ _ _ h1 (.bool _), fun W => ?_⟩
            simp only [Instr.typeAssert, Sem.run_bind, run_underlying hu, Result.andThen_ok]
            cases d <;> first | exact absurd rfl (hd _) | simp [ht, h2]
          · cases h
    · cases hx
      split at h
      · rename_i hok
        subst hok
        obtain ⟨z, rfl, h1, h2⟩ := fails v h
        refine ⟨_, two _ _ _ _ h1 (.bool _), fun W => ?_⟩
        simp only [Instr.typeAssert, Sem.run_bind, run_underlying hu, Result.andThen_ok]
        cases d <;> first | exact absurd rfl (hd _) | simp [h2]
      · cases h
    · cases h
  · cases h

theorem amin2_sound {P : Program} {φ : Phi} {x y x' y' v : Value} (h : amin2 x y = some v) (hx : VR φ x x') (hy : VR φ y y') : VR φ v v ∧ ∀ W, (Builtin.min2 x' y').run P W = .ok v W := by
  unfold amin2 at h
  split at h
  · cases h; cases hx; cases hy; exact ⟨.int _ _, fun W => rfl⟩
  · cases h
theorem amax2_sound {P : Program} {φ : Phi} {x y x' y' v : Value} (h : amax2 x y = some v) (hx : VR φ x x') (hy : VR φ y y') : VR φ v v ∧ ∀ W, (Builtin.max2 x' y').run P W = .ok v W := by
  unfold amax2 at h
  split at h
  · cases h; cases hx; cases hy; exact ⟨.int _ _, fun W => rfl⟩
  · cases h
theorem aminmax_sound {P : Program} {φ : Phi} {l : List Operand} {ρ ρ' : Operand → Value} {ts : Array TypeId} {ty : TypeId} {v : Value} {mx : Bool} (h : aminmax mx (l.map ρ) = some v) (hr : ∀ x ∈ l, VR φ (ρ x) (ρ' x)) :
    Pures P φ (if mx then Builtin.max_ ts ty (l.map ρ').toArray else Builtin.min_ ts ty (l.map ρ').toArray) v := by
  have step : ∀ a b c a' b', (if mx then amax2 a b else amin2 a b) = some c → VR φ a a' → VR φ b b' → VR φ c c ∧ ∀ W, (if mx then Builtin.max2 a' b' else Builtin.min2 a' b').run P W = .ok c W := by
    intro a b c a' b' h h1 h2
    cases mx
    · exact amin2_sound (by simpa using h) h1 h2
    · exact amax2_sound (by simpa using h) h1 h2
  match l, h, hr with
  | [], h, _ => simp [aminmax] at h
  | [_], h, _ => simp [aminmax] at h
  | [x, y], h, hr =>
    obtain ⟨h1, h2⟩ := step _ _ _ _ _ (by simpa [aminmax] using h) (hr x (by simp)) (hr y (by simp))
    refine ⟨v, h1, fun W => ?_⟩
    have := h2 W
    cases mx <;> simpa [Builtin.max_, Builtin.min_] using this
  | [x, y, z], h, hr =>
    simp only [aminmax, List.map_cons, List.map_nil, Option.bind_eq_some_iff] at h
    obtain ⟨u, hu1, hu2⟩ := h
    obtain ⟨h1, h2⟩ := step _ _ _ _ _ hu1 (hr x (by simp)) (hr y (by simp))
    obtain ⟨h3, h4⟩ := step _ _ _ _ _ hu2 h1 (hr z (by simp))
    refine ⟨v, h3, fun W => ?_⟩
    have k1 := h2 W
    have k2 := h4 W
    cases mx <;> simp only [Bool.false_eq_true, if_true, if_false] at k1 k2 <;> simp [Builtin.max_, Builtin.min_, k1, k2]
  | _ :: _ :: _ :: _ :: _, h, _ => simp [aminmax] at h
end Go.Proofs.Ytelpdppdhimfoaa
