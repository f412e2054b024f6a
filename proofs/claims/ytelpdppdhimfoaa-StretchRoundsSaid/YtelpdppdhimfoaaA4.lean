/- Words of the proofs: build, conversions, interfaces, len, min, max; all pure operations under one name. -/
import Derived.Test.YtelpdppdhimfoaaA3
namespace Go.Proofs.Ytelpdppdhimfoaa
open Go
set_option linter.unusedSimpArgs false
set_option linter.unusedVariables false

def VRA (φ : Phi) (cs cs' : Array Value) : Prop := cs.size = cs'.size ∧ ∀ i (h : i < cs.size) (h' : i < cs'.size), VR φ cs[i] cs'[i]
theorem VRA.push {φ : Phi} {cs cs' : Array Value} {v v' : Value} (h : VRA φ cs cs') (hv : VR φ v v') : VRA φ (cs.push v) (cs'.push v') := by
  refine ⟨by simp [h.1], fun i h1 h2 => ?_⟩
  rw [Array.getElem_push, Array.getElem_push]
  by_cases hi : i < cs.size
  · rw [dif_pos hi, dif_pos (by rw [← h.1]; exact hi)]; exact h.2 i _ _
  · rw [dif_neg hi, dif_neg (by rw [← h.1]; exact hi)]; exact hv
theorem VRA.set {φ : Phi} {cs cs' : Array Value} {v v' : Value} (h : VRA φ cs cs') (n : Nat) (hv : VR φ v v') : VRA φ (cs.setIfInBounds n v) (cs'.setIfInBounds n v') := by
  refine ⟨by simp [h.1], fun i h1 h2 => ?_⟩
  have k1 : i < cs.size := by simpa using h1
  have k2 : i < cs'.size := by simpa using h2
  rw [Array.getElem_setIfInBounds k1, Array.getElem_setIfInBounds k2]
  split
  · exact hv
  · exact h.2 i _ _
theorem VRA.list {φ : Phi} {cs cs' : Array Value} (h : VRA φ cs cs') : VRL φ cs.toList cs'.toList := by
  refine ⟨by simpa using h.1, fun i x y hx hy => ?_⟩
  rw [Array.getElem?_toList] at hx hy
  obtain ⟨h1, rfl⟩ := Array.getElem?_eq_some_iff.1 hx
  obtain ⟨h2, rfl⟩ := Array.getElem?_eq_some_iff.1 hy
  exact h.2 i h1 h2
theorem VRL.arr {φ : Phi} {l l' : List Value} (h : VRL φ l l') : VRA φ l.toArray l'.toArray := by
  refine ⟨by simpa using h.1, fun i h1 h2 => ?_⟩
  simp only [List.getElem_toArray]
  exact h.2 i _ _ (List.getElem?_eq_getElem _) (List.getElem?_eq_getElem _)
def definite (v : Value) : Bool := match v with | .tuple _ => false | _ => true
theorem VR.cells {φ : Phi} {v v' : Value} (h : VR φ v v') (hd : definite v = true) : VRA φ v.cells v'.cells := by
  have one : ∀ a b : Value, VR φ a b → VRA φ #[a] #[b] := fun a b hab => ⟨rfl, fun i h1 h2 => by
    have : i = 0 := by simp at h1; omega
    subst this; exact hab⟩
  cases h with
  | agg hs h => exact ⟨hs, h⟩
  | any v' => cases hd
  | skip => cases hd
  | tuple hs h => cases hd
  | bool b => exact one _ _ (.bool b)
  | int k n => exact one _ _ (.int k n)
  | string s => exact one _ _ (.string s)
  | nilptr => exact one _ _ .nilptr
  | ptr h => exact one _ _ (.ptr h)
  | nilslice => exact one _ _ .nilslice
  | empty a a' c' => exact one _ _ (.empty a a' c')
  | slice h hn hr => exact one _ _ (.slice h hn hr)
  | func fn h1 h2 hc hd' => exact one _ _ (.func fn h1 h2 hc hd')
  | nilFunc => exact one _ _ .nilFunc
  | nilIface => exact one _ _ .nilIface
  | iface t h => exact one _ _ (.iface t h)

theorem fold_VRA {φ : Phi} (off : Nat) : ∀ (l l' : List Value) (k : Nat) (cs cs' : Array Value), VRL φ l l' → VRA φ cs cs' →
    VRA φ ((l.zipIdx k).foldl (fun cs (x : Value × Nat) => cs.setIfInBounds (off + x.2) x.1) cs) ((l'.zipIdx k).foldl (fun cs (x : Value × Nat) => cs.setIfInBounds (off + x.2) x.1) cs')
  | [], [], k, cs, cs', _, h => h
  | [], _ :: _, _, _, _, hl, _ => by have := hl.1; simp at this
  | _ :: _, [], _, _, _, hl, _ => by have := hl.1; simp at this
  | v :: l, v' :: l', k, cs, cs', hl, h => by
    simp only [List.zipIdx_cons, List.foldl_cons]
    refine fold_VRA off l l' (k + 1) _ _ ⟨by have := hl.1; simpa using this, fun i x y hx hy => hl.2 (i + 1) x y (by simpa using hx) (by simpa using hy)⟩ (h.set _ (hl.2 0 v v' rfl rfl))
theorem fill_VRA {φ : Phi} (place : Nat → Option (Nat × Nat)) (ρ ρ' : Operand → Value) : ∀ (parts : List (Nat × Operand)) (cs cs' out : Array Value), (∀ p ∈ parts, definite (ρ p.2) = true) → (∀ p ∈ parts, VR φ (ρ p.2) (ρ' p.2)) → VRA φ cs cs' →
    Instr.fill place cs (parts.map fun p => (p.1, ρ p.2)) = some out → ∃ out', Instr.fill place cs' (parts.map fun p => (p.1, ρ' p.2)) = some out' ∧ VRA φ out out'
  | [], cs, cs', out, _, _, h, e => by simp [Instr.fill] at e; subst e; exact ⟨cs', rfl, h⟩
  | p :: parts, cs, cs', out, hd, hr, h, e => by
    simp only [List.map_cons, Instr.fill] at e ⊢
    have hc := (hr p (by simp)).cells (hd p (by simp))
    split at e
    · cases e
    · rename_i off size hp
      split at e
      · cases e
      · rename_i hn
        have hn' : ¬ ((decide ((ρ' p.2).cells.size ≠ size) || decide (off + (ρ' p.2).cells.size > cs'.size)) = true) := by rw [← hc.1, ← h.1]; exact hn
        rw [if_neg hn']
        refine fill_VRA place ρ ρ' parts _ _ out (fun q hq => hd q (by simp [hq])) (fun q hq => hr q (by simp [hq])) ?_ e
        have := fold_VRA (φ := φ) off (ρ p.2).cells.toList (ρ' p.2).cells.toList 0 cs cs' hc.list h
        rwa [← Array.toList_zipIdx, ← Array.toList_zipIdx, Array.foldl_toList, Array.foldl_toList] at this

def plainv (v : Value) : Bool := match v with | .bool _ | .int _ _ | .string _ | .pointer none | .slice none 0 0 | .nilFunc | .nilIface => true | _ => false
theorem VR.plain {φ : Phi} {v : Value} (h : plainv v = true) : VR φ v v := by
  unfold plainv at h
  split at h
  · exact .bool _
  · exact .int _ _
  · exact .string _
  · exact .nilptr
  · exact .nilslice
  · exact .nilFunc
  · exact .nilIface
  · cases h
theorem VRA.plain {φ : Phi} {cs : Array Value} (h : cs.all plainv = true) : VRA φ cs cs :=
  ⟨rfl, fun i h1 _ => VR.plain (Array.all_eq_true.1 h i h1)⟩
/-- The cells of a type's zero value, where they hold no address. -/
def zeroT (P : Program) (t : TypeId) : Option (Array Value) :=
  match (P.info? t).bind (·.zero) with
  | some z => if z.cells.all plainv then some z.cells else none
  | none => none
theorem zeroT_spec {P : Program} {φ : Phi} {t : TypeId} {cs : Array Value} (h : zeroT P t = some cs) : ∃ i z, P.info? t = some i ∧ i.zero = some z ∧ z.cells = cs ∧ VRA φ cs cs := by
  unfold zeroT at h
  split at h
  · rename_i z hz
    split at h
    · rename_i hp
      cases h
      cases hi : P.info? t with
      | none => simp [hi] at hz
      | some i => simp [hi] at hz; exact ⟨i, z, rfl, hz, rfl, VRA.plain hp⟩
    · cases h
  · cases h
def abuildV (P : Program) (T : TypeId) (parts : List (Nat × Value)) : Option Value :=
  if parts.all (fun p => definite p.2) && (zeroT P T).isSome then (P.built T parts).map .agg else none
theorem built_VRA {P : Program} {φ : Phi} {T : TypeId} {parts : List (Nat × Operand)} {ρ ρ' : Operand → Value} {out : Array Value} (hd : ∀ p ∈ parts, definite (ρ p.2) = true) (hr : ∀ p ∈ parts, VR φ (ρ p.2) (ρ' p.2)) (hz : (zeroT P T).isSome = true)
    (h : P.built T (parts.map fun p => (p.1, ρ p.2)) = some out) : ∃ out', P.built T (parts.map fun p => (p.1, ρ' p.2)) = some out' ∧ VRA φ out out' := by
  obtain ⟨zc, hzc⟩ := Option.isSome_iff_exists.1 hz
  obtain ⟨i, z, hi, hzz, rfl, hzr⟩ := zeroT_spec (φ := φ) hzc
  unfold Program.built at h ⊢
  rw [hi] at h ⊢
  split at h
  · rename_i it n e h1 h2
    cases h1
    simp only [h2, hzz] at h ⊢
    split at h
    · rename_i z' ie h3 h4
      cases h3
      try simp only [h4]
      exact fill_VRA _ ρ ρ' parts _ _ out hd hr hzr h
    · cases h
  · rename_i it fields h1 h2
    cases h1
    simp only [h2, hzz] at h ⊢
    split at h
    · rename_i z' places h3 h4
      cases h3
      try simp only [h4]
      exact fill_VRA _ ρ ρ' parts _ _ out hd hr hzr h
    · cases h
  · cases h
theorem abuild_sound {P : Program} {φ : Phi} {T : TypeId} {parts : Array (Nat × Operand)} {ρ ρ' : Operand → Value} {v : Value} (h : abuildV P T (parts.toList.map fun p => (p.1, ρ p.2)) = some v) (hr : ∀ p ∈ parts.toList, VR φ (ρ p.2) (ρ' p.2)) :
    Pures P φ (Instr.build T (parts.map fun (i, x) => (i, ρ' x))) v := by
  unfold abuildV at h
  split at h
  · rename_i hc
    simp only [Bool.and_eq_true] at hc
    simp only [Option.map_eq_some_iff] at h
    obtain ⟨out, ho, rfl⟩ := h
    have hd : ∀ p ∈ parts.toList, definite (ρ p.2) = true := fun p hp => by
      have := List.all_eq_true.1 hc.1 (p.1, ρ p.2) (List.mem_map.2 ⟨p, hp, rfl⟩)
      exact this
    obtain ⟨out', ho', hv⟩ := built_VRA hd hr hc.2 ho
    refine ⟨.agg out', .agg hv.1 hv.2, fun W => run_build W T _ out' ?_⟩
    rw [Array.toList_map]
    exact ho'
  · cases h

def aunop (op : UnOp) (x : Value) : Option Value :=
  match op, x with
  | .neg, .int k n => some (.int k (k.wrap (0 - n)))
  | .xor, .int k n => some (.int k (bits .xor k (if k.signed then -1 else k.max) n))
  | .not, .bool b => some (.bool !b)
  | _, _ => none
theorem aunop_sound {P : Program} {φ : Phi} {op : UnOp} {x x' v : Value} (h : aunop op x = some v) (hx : VR φ x x') : Pures P φ (Op.unary op x') v := by
  unfold aunop at h
  split at h <;> cases h <;> cases hx
  · exact ⟨_, .int _ _, fun W => rfl⟩
  · exact ⟨_, .int _ _, fun W => rfl⟩
  · exact ⟨_, .bool _, fun W => rfl⟩

def aextract (x : Value) (i : Nat) : Option Value :=
  match x with
  | .tuple vs => if vs.size < 2 then none else vs[i]?
  | _ => none
theorem aextract_sound {P : Program} {φ : Phi} {x x' v : Value} {i : Nat} (h : aextract x i = some v) (hx : VR φ x x') : Pures P φ (Instr.extract x' i) v := by
  unfold aextract at h
  split at h
  · split at h
    · cases h
    · rename_i vs hs
      obtain ⟨hi, rfl⟩ := Array.getElem?_eq_some_iff.1 h
      cases hx with
      | any v' => simp at hi
      | skip => simp at hs
      | tuple hsz hc =>
        rename_i cs'
        have hi' : i < cs'.size := by rw [← hsz]; exact hi
        exact ⟨cs'[i], hc i hi hi', fun W => by simp [Instr.extract, hi']⟩
  · cases h

def aconvInt (P : Program) (src dst : TypeId) (x : Value) : Option Value :=
  match x with
  | .int _ n => if knownT P src then (match intT P dst with | some k => some (.int k (k.wrap n)) | none => none) else none
  | .string s => if strT P src && strT P dst then some (.string s) else none
  | _ => none
theorem knownT_spec {P : Program} {t : TypeId} (h : knownT P t = true) : ∃ d, P.underlying t = some d := Option.isSome_iff_exists.1 h
theorem aconvInt_sound {P : Program} {φ : Phi} {src dst : TypeId} {x x' v : Value} (h : aconvInt P src dst x = some v) (hx : VR φ x x') : Pures P φ (convert src dst x') v := by
  unfold aconvInt at h
  split at h
  · split at h
    · rename_i hk
      obtain ⟨d, hd⟩ := knownT_spec hk
      split at h
      · rename_i k hi
        cases h; cases hx
        exact ⟨_, .int _ _, fun W => by simp [convert, run_underlying hd, run_underlying (intT_spec hi), Conv.intToInt]⟩
      · cases h
    · cases h
  · split at h
    · rename_i hk
      simp only [Bool.and_eq_true] at hk
      cases h; cases hx
      exact ⟨_, .string _, fun W => by simp [convert, run_underlying (strT_spec hk.1), run_underlying (strT_spec hk.2)]⟩
    · cases h
  · cases h

def amakeIface (P : Program) (T : TypeId) (x : Value) : Option Value :=
  match P.underlying T with
  | some (.interface _) => none
  | some _ => some (.iface T x)
  | none => none
theorem amakeIface_sound {P : Program} {φ : Phi} {T : TypeId} {x x' v : Value} (h : amakeIface P T x = some v) (hx : VR φ x x') : Pures P φ (Instr.makeInterface T x') v := by
  unfold amakeIface at h
  split at h
  · cases h
  · rename_i d hd hu
    cases h
    refine ⟨_, .iface T hx, fun W => ?_⟩
    simp only [Instr.makeInterface, Sem.run_bind, run_underlying hu, Result.andThen_ok]
    cases d <;> first | rfl | exact absurd rfl (hd _)
  · cases h

def anilCheck (x : Value) : Option Value :=
  match x with
  | .pointer (some a) => some (.pointer (some a))
  | _ => none

/-- x.(T), T no interface: the dynamic type is asked for. -/
def atypeAssert (P : Program) (x : Value) (asserted : TypeId) (commaOk : Bool) : Option Value :=
  match P.underlying asserted with
  | some (.interface _) => none
  | some _ => match x with
    | .iface t v => if t = asserted then some (if commaOk then .tuple #[v, .bool true] else v)
      else if commaOk then (match (P.info? asserted).bind (·.zero) with | some z => if plainv z || (definite z && z.cells.all plainv) then some (.tuple #[z, .bool false]) else none | none => none) else none
    | .nilIface => if commaOk then (match (P.info? asserted).bind (·.zero) with | some z => if plainv z || (definite z && z.cells.all plainv) then some (.tuple #[z, .bool false]) else none | none => none) else none
    | _ => none
  | none => none

def alen (P : Program) (T : TypeId) (x : Value) : Option Value :=
  match x with
  | .slice _ n _ => if sliceT P T then some (.int .i64 n) else none
  | .string s => if strT P T then some (.int .i64 s.size) else none
  | _ => match P.underlying T with
    | some (.array n _) => some (.int .i64 n)
    | some (.pointer a) => (match P.underlying a with | some (.array n _) => some (.int .i64 n) | _ => none)
    | _ => none
theorem sliceT_spec {P : Program} {t : TypeId} (h : sliceT P t = true) : ∃ e, P.underlying t = some (.slice e) := by
  unfold sliceT at h
  split at h
  · exact ⟨_, ‹_›⟩
  · cases h
theorem alen_sound {P : Program} {φ : Phi} {T ty : TypeId} {x x' v : Value} (h : alen P T x = some v) (hx : VR φ x x') : Pures P φ (Builtin.len_ #[T] ty #[x']) v := by
  unfold alen at h
  split at h
  · split at h
    · rename_i a n e hs
      obtain ⟨et, hu⟩ := sliceT_spec hs
      cases h
      refine ⟨_, .int _ _, fun W => ?_⟩
      cases hx <;> simp [Builtin.len_, run_underlying hu, goInt]
    · cases h
  · split at h
    · rename_i s hs
      cases h; cases hx
      exact ⟨_, .int _ _, fun W => by simp [Builtin.len_, run_underlying (strT_spec hs), goInt]⟩
    · cases h
  · split at h
    · rename_i n e hu
      cases h
      exact ⟨_, .int _ _, fun W => by simp [Builtin.len_, run_underlying hu, goInt]⟩
    · rename_i a hu
      split at h
      · rename_i n e hu2
        cases h
        refine ⟨_, .int _ _, fun W => ?_⟩
        simp [Builtin.len_, run_underlying hu, run_underlying hu2, goInt]
      · cases h
    · cases h

def amin2 (x y : Value) : Option Value :=
  match x, y with
  | .int k a, .int _ b => some (.int k (if b < a then b else a))
  | _, _ => none
def amax2 (x y : Value) : Option Value :=
  match x, y with
  | .int k a, .int _ b => some (.int k (if b > a then b else a))
  | _, _ => none
def aminmax (mx : Bool) (l : List Value) : Option Value :=
  match l with
  | [x, y] => if mx then amax2 x y else amin2 x y
  | [x, y, z] => ((if mx then amax2 x y else amin2 x y)).bind fun v => if mx then amax2 v z else amin2 v z
  | _ => none
end Go.Proofs.Ytelpdppdhimfoaa
