/- Words of the proofs: the other pure operations over abstract values; one law for all. -/
import Derived.Test.YtelpdppdhimfoaaA2
namespace Go.Proofs.Ytelpdppdhimfoaa
open Go
set_option linter.unusedSimpArgs false
set_option linter.unusedVariables false

/-- What is told of a pure operation: whatever the world, the machine comes to a value that the abstract one stands for. -/
def Pures (P : Program) (φ : Phi) (s : Sem Value) (v : Value) : Prop := ∃ v', VR φ v v' ∧ ∀ W, s.run P W = .ok v' W

theorem addr_add (b o n : Nat) : Addr.add ⟨b, o, none⟩ n = ⟨b, o + n, none⟩ := Addr.add_lit b o n

def aindexAddr (P : Program) (T : TypeId) (x i : Value) : Option Value :=
  match x, i with
  | .pointer (some ⟨g, o, none⟩), .int _ i =>
    match arrT P T with
    | some (n, s) => if 0 ≤ i ∧ i < n then some (.pointer (some ⟨g, o + i.toNat * s, none⟩)) else none
    | none => none
  | .slice (some ⟨g, o, none⟩) n _, .int _ i =>
    match slcT P T with
    | some s => if 0 ≤ i ∧ i < n then some (.pointer (some ⟨g, o + i.toNat * s, none⟩)) else none
    | none => none
  | _, _ => none
theorem aindexAddr_sound {P : Program} {φ : Phi} {T : TypeId} {x i x' i' v : Value} (h : aindexAddr P T x i = some v) (hx : VR φ x x') (hi : VR φ i i') : Pures P φ (Instr.indexAt T x' i') v := by
  unfold aindexAddr at h
  split at h
  · split at h
    · rename_i n s ha
      split at h
      · rename_i hb
        cases h
        obtain ⟨e, hu, hs⟩ := arrT_spec ha
        cases hi
        cases hx with
        | ptr hg =>
          refine ⟨_, .ptr hg, fun W => ?_⟩
          simp only [Instr.indexAt, Sem.run_bind, run_underlying hu, asIntOf, Instr.sureAddr, Sem.run_pure, Result.andThen_ok]
          rw [if_pos hb]
          simp only [Sem.run_bind, szT_spec hs, Result.andThen_ok, Sem.run_pure, addr_add, Nat.add_assoc]
      · cases h
    · cases h
  · split at h
    · rename_i s ha
      split at h
      · rename_i hb
        cases h
        obtain ⟨e, hu, hs⟩ := slcT_spec ha
        cases hi
        cases hx with
        | slice hg hn hr =>
          refine ⟨_, .ptr hg, fun W => ?_⟩
          simp only [Instr.indexAt, Sem.run_bind, run_underlying hu, asIntOf, Sem.run_pure, Result.andThen_ok]
          rw [if_pos hb]
          simp only [Sem.run_bind, szT_spec hs, Result.andThen_ok, Sem.run_pure, addr_add, Nat.add_assoc]
        | empty => exact absurd hb.2 (by have := hb.1; simp; omega)
      · cases h
    · cases h
  · cases h

def afieldAddr (P : Program) (T : TypeId) (x : Value) (f : Nat) : Option Value :=
  match x, fldT P T f with
  | .pointer (some ⟨g, o, none⟩), some (off, t) => match szT P t with
    | some (s + 1) => some (.pointer (some ⟨g, o + off, none⟩))
    | _ => none
  | _, _ => none
theorem afieldAddr_sound {P : Program} {φ : Phi} {T : TypeId} {x x' v : Value} {f : Nat} (h : afieldAddr P T x f = some v) (hx : VR φ x x') : Pures P φ (Instr.fieldAt T x' f) v := by
  unfold afieldAddr at h
  split at h
  · rename_i g o off t hf
    split at h
    · rename_i s hs
      cases h
      obtain ⟨fs, z, hu, hz, rfl, rfl⟩ := fldT_spec hf
      cases hx with
      | ptr hg =>
        refine ⟨_, .ptr hg, fun W => ?_⟩
        simp only [Instr.fieldAt, Sem.run_bind, run_underlying hu, Result.andThen_ok, hz, Instr.sureAddr, Sem.run_pure, fieldPlace, szT_spec hs, Nat.add_one_ne_zero, if_false, addr_add, Nat.add_assoc]
    · cases h
  · cases h

def apart (P : Program) (t : TypeId) (cs : Array Value) (off : Nat) : Option Value :=
  match aggT P t with
  | some (some n) => some (.agg (cs.extract off (off + n)))
  | some none => cs[off]?
  | none => none
theorem apart_sound {P : Program} {φ : Phi} {t : TypeId} {cs cs' : Array Value} {off : Nat} {v : Value} (h : apart P t cs off = some v) (hs : cs.size = cs'.size) (hc : ∀ i (h : i < cs.size) (h' : i < cs'.size), VR φ cs[i] cs'[i]) :
    Pures P φ (part t cs' off) v := by
  unfold apart at h
  split at h
  · rename_i n ha
    cases h
    refine ⟨.agg (cs'.extract off (off + n)), .agg (by simp [hs]) (fun i h1 h2 => ?_), fun W => ?_⟩
    · simp only [Array.getElem_extract]; exact hc _ _ _
    · have hq := aggT_spec ha W
      simp [part, hq.1, szT_spec (hq.2 n rfl)]
  · rename_i ha
    have hlt : off < cs.size := (Array.getElem?_eq_some_iff.1 h).1
    have hv : cs[off] = v := (Array.getElem?_eq_some_iff.1 h).2
    have hlt' : off < cs'.size := by rw [← hs]; exact hlt
    refine ⟨cs'[off], by rw [← hv]; exact hc _ _ _, fun W => ?_⟩
    have hq := aggT_spec ha W
    simp [part, hq.1, hlt']
  · cases h
def afield (P : Program) (T : TypeId) (x : Value) (f : Nat) : Option Value :=
  match x, fldT P T f with
  | .agg cs, some (off, t) => apart P t cs off
  | _, _ => none
theorem afield_sound {P : Program} {φ : Phi} {T : TypeId} {x x' v : Value} {f : Nat} (h : afield P T x f = some v) (hx : VR φ x x') : Pures P φ (Instr.field T x' f) v := by
  unfold afield at h
  split at h
  · rename_i cs off t hf
    obtain ⟨fs, z, hu, hz, rfl, rfl⟩ := fldT_spec hf
    cases hx with
    | agg hs hc =>
      obtain ⟨v', h1, h2⟩ := apart_sound h hs hc
      refine ⟨v', h1, fun W => ?_⟩
      simp only [Instr.field, Sem.run_bind, run_underlying hu, Result.andThen_ok, hz, asAgg, Sem.run_pure, h2]
  · cases h

def aindex (P : Program) (T : TypeId) (x i : Value) : Option Value :=
  match x, i with
  | .agg cs, .int _ i => match P.underlying T with
    | some (.array n e) => match szT P e with
      | some s => if 0 ≤ i ∧ i < n then apart P e cs (i.toNat * s) else none
      | none => none
    | _ => none
  | .string s, .int _ i => if strT P T then (if 0 ≤ i then (s[i.toNat]?).map (fun b => .int .u8 b.toNat) else none) else none
  | _, _ => none
theorem strT_spec {P : Program} {t : TypeId} (h : strT P t = true) : P.underlying t = some .string := by
  unfold strT at h
  split at h
  · assumption
  · cases h
theorem aindex_sound {P : Program} {φ : Phi} {T : TypeId} {x i x' i' v : Value} (h : aindex P T x i = some v) (hx : VR φ x x') (hi : VR φ i i') : Pures P φ (Instr.index T x' i') v := by
  unfold aindex at h
  split at h
  · split at h
    · rename_i n e hu
      split at h
      · rename_i s hs
        split at h
        · rename_i hb
          cases hi
          cases hx with
          | agg hsz hc =>
            obtain ⟨v', h1, h2⟩ := apart_sound h hsz hc
            refine ⟨v', h1, fun W => ?_⟩
            simp only [Instr.index, asIntOf, Sem.run_bind, Sem.run_pure, run_underlying hu, Result.andThen_ok]
            rw [if_pos hb]
            simp only [Sem.run_bind, szT_spec hs, Result.andThen_ok, h2]
        · cases h
      · cases h
    · cases h
  · split at h
    · rename_i ht
      split at h
      · rename_i hb
        cases hi; cases hx
        simp only [Option.map_eq_some_iff] at h
        obtain ⟨b, hb2, rfl⟩ := h
        refine ⟨_, .int _ _, fun W => ?_⟩
        simp only [Instr.index, asIntOf, Sem.run_bind, Sem.run_pure, run_underlying (strT_spec ht), Result.andThen_ok, if_pos hb, hb2]
      · cases h
    · cases h
  · cases h

def loN (lo : Option Value) : Option Nat := match lo with | none => some 0 | some (.int _ i) => if 0 ≤ i then some i.toNat else none | _ => none
def hiN (d : Nat) (hi : Option Value) : Option Nat := match hi with | none => some d | some (.int _ i) => if 0 ≤ i then some i.toNat else none | _ => none
inductive VRO (φ : Phi) : Option Value → Option Value → Prop
  | none : VRO φ none none
  | some {v v' : Value} (h : VR φ v v') : VRO φ (some v) (some v')
/-- x[lo:hi]: of an array's address, a slice, a string. -/
def aslice (P : Program) (T : TypeId) (x : Value) (lo hi : Option Value) : Option Value :=
  match x with
  | .pointer (some ⟨g, o, none⟩) => match arrT P T with
    | some (n, s) => match loN lo, hiN n hi with
      | some l, some h => if l ≤ h ∧ h ≤ n then some (.slice (some ⟨g, o + l * s, none⟩) (h - l) 0) else none
      | _, _ => none
    | none => none
  | .slice none 0 0 => match slcT P T, loN lo, hiN 0 hi with
    | some _, some 0, some 0 => some (.slice none 0 0)
    | _, _, _ => none
  | .slice (some ⟨g, o, none⟩) n e => match slcT P T with
    | some s => match loN lo, hiN n hi with
      | some l, some h => if l ≤ h ∧ h ≤ n then (if l < n ∨ l = 0 then some (.slice (some ⟨g, o + l * s, none⟩) (h - l) (if e = s then e else 0)) else some (.slice (some ⟨g, o + l * s, none⟩) 0 0)) else none
      | _, _ => none
    | none => none
  | .string s => if strT P T then match loN lo, hiN s.size hi with
    | some l, some h => if l ≤ h ∧ h ≤ s.size then some (.string (s.extract l h)) else none
    | _, _ => none else none
  | _ => none

theorem sliceBounds_ok {P : Program} {φ : Phi} {b : Bool} {len cap l h : Nat} {lo hi lo' hi' : Option Value} (hlo : loN lo = some l) (hhi : hiN len hi = some h) (h1 : l ≤ h) (h2 : h ≤ cap) (rl : VRO φ lo lo') (rh : VRO φ hi hi') (W : World) :
    (Instr.sliceBounds b len cap lo' hi' none).run P W = .ok (l, h, cap) W := by
  have hh : ∀ (c : Instr.sliceBound (.int .i64 0) 0 .index = Instr.sliceBound (.int .i64 0) 0 .index), (match hi', (none : Option Value) with
      | some v, some _ => Instr.sliceBound v cap .slice3B
      | some v, none => Instr.sliceBound v cap (if b then .sliceAcap else .sliceAlen)
      | none, none => pure len
      | none, some _ => stuck "Slice: max without high" : Sem Nat).run P W = .ok h W := by
    intro _
    cases rh with
    | none => simp [hiN] at hhi; subst hhi; rfl
    | some hv =>
      rename_i v v'
      cases v <;> simp [hiN] at hhi
      cases hv
      obtain ⟨h3, rfl⟩ := hhi
      simp only [Instr.sliceBound, asIntOf, Sem.run_bind, Sem.run_pure, Result.andThen_ok]
      rw [if_pos ⟨h3, by omega⟩]
      rfl
  have hl : (match lo' with
      | some v => Instr.sliceBound v h (if (none : Option Value).isSome then .slice3C else .sliceB)
      | none => pure 0 : Sem Nat).run P W = .ok l W := by
    cases rl with
    | none => simp [loN] at hlo; subst hlo; rfl
    | some hv =>
      rename_i v v'
      cases v <;> simp [loN] at hlo
      cases hv
      obtain ⟨h3, rfl⟩ := hlo
      simp only [Instr.sliceBound, asIntOf, Sem.run_bind, Sem.run_pure, Result.andThen_ok]
      rw [if_pos ⟨h3, by omega⟩]
      rfl
  unfold Instr.sliceBounds
  simp only [Sem.run_bind, Sem.run_pure, Result.andThen_ok]
  have := hh rfl
  revert this hl
  cases hi' <;> cases lo' <;> intro hl hh <;> simp only [] at hl hh ⊢ <;> simp only [hh, hl, Result.andThen_ok, Sem.run_bind, Sem.run_pure] <;> simp_all

theorem aslice_sound {P : Program} {φ : Phi} {T : TypeId} {x x' v : Value} {lo hi lo' hi' : Option Value} (h : aslice P T x lo hi = some v) (hx : VR φ x x') (rl : VRO φ lo lo') (rh : VRO φ hi hi') :
    Pures P φ (Instr.sliceAt T x' lo' hi' none) v := by
  unfold aslice at h
  split at h
  · -- an array's address
    rename_i g o
    split at h
    · rename_i n s ha
      split at h
      · rename_i l hh hl hH
        split at h
        · rename_i hb
          cases h
          obtain ⟨e, hu, hs⟩ := arrT_spec ha
          have hbd := fun W => sliceBounds_ok (P := P) (b := false) (len := n) (cap := n) (lo := lo) (hi := hi) hl hH hb.1 hb.2 rl rh W
          cases hx with
          | @ptr _ _ bi hg =>
            by_cases hln : n = l
            · have h0 : hh - l = 0 := by omega
              rw [h0]
              refine ⟨_, .empty _ ⟨bi.blk, bi.off + o, none⟩ 0, fun W => ?_⟩
              simp only [Instr.sliceAt, Sem.run_bind, run_underlying hu, Result.andThen_ok, Instr.sureAddr, Sem.run_pure, hbd, szT_spec hs, if_pos hln, h0, show n - l = 0 by omega]
            · refine ⟨_, .slice hg (c' := n - l) (by omega) (.inl rfl), fun W => ?_⟩
              simp only [Instr.sliceAt, Sem.run_bind, run_underlying hu, Result.andThen_ok, Instr.sureAddr, Sem.run_pure, hbd, szT_spec hs, if_neg hln, addr_add, Nat.add_assoc]
        · cases h
      · cases h
    · cases h
  · -- nil
    split at h
    · rename_i s hs hl hH
      cases h
      obtain ⟨e, hu, hs⟩ := slcT_spec hs
      have hbd := fun W => sliceBounds_ok (P := P) (b := true) (len := 0) (cap := 0) (lo := lo) (hi := hi) hl hH (Nat.le_refl _) (Nat.le_refl _) rl rh W
      cases hx
      refine ⟨_, .nilslice, fun W => ?_⟩
      simp only [Instr.sliceAt, Sem.run_bind, run_underlying hu, Result.andThen_ok, Instr.slice, Sem.run_pure, hbd, szT_spec hs, if_true, Nat.sub_self]
    · cases h
  · -- a slice
    rename_i g o n e
    split at h
    · rename_i s hsT
      split at h
      · rename_i l hh hl hH
        split at h
        · rename_i hb
          obtain ⟨et, hu, hs⟩ := slcT_spec hsT
          have hbd := fun c (hc : n ≤ c) W => sliceBounds_ok (P := P) (b := true) (len := n) (cap := c) (lo := lo) (hi := hi) hl hH hb.1 (by omega) rl rh W
          cases hx with
          | empty a a' c' =>
            have hl0 : l = 0 := by omega
            have hh0 : hh = 0 := by omega
            subst hl0; subst hh0
            simp only [or_true, if_true, Nat.zero_mul, Nat.add_zero, Nat.sub_self, ite_self] at h
            cases h
            refine ⟨_, .empty _ a' c', fun W => ?_⟩
            simp only [Instr.sliceAt, Sem.run_bind, run_underlying hu, Result.andThen_ok, Instr.slice, Sem.run_pure, hbd c' (by omega), szT_spec hs, Nat.zero_mul, Option.map_some, Addr.add_zero', Nat.sub_zero, ite_self]
          | @slice _ _ _ _ c' bi hg hn hr =>
            split at h <;> cases h
            · rename_i hln
              refine ⟨.slice (some ⟨bi.blk, bi.off + (o + l * s), none⟩) (hh - l) (c' - l), .slice hg (by omega) ?_, fun W => ?_⟩
              · rcases hr with hr | hr
                · exact .inl (by rw [hr]; exact ite_self 0)
                · by_cases he : e = s
                  case neg => exact .inl (if_neg he)
                  case pos =>
                    subst he
                    rw [if_pos rfl]
                    refine .inr ?_
                    have : l ≤ c' := by omega
                    have : l * e + (c' - l) * e = c' * e := by rw [← Nat.add_mul]; congr 1; omega
                    omega
              · simp only [Instr.sliceAt, Sem.run_bind, run_underlying hu, Result.andThen_ok, Instr.slice, Sem.run_pure, hbd c' hn, szT_spec hs, Option.map_some, addr_add]
                rcases hln with hln | hln
                · rw [if_neg (by omega), Nat.add_assoc]
                · subst hln; simp
            · rename_i hln
              have h0 : hh - l = 0 := by omega
              refine ⟨.slice (some (if c' = l then ⟨bi.blk, bi.off + o, none⟩ else ⟨bi.blk, bi.off + o + l * s, none⟩)) 0 (c' - l), .empty _ _ _, fun W => ?_⟩
              simp only [Instr.sliceAt, Sem.run_bind, run_underlying hu, Result.andThen_ok, Instr.slice, Sem.run_pure, hbd c' hn, szT_spec hs, Option.map_some, addr_add, h0]
              split <;> rfl
        · cases h
      · cases h
    · cases h
  · -- a string
    split at h
    · rename_i s ht
      split at h
      · rename_i l hh hl hH
        split at h
        · rename_i hb
          cases h
          have hbd := fun W => sliceBounds_ok (P := P) (b := false) (len := s.size) (cap := s.size) (lo := lo) (hi := hi) hl hH hb.1 hb.2 rl rh W
          cases hx
          refine ⟨_, .string _, fun W => ?_⟩
          simp only [Instr.sliceAt, Sem.run_bind, run_underlying (strT_spec ht), Result.andThen_ok, Instr.slice, Sem.run_pure, Option.isSome_none, Bool.false_eq_true, if_false, hbd]
        · cases h
      · cases h
    · cases h
  · cases h
end Go.Proofs.Ytelpdppdhimfoaa
