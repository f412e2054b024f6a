/- Words of the proofs: the operations that read memory, and those that make memory. -/
import Derived.Test.YtelpdppdhimfoaaA7
import Derived.Laws.IdiomStrings
namespace Go.Proofs.Ytelpdppdhimfoaa
open Go
set_option linter.unusedSimpArgs false
set_option linter.unusedVariables false

def bytesOf : List Value → Option (List UInt8)
  | [] => some []
  | .int .u8 n :: r => if 0 ≤ n ∧ n < 256 then (bytesOf r).map (UInt8.ofNat n.toNat :: ·) else none
  | _ :: _ => none
def byteSliceT (P : Program) (t : TypeId) : Bool :=
  match P.underlying t with
  | some (.slice e) => (match P.underlying e with | some (.int .u8) => true | _ => false)
  | _ => false
theorem byteSliceT_spec {P : Program} {t : TypeId} (h : byteSliceT P t = true) : ∃ e, P.underlying t = some (.slice e) ∧ P.underlying e = some (.int .u8) := by
  unfold byteSliceT at h
  split at h
  · rename_i e hu
    split at h
    · exact ⟨e, hu, by assumption⟩
    · cases h
  · cases h
theorem bytesOf_spec {φ : Phi} : ∀ (l l' : List Value) (bs : List UInt8), bytesOf l = some bs → VRL φ l l' → l' = bs.map fun b => Value.int .u8 (b.toNat : Int)
  | [], l', bs, h, hv => by
    cases h
    have := hv.1
    simp at this
    simp [List.eq_nil_of_length_eq_zero this.symm]
  | x :: r, [], bs, h, hv => by have := hv.1; simp at this
  | x :: r, x' :: r', bs, h, hv => by
    unfold bytesOf at h
    split at h
    · rename_i e; cases e
    · rename_i n r2 e
      obtain ⟨rfl, rfl⟩ := List.cons.inj e
      split at h
      · rename_i hb
        simp only [Option.map_eq_some_iff] at h
        obtain ⟨bs', hb', rfl⟩ := h
        have h0 := hv.2 0 _ _ rfl rfl
        cases h0
        have ih := bytesOf_spec r r' bs' hb' ⟨by have := hv.1; simpa using this, fun i x y hx hy => hv.2 (i + 1) x y (by simpa using hx) (by simpa using hy)⟩
        rw [ih, List.map_cons]
        congr 2
        have : n.toNat < 256 := by omega
        rw [UInt8.toNat_ofNat_of_lt' (by simpa using this)]
        omega
      · cases h
    · cases h

/-- What a variable's address reads. -/
def aload (P : Program) (H : AH) (t : TypeId) (x : Value) : Option Value :=
  match x with
  | .pointer (some ⟨g, o, none⟩) => match H.cells g, aggT P t with
    | some cs, some (some n) => if o + n ≤ cs.length then some (.agg ((cs.drop o).take n).toArray) else none
    | some cs, some none => cs[o]?
    | _, _ => none
  | _ => none
theorem aload_sound {P : Program} {φ : Phi} {H : AH} {W : World} {t : TypeId} {x x' v : Value} (hS : Sim φ H W) (h : aload P H t x = some v) (hx : VR φ x x') :
    ∃ v' a, x' = .pointer (some a) ∧ VR φ v v' ∧ (loadVar t a).run P W = .ok v' W := by
  unfold aload at h
  split at h
  · rename_i g o
    cases hx with
    | @ptr _ _ bi hφ =>
      split at h
      · rename_i cs n hg ha
        split at h
        · rename_i hl
          cases h
          obtain ⟨vs', h1, h2⟩ := hS.range hg hφ o n
          have hlen : vs'.length = n := by rw [← h1.1]; simp; omega
          have hrun := run_loadCells_list (P := P) W ⟨bi.blk, bi.off + o, none⟩ vs' h2
          rw [hlen] at hrun
          have hA := aggT_spec ha W
          exact ⟨.agg vs'.toArray, _, rfl, .agg h1.arr.1 h1.arr.2, by simp [loadVar, hA.1, szT_spec (hA.2 n rfl), hrun]⟩
        · cases h
      · rename_i cs hg ha
        obtain ⟨v', h1, h2⟩ := hS.cell hg hφ h
        have hA := aggT_spec ha W
        exact ⟨v', _, rfl, h2, by simp [loadVar, hA.1, load, Sem.run, h1]⟩
      · cases h
  · cases h

/-- What an operation reads. -/
def aread (P : Program) (ρ : Operand → Value) (H : AH) (op : Op) : Option Value :=
  match op with
  | .load t x => aload P H t (ρ x)
  | .convert s d x => if byteSliceT P s && strT P d then (match ρ x with
    | .slice none 0 0 => some (.string ⟨#[]⟩)
    | .slice (some ⟨g, o, none⟩) n _ => if n = 0 then some (.string ⟨#[]⟩) else match H.cells g with
      | some cs => if o + n ≤ cs.length then (bytesOf ((cs.drop o).take n)).map fun l => .string ⟨l.toArray⟩ else none
      | none => none
    | _ => none) else none
  | _ => none

theorem aread_sound {P : Program} {φ : Phi} {H : AH} {W : World} {ρ ρ' : Operand → Value} {o : Oper} {v : Value} (hS : Sim φ H W) (h : aread P ρ H o.op = some v) (hr : ∀ x ∈ o.op.operands, VR φ (ρ x) (ρ' x)) :
    ∃ v', VR φ v v' ∧ (execOp ρ' o).run P W = .ok (.value v') W := by
  obtain ⟨dst, op, ty, pos, after, guard⟩ := o
  cases op <;> simp only [aread, reduceCtorEq] at h
  case load t x =>
    obtain ⟨v', a, h1, h2, h3⟩ := aload_sound hS h (hr x (by simp [Op.operands]))
    exact ⟨v', h2, by simp [execOp, h1, Instr.loadAt, Instr.sureAddr, h3]⟩
  case convert s d x =>
    have hx := hr x (by simp [Op.operands])
    split at h
    · rename_i hc
      simp only [Bool.and_eq_true] at hc
      obtain ⟨e, hu, he⟩ := byteSliceT_spec hc.1
      have hd := strT_spec hc.2
      split at h
      · rename_i hp
        cases h
        rw [hp] at hx
        generalize hq : ρ' x = q at hx
        cases hx
        exact ⟨_, .string _, by simp [execOp, hq, run_convert_bytes_nil W s e hu he, convert, run_underlying hu, run_underlying hd, run_underlying he, Conv.bytesToString]; rfl⟩
      · rename_i g o n c hp
        rw [hp] at hx
        generalize hq : ρ' x = q at hx
        split at h
        · rename_i hn
          cases h
          subst hn
          refine ⟨_, .string _, ?_⟩
          have key : ∀ (a : Addr) c, (convert s d (.slice (some a) 0 c)).run P W = .ok (.string ⟨#[]⟩) W := fun a c => by
            have := run_convert_bytes_back W s d e a c [] hu he hd (fun j hj => by simp at hj)
            simpa using this
          cases hx <;> simp [execOp, hq, key]
        · rename_i hn
          split at h
          · rename_i cs hg
            split at h
            · rename_i hl
              simp only [Option.map_eq_some_iff] at h
              obtain ⟨bs, hb, rfl⟩ := h
              cases hx with
              | empty => exact absurd rfl hn
              | @slice _ _ _ _ c' bi hφ hnc hrm =>
                obtain ⟨vs', h1, h2⟩ := hS.range hg hφ o n
                have hvs := bytesOf_spec _ _ _ hb h1
                have hlen : bs.length = n := by
                  have : vs'.length = n := by rw [← h1.1]; simp; omega
                  rw [hvs] at this; simpa using this
                have := run_convert_bytes_back W s d e ⟨bi.blk, bi.off + o, none⟩ c' bs hu he hd (fun j hj => by
                  refine h2 j _ ?_
                  rw [hvs]; simp [hj])
                rw [hlen] at this
                exact ⟨_, .string _, by simp [execOp, hq, this]⟩
            · cases h
          · cases h
      · cases h
    · cases h

def zerosL (z : Array Value) (n : Nat) : List Value := if z.size = 1 then List.replicate n (z.getD 0 undef) else (madeCells z (n * z.size)).toList
/-- What an operation makes: the new block's cells, and its value once the block has a number. -/
def anew (P : Program) (ρ : Operand → Value) (op : Op) : Option (List Value × (Nat → Value)) :=
  match op with
  | .alloc t => (zeroT P t).map fun z => (z.toList, fun g => .pointer (some ⟨g, 0, none⟩))
  | .box _ x => if definite (ρ x) then some ((ρ x).cells.toList, fun g => .pointer (some ⟨g, 0, none⟩)) else none
  | .buildSlice t len parts => match P.underlying t with
    | some (.slice e) => match szT P e with
      | some s => if len * s ≤ 16777216 ∧ parts.all (fun p => definite (ρ p.2)) = true then
          match (if len * s = 0 then some #[] else (zeroT P e).bind fun z => if z.size = s then some z else none) with
          | some z => (Instr.fill (fun i => some (i * s, s)) ((Array.range (len * s)).map (z[· % z.size]!)) (parts.toList.map fun p => (p.1, ρ p.2))).map fun cs => (cs.toList, fun g => .slice (some ⟨g, 0, none⟩) len s)
          | none => none
        else none
      | none => none
    | _ => none
  | .makeSlice t l c => match P.underlying t, ρ l, ρ c with
    | some (.slice e), .int _ l, .int _ c => match P.info? e, zeroT P e with
      | some i, some z => if 0 ≤ l ∧ l ≤ c ∧ (i.bytes : Int) * c ≤ 281474976710656 ∧ c ≤ 9223372036854775807 ∧ z.size = i.size then some (zerosL z l.toNat, fun g => .slice (some ⟨g, 0, none⟩) l.toNat i.size) else none
      | _, _ => none
    | _, _, _ => none
  | .convert s d x => match ρ x with
    | .string b => if strT P s && byteSliceT P d then some (b.data.toList.map fun x => .int .u8 x.toNat, fun g => .slice (some ⟨g, 0, none⟩) b.size 1) else none
    | _ => none
  | _ => none

/-- What is told of an operation that makes memory: whatever the world, one new block. -/
def News (P : Program) (φ : Phi) (s : Sem Next) (cs : List Value) (vf : Nat → Value) : Prop :=
  ∀ W : World, ∃ (C : Array Value) (ty : TypeId) (fr : Nat × Nat) (v' : Value) (W1 : World), s.run P W = .ok (.value v') W1 ∧ W1.heap = W.heap.push (.cells C ty fr) ∧ W1.os = W.os ∧ W1.tape = W.tape ∧ W1.output = W.output ∧
    (fr.1 = fr.2 ∨ C.size ≤ fr.1) ∧ cs.length ≤ C.size ∧ (∀ (i : Nat) (v : Value), cs[i]? = some v → ∃ v', C[i]? = some v' ∧ VR φ v v') ∧
    ∀ (φ' : Phi) (g : Nat), φ' g = some ⟨W.heap.size, 0, C.size⟩ → VR φ' (vf g) v'
theorem rel_of_VRA {φ : Phi} {cs cs' : Array Value} (h : VRA φ cs cs') : ∀ (i : Nat) (v : Value), cs.toList[i]? = some v → ∃ v', cs'[i]? = some v' ∧ VR φ v v' := by
  intro i v hv
  rw [Array.getElem?_toList] at hv
  obtain ⟨h1, rfl⟩ := Array.getElem?_eq_some_iff.1 hv
  have h2 : i < cs'.size := by rw [← h.1]; exact h1
  exact ⟨cs'[i], Array.getElem?_eq_getElem h2, h.2 i h1 h2⟩
theorem nofr (C : Array Value) : ((0, 0) : Nat × Nat).1 = ((0, 0) : Nat × Nat).2 ∨ C.size ≤ ((0, 0) : Nat × Nat).1 := .inl rfl
theorem frNo {n : Nat} {fr : Nat × Nat} (h : fr.1 = fr.2 ∨ n ≤ fr.1) : ∀ j, j < n → ¬ (fr.1 ≤ j ∧ j < fr.2) := fun j hj => by omega
theorem range_map_VRA {φ : Phi} {z z' : Array Value} (h : VRA φ z z') (n : Nat) (hz : 0 < n → 0 < z.size) : VRA φ ((Array.range n).map (z[· % z.size]!)) ((Array.range n).map (z'[· % z'.size]!)) := by
  refine ⟨by simp, fun i h1 h2 => ?_⟩
  have hn : 0 < n := by simp at h1; omega
  have hp := hz hn
  simp only [Array.getElem_map, Array.getElem_range]
  have e1 : i % z.size < z.size := Nat.mod_lt _ hp
  have e2 : i % z'.size < z'.size := by rw [← h.1]; exact e1
  rw [getElem!_pos z _ e1, getElem!_pos z' _ e2]
  have := h.2 (i % z.size) e1 (by rw [← h.1]; exact e1)
  simpa only [← h.1] using this

theorem anew_sound {P : Program} {φ : Phi} {ρ ρ' : Operand → Value} {o : Oper} {cs : List Value} {vf : Nat → Value} (h : anew P ρ o.op = some (cs, vf)) (hr : ∀ x ∈ o.op.operands, VR φ (ρ x) (ρ' x)) :
    News P φ (execOp ρ' o) cs vf := by
  obtain ⟨dst, op, ty, pos, after, guard⟩ := o
  intro W
  cases op <;> simp only [anew, reduceCtorEq] at h
  case alloc t =>
    simp only [Option.map_eq_some_iff] at h
    obtain ⟨z, hz, he⟩ := h
    cases he
    obtain ⟨i, zv, hi, hzz, rfl, hzr⟩ := zeroT_spec (φ := φ) hz
    refine ⟨zv.cells, t, (0, 0), .pointer (some ⟨W.heap.size, 0, none⟩), W.alloc (.cells zv.cells t), ?_, rfl, rfl, rfl, rfl, nofr _, by simp, rel_of_VRA hzr, fun φ' g hg => ?_⟩
    · simp [execOp, Instr.alloc, zeroValue, typeInfo, hi, hzz, newVar, newRow]
    · have := VR.ptr (φ := φ') (o := 0) hg
      simpa using this
  case box t x =>
    split at h
    · rename_i hd
      cases h
      have hx := (hr x (by simp [Op.operands])).cells hd
      refine ⟨(ρ' x).cells, t, (0, 0), .pointer (some ⟨W.heap.size, 0, none⟩), W.alloc (.cells (ρ' x).cells t), ?_, rfl, rfl, rfl, rfl, nofr _, by simp [hx.1], rel_of_VRA hx, fun φ' g hg => ?_⟩
      · simp [execOp, Instr.box, newVar, newRow]
      · have := VR.ptr (φ := φ') (o := 0) hg
        simpa using this
    · cases h
  case buildSlice t len parts =>
    split at h
    · rename_i e hu
      split at h
      · rename_i s hs
        split at h
        · rename_i hc
          split at h
          · rename_i z hz
            simp only [Option.map_eq_some_iff] at h
            obtain ⟨out, hf, he⟩ := h
            cases he
            have hd : ∀ p ∈ parts.toList, definite (ρ p.2) = true := fun p hp => Array.all_eq_true_iff_forall_mem.1 hc.2 p (by simpa using hp)
            have hrp : ∀ p ∈ parts.toList, VR φ (ρ p.2) (ρ' p.2) := fun p hp => hr _ (by simp only [Op.operands, List.mem_toArray, List.mem_map]; exact ⟨p, hp, rfl⟩)
            have hzz : VRA φ ((Array.range (len * s)).map (z[· % z.size]!)) ((Array.range (len * s)).map (z[· % z.size]!)) ∧ (len * s = 0 → z = #[]) ∧ (len * s ≠ 0 → ∀ W, (zeroValue e).run P W = .ok (((P.info? e).bind (·.zero)).getD undef) W ∧ (((P.info? e).bind (·.zero)).getD undef).cells = z) := by
              by_cases h0 : len * s = 0
              · rw [if_pos h0] at hz; cases hz
                refine ⟨⟨rfl, fun i h1 _ => ?_⟩, fun _ => rfl, fun hne => absurd h0 hne⟩
                simp [h0] at h1
              · rw [if_neg h0] at hz
                rw [Option.bind_eq_some_iff] at hz
                obtain ⟨zc, hzc, hz⟩ := hz
                split at hz
                · rename_i hzs
                  cases hz
                  obtain ⟨i, zv, hi, hzz, rfl, hzr⟩ := zeroT_spec (φ := φ) hzc
                  have hz0 : 0 < zv.cells.size := Nat.pos_of_ne_zero fun e => h0 (by rw [← hzs, e]; simp)
                  exact ⟨range_map_VRA hzr _ (fun _ => hz0), fun e => absurd e h0, fun _ W => ⟨by simp [zeroValue, typeInfo, hi, hzz], by simp [hi, hzz]⟩⟩
                · cases hz
            obtain ⟨out', hf', hv⟩ := fill_VRA (φ := φ) (fun i => some (i * s, s)) ρ ρ' parts.toList _ _ out hd hrp hzz.1 hf
            have hsz : out'.size = len * s := by
              have hfs : ∀ (pl : Nat → Option (Nat × Nat)) (ps : List (Nat × Value)) (c d : Array Value), Instr.fill pl c ps = some d → d.size = c.size := by
                intro pl ps
                induction ps with
                | nil => intro c d h; simp [Instr.fill] at h; rw [← h]
                | cons p ps ih =>
                  intro c d h
                  simp only [Instr.fill] at h
                  split at h
                  · cases h
                  · split at h
                    · cases h
                    · rw [ih _ _ h]
                      have : ∀ (l : List (Value × Nat)) (off : Nat) (c : Array Value), (l.foldl (fun cs (x : Value × Nat) => cs.setIfInBounds (off + x.2) x.1) c).size = c.size := by
                        intro l off
                        induction l with
                        | nil => intro c; rfl
                        | cons x l ih => intro c; rw [List.foldl_cons, ih]; simp
                      rw [← Array.foldl_toList]
                      exact this _ _ _
              rw [hfs _ _ _ _ hf']; simp
            refine ⟨out', e, (0, 0), .slice (some ⟨W.heap.size, 0, none⟩) len len, W.alloc (.cells out' e), ?_, rfl, rfl, rfl, rfl, nofr _, by simp [hv.1], rel_of_VRA hv, fun φ' g hg => ?_⟩
            · have hsr := szT_spec hs
              have hnot : ¬ (len * s > 2 ^ 24) := by have := hc.1; omega
              have hrun : (Instr.buildSlice t len (parts.map fun p => (p.1, ρ' p.2))).run P W = .ok (.slice (some ⟨W.heap.size, 0, none⟩) len len) (W.alloc (.cells out' e)) := by
                have hparts : (parts.map fun p => (p.1, ρ' p.2)).toList = parts.toList.map fun p => (p.1, ρ' p.2) := by simp
                simp only [Instr.buildSlice, Sem.run_bind, run_underlying hu, Result.andThen_ok, hsr, if_neg hnot, Sem.run_pure, hparts]
                by_cases h0 : len * s = 0
                · have := hzz.2.1 h0
                  subst this
                  simp only [if_pos h0, Sem.run_pure, Result.andThen_ok, hf', Sem.run_bind, newRow]
                  rfl
                · obtain ⟨hz1, hz2⟩ := hzz.2.2 h0 W
                  simp only [if_neg h0, Sem.run_bind, Sem.run_pure, Result.andThen_ok, hz1, hz2, hf', newRow]
                  rfl
              simp only [execOp, Sem.run_bind]
              show ((Instr.buildSlice t len (parts.map fun p => (p.1, ρ' p.2))).run P W).andThen _ = _
              rw [hrun]
              rfl
            · have := VR.slice (φ := φ') (o := 0) (n := len) (e := s) (c' := len) hg (Nat.le_refl _) (.inr (by simp [hsz]))
              simpa using this
          · cases h
        · cases h
      · cases h
    · cases h
  case makeSlice t lx cx =>
    split at h
    · rename_i e kl l kc c hu hl hcv
      split at h
      · rename_i i z hi hz
        split at h
        · rename_i hc
          cases h
          obtain ⟨i', zv, hi', hzz, rfl, hzr⟩ := zeroT_spec (φ := φ) hz
          rw [hi] at hi'; cases hi'
          have h1 := hr lx (by simp [Op.operands])
          have h2 := hr cx (by simp [Op.operands])
          rw [hl] at h1; rw [hcv] at h2
          have e1 : ρ' lx = .int kl l := h1.scalar rfl
          have e2 : ρ' cx = .int kc c := h2.scalar rfl
          have hrun := run_make (P := P) W t e i zv hu hi hzz kl kc l c hc.1 hc.2.1 hc.2.2.1 hc.2.2.2.1
          refine ⟨madeCells zv.cells (c.toNat * i.size), e, (0, 0), .slice (some ⟨W.heap.size, 0, none⟩) l.toNat c.toNat, W.alloc (.cells (madeCells zv.cells (c.toNat * i.size)) e), by simp [execOp, e1, e2, hrun], rfl, rfl, rfl, rfl, nofr _, ?_, ?_, fun φ' g hg => ?_⟩
          · unfold zerosL
            have hle : l.toNat ≤ c.toNat := by omega
            split
            · rename_i hs1; simp [size_madeCells, ← hc.2.2.2.2, hs1]; omega
            · simp [size_madeCells, ← hc.2.2.2.2]; exact Nat.mul_le_mul_right _ hle
          · intro j v hv
            have hle : l.toNat ≤ c.toNat := by omega
            have key : ∀ n : Nat, j < n → n ≤ c.toNat * zv.cells.size → 0 < zv.cells.size → ((madeCells zv.cells (c.toNat * i.size))[j]? = some (zv.cells[j % zv.cells.size]!)) ∧ VR φ (zv.cells[j % zv.cells.size]!) (zv.cells[j % zv.cells.size]!) := by
              intro n hj hn hp
              have hj' : j < c.toNat * i.size := by rw [← hc.2.2.2.2]; omega
              refine ⟨by simp [madeCells, hj'], ?_⟩
              have hlt := Nat.mod_lt j hp
              rw [getElem!_pos zv.cells _ hlt]
              exact hzr.2 _ hlt hlt
            unfold zerosL at hv
            split at hv
            · rename_i hs1
              rw [List.getElem?_replicate] at hv
              split at hv
              · rename_i hj
                cases hv
                obtain ⟨k1, k2⟩ := key l.toNat hj (by rw [hs1]; omega) (by omega)
                refine ⟨_, k1, ?_⟩
                have : j % zv.cells.size = 0 := by rw [hs1]; exact Nat.mod_one j
                rw [this] at k2 ⊢
                have : zv.cells[0]! = zv.cells.getD 0 undef := by
                  rw [getElem!_pos zv.cells 0 (by omega)]; simp [hs1]
                rw [← this]; exact k2
              · cases hv
            · rename_i hs1
              rw [Array.getElem?_toList] at hv
              obtain ⟨hj, rfl⟩ := Array.getElem?_eq_some_iff.1 hv
              rw [size_madeCells] at hj
              have hp : 0 < zv.cells.size := Nat.pos_of_ne_zero (fun e => by rw [e] at hj; omega)
              obtain ⟨k1, k2⟩ := key _ hj (Nat.mul_le_mul_right _ hle) hp
              exact ⟨_, k1, by simpa [madeCells] using k2⟩
          · have := VR.slice (φ := φ') (o := 0) (n := l.toNat) (e := i.size) (c' := c.toNat) hg (by omega) (.inr (by simp [size_madeCells]))
            simpa using this
        · cases h
      · cases h
    · cases h
  case convert s d x =>
    split at h
    · rename_i b hb
      split at h
      · rename_i hc
        cases h
        simp only [Bool.and_eq_true] at hc
        obtain ⟨e, hu, he⟩ := byteSliceT_spec hc.2
        have h1 := hr x (by simp [Op.operands])
        rw [hb] at h1
        have e1 : ρ' x = .string b := h1.scalar rfl
        have hrun := run_bytes_of_string (P := P) W s d e b (strT_spec hc.1) hu he
        have hcap : b.size ≤ grownCap W b.size 0 e := by unfold grownCap Question.cut; simp
        have hbs : b.data.size = b.size := rfl
        have hsz : (bytesRow b (grownCap W b.size 0 e)).size = grownCap W b.size 0 e := by simp [bytesRow, hbs]; omega
        refine ⟨bytesRow b (grownCap W b.size 0 e), e, ((bytesRow b (grownCap W b.size 0 e)).size, (bytesRow b (grownCap W b.size 0 e)).size + 1), .slice (some ⟨W.heap.size, 0, none⟩) b.size (grownCap W b.size 0 e), (W.drew.alloc (.cells (bytesRow b (grownCap W b.size 0 e)) e ((bytesRow b (grownCap W b.size 0 e)).size, (bytesRow b (grownCap W b.size 0 e)).size + 1))), by simp [execOp, e1, hrun], rfl, rfl, rfl, rfl, Or.inr (Nat.le_refl _), by rw [hsz]; simpa [hbs] using hcap, fun i v hv => ?_, fun φ' g hg => ?_⟩
        · rw [List.getElem?_map] at hv
          simp only [Option.map_eq_some_iff] at hv
          obtain ⟨y, hy, rfl⟩ := hv
          refine ⟨_, ?_, .int _ _⟩
          have hi : i < b.data.size := by have := (List.getElem?_eq_some_iff.1 hy).1; simpa using this
          rw [Array.getElem?_toList] at hy
          unfold bytesRow
          rw [Array.getElem?_append_left (by simpa using hi), Array.getElem?_map, hy]; rfl
        · have := VR.slice (φ := φ') (o := 0) (n := b.size) (e := 1) (c' := grownCap W b.size 0 e) hg hcap (.inr (by simp [hsz]))
          simpa using this
      · cases h
    · cases h
end Go.Proofs.Ytelpdppdhimfoaa
