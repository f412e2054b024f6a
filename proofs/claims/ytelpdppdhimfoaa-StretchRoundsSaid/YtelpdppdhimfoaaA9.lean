/- Words of the proofs: the operations that write memory: stores, append, copy. -/
import Derived.Test.YtelpdppdhimfoaaA8
namespace Go.Proofs.Ytelpdppdhimfoaa
open Go
set_option linter.unusedSimpArgs false
set_option linter.unusedVariables false

def cellv (v : Value) : Bool := match v with | .agg _ | .tuple _ => false | _ => true
theorem VR.cellv {φ : Phi} {v v' : Value} (h : VR φ v v') (hc : cellv v = true) : v'.oneCell' = true := by
  cases h <;> first | rfl | cases hc
theorem VRL.cellv {φ : Phi} {l l' : List Value} (h : VRL φ l l') (hc : l.all Go.Proofs.Ytelpdppdhimfoaa.cellv = true) : ∀ v ∈ l', v.oneCell' = true := by
  intro v hv
  obtain ⟨i, hi⟩ := List.mem_iff_getElem?.1 hv
  have hlt : i < l.length := by have := (List.getElem?_eq_some_iff.1 hi).1; rw [h.1]; exact this
  exact (h.2 i _ v (List.getElem?_eq_getElem hlt) hi).cellv (List.all_eq_true.1 hc _ (List.getElem_mem hlt))

/-- cs with vs from place o on. -/
def ovr (cs : List Value) (o : Nat) (vs : List Value) : List Value :=
  match vs with
  | [v] => cs.set o v
  | vs => if o = 0 ∧ vs.length = cs.length then vs else cs.take o ++ vs ++ cs.drop (o + vs.length)
theorem ovr_length {cs vs : List Value} {o : Nat} (h : o + vs.length ≤ cs.length) : (ovr cs o vs).length = cs.length := by
  unfold ovr
  split
  · simp
  · split
    · rename_i hh; exact hh.2
    · simp; omega
theorem ovr_get {cs vs : List Value} {o : Nat} (h : o + vs.length ≤ cs.length) (i : Nat) : (ovr cs o vs)[i]? = if o ≤ i ∧ i < o + vs.length then vs[i - o]? else cs[i]? := by
  have gen : (cs.take o ++ vs ++ cs.drop (o + vs.length))[i]? = if o ≤ i ∧ i < o + vs.length then vs[i - o]? else cs[i]? := by
    rw [List.append_assoc]
    by_cases h1 : i < o
    · rw [if_neg (by omega), List.getElem?_append_left (by simp; omega), List.getElem?_take, if_pos h1]
    · rw [List.getElem?_append_right (by simp; omega)]
      have hl : (cs.take o).length = o := by simp; omega
      rw [hl]
      by_cases h2 : i < o + vs.length
      · rw [if_pos ⟨by omega, h2⟩, List.getElem?_append_left (by omega)]
      · rw [if_neg (by omega), List.getElem?_append_right (by omega), List.getElem?_drop]
        congr 1; omega
  unfold ovr
  split
  · rename_i v
    simp only [List.length_singleton] at h ⊢
    rw [List.getElem?_set]
    by_cases hi : o = i
    · subst hi
      rw [if_pos rfl, if_pos (by omega), if_pos (by omega)]; simp
    · rw [if_neg hi, if_neg (by omega)]
  · split
    · rename_i hh
      obtain ⟨h0, hl⟩ := hh
      subst h0
      by_cases hi : i < vs.length
      · rw [if_pos ⟨Nat.zero_le _, by omega⟩, Nat.sub_zero]
      · rw [if_neg (by omega), List.getElem?_eq_none (by omega), List.getElem?_eq_none (by omega)]
    · exact gen

/-- An owned block's cells are written by the machine, from a place on. -/
theorem Sim.write {φ : Phi} {H : AH} {W : World} (h : Sim φ H W) {g : Nat} {cs vs vs' : List Value} {bi : BI} {o : Nat} (hg : H[g]? = some (.own cs)) (hφ : φ g = some bi) (hl : o + vs.length ≤ cs.length) (hv : VRL φ vs vs') :
    (∀ j, j < vs'.length → (W.cell? ⟨bi.blk, bi.off + o + j, none⟩).isSome = true) ∧ (∀ j, j < vs'.length → W.frozen? ⟨bi.blk, bi.off + o + j, none⟩ = false) ∧
    Sim φ (H.set g (.own (ovr cs o vs))) (W.setCells bi.blk (bi.off + o) vs') ∧ Ev φ H W φ (H.set g (.own (ovr cs o vs))) (W.setCells bi.blk (bi.off + o) vs') := by
  obtain ⟨C, ty, fr, h1, h2, h3, h4, h5⟩ := h.own g cs bi hg hφ
  have hlen := hv.1
  obtain ⟨C', e1, e2, e3, e4⟩ := setCells_heap bi.blk vs' (bi.off + o) W C ty fr h1 (by omega)
  obtain ⟨m1, m2, m3, m4⟩ := setCells_meta bi.blk vs' (bi.off + o) W
  refine ⟨fun j hj => ?_, fun j hj => ?_, ?_, ?_⟩
  · have : bi.off + o + j < C.size := by omega
    simp [World.cell?, h1, this]
  · have hj' : bi.off + o + j < C.size := by omega
    have := frNo h3 (bi.off + o + j) hj'
    simp only [World.frozen?, h1]
    rcases fr with ⟨lo, hi⟩
    simp only at this ⊢
    rw [Bool.eq_false_iff]
    simp only [ne_eq, Bool.and_eq_true, decide_eq_true_eq]
    exact this
  · refine h.update hg hφ m4 (fun b hb => setCells_other _ _ _ _ _ hb) ⟨C', ty, fr, e1, by rw [e2, h2], by rw [e2]; exact h3, by rw [e2, ovr_length hl]; exact h4, fun i v hi => ?_⟩
    rw [ovr_get hl] at hi
    split at hi
    · rename_i hin
      obtain ⟨v', d1, d2⟩ := hv.get hi
      refine ⟨v', ?_, d2⟩
      have := e4 (i - o) v' d1
      rwa [show bi.off + o + (i - o) = bi.off + i by omega] at this
    · rename_i hin
      obtain ⟨v', d1, d2⟩ := h5 i v hi
      exact ⟨v', by rw [e3 _ (by omega)]; exact d1, d2⟩
  · exact Ev.update hg hφ m4 (fun b hb => setCells_other _ _ _ _ _ hb) m1 m2 m3

/-- What is told of an operation that writes. -/
def Writes (P : Program) (φ : Phi) (H : AH) (W : World) (s : Sem Next) (v : Option Value) (H' : AH) : Prop :=
  ∃ (φ' : Phi) (W' : World), Sim φ' H' W' ∧ Ev φ H W φ' H' W' ∧ match v with
    | none => s.run P W = .ok .skip W'
    | some v => ∃ v', VR φ' v v' ∧ s.run P W = .ok (.value v') W'

def astore (P : Program) (H : AH) (t : TypeId) (a x : Value) : Option AH :=
  match a with
  | .pointer (some ⟨g, o, none⟩) => match H[g]? with
    | some (.own cs) => if definite x = true ∧ x.cells.toList.all cellv = true ∧ szT P t = some x.cells.toList.length ∧ o + x.cells.toList.length ≤ cs.length then some (H.set g (.own (ovr cs o x.cells.toList))) else none
    | _ => none
  | _ => none
theorem astore_sound {P : Program} {φ : Phi} {H H' : AH} {W : World} {t : TypeId} {a x a' x' : Value} (hS : Sim φ H W) (h : astore P H t a x = some H') (ha : VR φ a a') (hx : VR φ x x') :
    ∃ W', Sim φ H' W' ∧ Ev φ H W φ H' W' ∧ (Instr.storeAt t a' x').run P W = .ok () W' := by
  unfold astore at h
  split at h
  · rename_i g o
    split at h
    · rename_i cs hg
      split at h
      · rename_i hc
        cases h
        obtain ⟨h1, h2, h3, h4⟩ := hc
        cases ha with
        | @ptr _ _ bi hφ =>
          have hv := (hx.cells h1)
          obtain ⟨k1, k2, k3, k4⟩ := hS.write hg hφ h4 hv.list
          refine ⟨_, k3, k4, ?_⟩
          have hst := run_storeCells_cells (P := P) bi.blk (bi.off + o) x'.cells.toList 0 W (by simpa using k1) (by simpa using k2) (hv.list.cellv h2)
          simp only [Nat.add_zero] at hst
          have hsz : x'.cells.size = x.cells.toList.length := by simp [hv.1]
          simp [Instr.storeAt, Instr.sureAddr, storeVar, szT_spec h3, hsz, hst]
      · cases h
    · cases h
  · cases h

/-- What an append's, or a copy's, second argument yields. -/
def asrc (P : Program) (H : AH) (tx : TypeId) (x : Value) (size : Nat) : Option (List Value × Nat) :=
  match x with
  | .slice none 0 0 => if sliceT P tx then some ([], 0) else none
  | .slice (some ⟨g, o, none⟩) n _ => if sliceT P tx then (if n = 0 then some ([], 0) else match H.cells g with
    | some cs => if o + n * size ≤ cs.length ∧ ((cs.drop o).take (n * size)).all cellv = true then some ((cs.drop o).take (n * size), n) else none
    | none => none) else none
  | .string s => if strT P tx && size == 1 then some (s.data.toList.map fun x => .int .u8 x.toNat, s.size) else none
  | _ => none
theorem asrc_sound {P : Program} {φ : Phi} {H : AH} {W : World} {tx : TypeId} {x x' : Value} {size n : Nat} {news : List Value} (hS : Sim φ H W) (h : asrc P H tx x size = some (news, n)) (hx : VR φ x x') :
    ∃ news', VRL φ news news' ∧ Src P size tx x' n news' W ∧ ∀ k, k ≤ n → (Builtin.firstCells size k x').run P W = .ok (news'.take (k * size)).toArray W := by
  unfold asrc at h
  split at h
  · split at h
    · rename_i ht
      cases h; cases hx
      obtain ⟨e, hu⟩ := sliceT_spec ht
      exact ⟨[], .nil, Src.ofNil W hu 0, fun k hk => by simp [Builtin.firstCells]⟩
    · cases h
  · rename_i g o n cc
    split at h
    · rename_i ht
      obtain ⟨e, hu⟩ := sliceT_spec ht
      split at h
      · rename_i hn
        cases h; subst hn
        have key : ∀ a c, Src P size tx (.slice (some a) 0 c) 0 [] W := fun a c => Src.ofSlice W hu a 0 c [] (by simp) (fun j u hu => by simp at hu) (fun u hu => by simp at hu)
        have key2 : ∀ (a : Addr) c k, k ≤ 0 → (Builtin.firstCells size k (.slice (some a) 0 c)).run P W = .ok (([] : List Value).take (k * size)).toArray W := fun a c k hk => by
          have : k = 0 := by omega
          subst this
          have := run_loadCells_list (P := P) W a [] (by simp)
          simpa [Builtin.firstCells] using this
        cases hx
        · exact ⟨[], .nil, key _ _, key2 _ _⟩
        · exact ⟨[], .nil, key _ _, key2 _ _⟩
      · rename_i hn
        split at h
        · rename_i cs hg
          split at h
          · rename_i hc
            cases h
            cases hx with
            | empty => exact absurd rfl hn
            | @slice _ _ _ _ c' bi hφ hnc hr =>
              obtain ⟨vs', h1, h2⟩ := hS.range hg hφ o (n * size)
              have hlen : vs'.length = n * size := by rw [← h1.1]; simp; omega
              refine ⟨vs', h1, Src.ofSlice W hu _ n c' vs' hlen h2 (h1.cellv hc.2), fun k hk => ?_⟩
              have hk' : k * size ≤ n * size := Nat.mul_le_mul_right _ hk
              have := run_loadCells_list (P := P) W ⟨bi.blk, bi.off + o, none⟩ (vs'.take (k * size)) (fun j v hv => by
                rw [List.getElem?_take] at hv
                split at hv
                · exact h2 j v hv
                · cases hv)
              rw [List.length_take, hlen, Nat.min_eq_left hk'] at this
              simpa [Builtin.firstCells] using this
          · cases h
        · cases h
    · cases h
  · split at h
    · rename_i s ht
      simp only [Bool.and_eq_true, beq_iff_eq] at ht
      obtain ⟨h1, rfl⟩ := ht
      cases h; cases hx
      refine ⟨byteCells s, ⟨by simp [byteCells], fun i v v' hv hv' => ?_⟩, Src.ofString W (strT_spec h1) s, fun k hk => ?_⟩
      · unfold byteCells at hv'
        rw [hv] at hv'
        cases hv'
        rw [List.getElem?_map, Option.map_eq_some_iff] at hv
        obtain ⟨b, _, rfl⟩ := hv
        exact .int _ _
      · simp only [Builtin.firstCells, Sem.run_pure, byteCells, Nat.mul_one]
        congr 1
        apply Array.ext'
        have hb : s.data.size = s.size := rfl
        simp only [Array.toList_map, ← List.map_take]
        congr 1
        apply List.ext_getElem?
        intro i
        rw [Array.getElem?_toList, List.getElem?_take, Array.getElem?_toList, ByteArray.data_extract, Array.getElem?_extract]
        simp only [Nat.sub_zero, Nat.zero_add]
        by_cases hi : i < k
        · rw [if_pos hi, if_pos (by rw [hb]; omega)]
        · rw [if_neg hi, if_neg (by rw [hb]; omega)]
    · cases h
  · cases h
end Go.Proofs.Ytelpdppdhimfoaa
