/- Words of the proofs: append and copy. Words of the proofs: calls over abstract memory; a region's operations in the text's order. Words of the proofs: code over abstract memory: regions in the text's order, sequences, branches, loops, a function's body. -/
import Derived.Test.YtldfnfpinemedaaDoorA9
import Derived.MapKept
import Derived.DeepKeys3
import Derived.TacticsIn
import Derived.OrdersIn

namespace Go.Proofs.YtldfnfpinemedaaDoor
open Go
set_option linter.unusedSimpArgs false
set_option linter.unusedVariables false

/-- An element type's row of the table: the cells and the bytes of one element, where its zero holds no address. -/
def elemT (P : Program) (t : TypeId) : Option (Nat × Nat) :=
  match P.underlying t with
  | some (.slice e) => match P.info? e, zeroT P e with
    | some i, some z => if z.size = i.size then some (i.size, i.bytes) else none
    | _, _ => none
  | _ => none
theorem elemT_spec {P : Program} {t : TypeId} {s b : Nat} (h : elemT P t = some (s, b)) : ∃ e i z, P.underlying t = some (.slice e) ∧ P.info? e = some i ∧ i.zero = some z ∧ z.cells.size = s ∧ i.size = s ∧ i.bytes = b := by
  unfold elemT at h
  split at h
  · rename_i e hu
    split at h
    · rename_i i z hi hz
      split at h
      · rename_i hs
        cases h
        obtain ⟨i', zv, hi', hzz, rfl, _⟩ := zeroT_spec (φ := fun _ => none) hz
        rw [hi] at hi'; cases hi'
        exact ⟨e, i, zv, hu, hi, hzz, hs, rfl, rfl⟩
      · cases h
    · cases h
  · cases h

/-- What is put behind: cells of a slice or of a string, or as many zeros as a number tells. -/
def asrcZ (P : Program) (H : AH) (t tx : TypeId) (x : Value) (size bytes : Nat) : Option (List Value × Nat) :=
  match P.underlying tx with
  | some (.int _) => match x, P.underlying t with
    | .int .i64 n, some (.slice e) => match zeroT P e with
      | some z => if z.size = 1 ∧ 0 ≤ n ∧ n ≤ 9223372036854775807 ∧ n.toNat * bytes ≤ 281474976710656 then some (List.replicate n.toNat (z.getD 0 undef), n.toNat)
        else if 2 ≤ z.size ∧ 0 ≤ n ∧ n ≤ 9223372036854775807 ∧ n.toNat * bytes ≤ 281474976710656 then some ((Builtin.zeroCells z n.toNat).toList, n.toNat) else none
      | none => none
    | _, _ => none
  | _ => asrc P H tx x size
theorem asrcZ_slice {P : Program} {H : AH} {t tx : TypeId} {x : Value} {size bytes : Nat} (h : sliceT P tx = true) : asrcZ P H t tx x size bytes = asrc P H tx x size := by
  obtain ⟨e, hu⟩ := sliceT_spec h
  unfold asrcZ
  rw [hu]
def aappend (P : Program) (H : AH) (t tx : TypeId) (s x : Value) : Option (Value × AH) :=
  match elemT P t with
  | some (size, bytes) => match asrcZ P H t tx x size bytes with
    | some (news, m) => match s with
      | .slice none 0 0 => if m = 0 then some (.slice none 0 0, H)
        else if m * bytes ≤ 140737488355328 ∧ m ≤ 9223372036854775807 then some (.slice (some ⟨H.length, 0, none⟩) m size, H ++ [.own news]) else none
      | .slice (some ⟨g, o, none⟩) n e => if m = 0 then some (.slice (some ⟨g, o, none⟩) n e, H)
        else match H[g]? with
        | some (.own cs) => if e = size ∧ size ≠ 0 ∧ o + n * size ≤ cs.length ∧ (n + m) * bytes ≤ 140737488355328 ∧ n + m ≤ 9223372036854775807 then
            some (.slice (some ⟨H.length, 0, none⟩) (n + m) size, H.set g .dead ++ [.own ((cs.drop o).take (n * size) ++ news)]) else none
        | _ => none
      | .slice (some ⟨g, o, some c⟩) n e => if m = 0 then some (.slice (some ⟨g, o, some c⟩) n e, H)
        else match H[g]? with
        | some (.own cs) => if e = size ∧ size ≠ 0 ∧ o + n * size ≤ cs.length ∧ (n + m) * bytes ≤ 140737488355328 ∧ n + m ≤ 9223372036854775807 then
            (if n + m ≤ c then (if (o + n * size) + news.length ≤ cs.length then some (.slice (some ⟨g, o, some c⟩) (n + m) size, H.set g (.own (ovr cs (o + n * size) news))) else none)
              else some (.slice (some ⟨H.length, 0, none⟩) (n + m) size, H ++ [.own ((cs.drop o).take (n * size) ++ news)])) else none
        | _ => none
      | _ => none
    | none => none
  | none => none

theorem run_append_nothing' {P : Program} {W : World} {t tx ty e : TypeId} {i : TypeInfo} (ht : P.underlying t = some (.slice e)) (hi : P.info? e = some i) {x : Value} (hs : Src P i.size tx x 0 [] W) (base : Option Addr) (n c : Nat) (hnc : n ≤ c) :
    (Builtin.append_ #[t, tx] ty #[.slice base n c, x]).run P W = .ok (.slice base n c) W := by
  have h1 := hs.len
  have h2 := hs.cells
  rcases hs.kind with ⟨e', hk⟩ | hk <;> cases base <;> simp [Builtin.append_, run_underlying ht, run_underlying hk, sizeOf, typeInfo, hi, h1, h2, hnc, storeCells]

theorem zeroCells_size (z : Array Value) (n : Nat) : (Builtin.zeroCells z n).size = n * z.size := by simp [Builtin.zeroCells]
theorem grownCap_ge (W : World) (need old : Nat) (e : TypeId) : need ≤ grownCap W need old e := by unfold grownCap Question.cut; simp

/-- A new row in the place of an elder one (or of none): what append comes to where there is no room. -/
theorem grow_sim {P : Program} {φ : Phi} {H H1 : AH} {W : World} (hS : Sim φ H W) (hS1 : Sim φ H1 W) (hE1 : Ev φ H W φ H1 W) {olds olds' : List Value} (ho : VRL φ olds olds') {zs : Array Value} {e : TypeId} :
    Sim (φ.upd H1.length ⟨W.heap.size, 0, (olds'.toArray ++ zs).size, false⟩) (H1 ++ [.own olds]) (W.drew.alloc (.cells (olds'.toArray ++ zs) e)) ∧
    Ev φ H W (φ.upd H1.length ⟨W.heap.size, 0, (olds'.toArray ++ zs).size, false⟩) (H1 ++ [.own olds]) (W.drew.alloc (.cells (olds'.toArray ++ zs) e)) := by
  have hn := hS1.fresh_none (Nat.le_refl H1.length)
  have hD : Sim φ H1 W.drew := hS1.heap rfl
  have hP := hD.push (.own olds)
  constructor
  · refine hP.concretize (g := H1.length) (cs := olds) (C := olds'.toArray ++ zs) (ty := e) (fr := (0, 0)) get_push_eq hn (nofr _) (by simp [ho.1]) fun i v hv => ?_
    obtain ⟨v', h1, h2⟩ := ho.get hv
    have hi : i < olds'.toArray.size := by simpa using (List.getElem?_eq_some_iff.1 h1).1
    exact ⟨v', by rw [Array.getElem?_append_left hi]; simpa using h1, h2⟩
  · refine hE1.trans ?_
    refine (Ev.heap (φ := φ) (H := H1) (W := W) (W' := W.drew) rfl rfl rfl rfl).trans ?_
    exact Ev.concretize hn rfl _ (Nat.le_refl _) (fun x hx => get_push_lt hx) (by simp) rfl

/-- How an append runs, whatever is put behind. -/
structure Sx (P : Program) (W : World) (t tx ty e : TypeId) (i : TypeInfo) (z : Value) (x : Value) (n : Nat) (news : List Value) : Prop where
  newsLen : news.length = n * i.size
  nothing : n = 0 → ∀ base sLen sCap, sLen ≤ sCap → (Builtin.append_ #[t, tx] ty #[.slice base sLen sCap, x]).run P W = .ok (.slice base sLen sCap) W
  room : ∀ b off sLen sCap, sLen + n ≤ sCap → (∀ j, j < news.length → (W.cell? ⟨b, off + sLen * i.size + j, none⟩).isSome = true) → (∀ j, j < news.length → W.frozen? ⟨b, off + sLen * i.size + j, none⟩ = false) →
    (Builtin.append_ #[t, tx] ty #[.slice (some ⟨b, off, none⟩) sLen sCap, x]).run P W = .ok (.slice (some ⟨b, off, none⟩) (sLen + n) sCap) (W.setCells b (off + sLen * i.size) news)
  grow : ∀ base sLen sCap (olds : List Value), (Builtin.firstCells i.size sLen (.slice base sLen sCap)).run P W.drew = .ok olds.toArray W.drew → sCap < sLen + n → ((sLen + n : Nat) : Int) ≤ 9223372036854775807 → Builtin.nextslicecap (sLen + n) sCap * i.bytes ≤ 281474976710656 →
    (Builtin.append_ #[t, tx] ty #[.slice base sLen sCap, x]).run P W = .ok (.slice (some ⟨W.heap.size, 0, none⟩) (sLen + n) (grownCap W (sLen + n) sCap e)) (W.drew.alloc (.cells ((olds ++ news).toArray ++ Builtin.zeroCells z.cells (grownCap W (sLen + n) sCap e - (sLen + n))) e))
theorem Sx.ofSrc {P : Program} {W : World} {t tx ty e : TypeId} {i : TypeInfo} {z : Value} {x : Value} {n : Nat} {news : List Value} (hu : P.underlying t = some (.slice e)) (hi : P.info? e = some i) (hz : i.zero = some z) (hs : Src P i.size tx x n news W) : Sx P W t tx ty e i z x n news where
  newsLen := hs.newsLen
  nothing := fun hn base sLen sCap hc => by
    subst hn
    have : news = [] := List.eq_nil_of_length_eq_zero (by have := hs.newsLen; omega)
    subst this
    exact run_append_nothing' hu hi hs base sLen sCap hc
  room := fun b off sLen sCap h1 h2 h3 => run_append_room_src (P := P) W t tx ty e i hu hi b off sLen sCap x n news hs h1 h2 h3
  grow := fun base sLen sCap olds h1 h2 h3 h4 => run_append_grow_src (P := P) W t tx ty e i z hu hi hz base sLen sCap olds h1 x n news hs h2 h3 h4
theorem arr1 {z : Array Value} (h : z.size = 1) : ∃ v, z = #[v] := by
  rcases z with ⟨l⟩
  match l, h with
  | [v], _ => exact ⟨v, rfl⟩
theorem zeroCells_one (v : Value) (n : Nat) : Builtin.zeroCells #[v] n = (List.replicate n v).toArray := by
  unfold Builtin.zeroCells
  apply Array.ext
  · simp
  · intro j h1 h2
    simp [Nat.mod_one]
theorem Sx.ofZeros {P : Program} {W : World} {t tx ty e : TypeId} {i : TypeInfo} {z : Value} {v : Value} {k : IntKind} {n : Nat} (hu : P.underlying t = some (.slice e)) (ht : P.underlying tx = some (.int k)) (hi : P.info? e = some i) (hz : i.zero = some z) (hzc : z.cells = #[v]) (h1 : i.size = 1) (hv : v.oneCell' = true)
    (h63 : (n : Int) ≤ 9223372036854775807) (h48 : n * i.bytes ≤ 281474976710656) : Sx P W t tx ty e i z (.int .i64 n) n (List.replicate n v) := by
  have hw : IntKind.i64.wrap (n : Int) = n := by rw [IntKind.wrap_i64]; omega
  have hneg : ¬ ((n : Int) < 0) := by omega
  have h48i : ¬ (281474976710656 < (n : Int) * (i.bytes : Int)) := by
    rw [← Int.natCast_mul]
    omega
  refine ⟨by rw [List.length_replicate, h1, Nat.mul_one], fun hn base sLen sCap hc => ?_, fun b off sLen sCap hroom hc hf => ?_, fun base sLen sCap olds hold hg h63 hfit => ?_⟩
  · subst hn
    cases base <;> simp [Builtin.append_, run_underlying hu, run_underlying ht, sizeOf, typeInfo, zeroValue, asInt, asIntOf, hi, hz, hzc, h1, hw, hneg, h48i, hc, storeCells, show IntKind.i64.wrap 0 = 0 from rfl]
  · have hst := run_storeCells_cells (P := P) b (off + sLen * i.size) (List.replicate n v) 0 W (by simpa using hc) (by simpa using hf) (fun u hu => by rw [List.eq_of_mem_replicate hu]; exact hv)
    simp only [Nat.add_zero] at hst
    rw [h1, Nat.mul_one] at hst
    by_cases hn : n = 0
    · subst hn
      have hroom' : sLen ≤ sCap := hroom
      simp only [List.replicate_zero] at hst ⊢
      simp [Builtin.append_, run_underlying hu, run_underlying ht, sizeOf, typeInfo, zeroValue, asInt, asIntOf, hi, hz, hzc, h1, hw, hneg, h48i, hroom', Addr.add_lit, hst, show IntKind.i64.wrap 0 = 0 from rfl]
    · simp [Builtin.append_, run_underlying hu, run_underlying ht, sizeOf, typeInfo, zeroValue, asInt, asIntOf, hi, hz, hzc, h1, hw, hneg, h48i, hroom, Addr.add_lit, hn, zeroCells_one, hst]
  · have hn : ¬ (sLen + n ≤ sCap) := by omega
    have h63' : ¬ (9223372036854775807 < ((sLen : Int) + (n : Int))) := by omega
    have h48' : ¬ (281474976710656 < Builtin.nextslicecap (sLen + n) sCap * i.bytes) := by omega
    have hold' := hold
    rw [h1] at hold'
    by_cases hn0 : n = 0
    · subst hn0
      have hn' : ¬ (sLen ≤ sCap) := hn
      have h63'' : ¬ (9223372036854775807 < (sLen : Int)) := by omega
      have h48'' : ¬ (281474976710656 < Builtin.nextslicecap sLen sCap * i.bytes) := h48'
      simp [hn', h63'', h48'', Builtin.append_, run_underlying hu, run_underlying ht, sizeOf, typeInfo, zeroValue, hi, hz, hzc, h1, hn, h63', h48', h48i, hw, hneg, asInt, asIntOf, Question.forced, hold', newRow, grownCap, show IntKind.i64.wrap 0 = 0 from rfl]
    · simp [Builtin.append_, run_underlying hu, run_underlying ht, sizeOf, typeInfo, zeroValue, hi, hz, hzc, h1, hn, hn0, h63', h48', h48i, hw, hneg, asInt, asIntOf, Question.forced, hold', newRow, grownCap, zeroCells_one]
      congr 2
      apply Array.ext'
      simp [List.replicate_append_replicate]
theorem zeroCells_mem {z : Array Value} {n : Nat} (h : 0 < z.size) : ∀ v ∈ (Builtin.zeroCells z n).toList, v ∈ z.toList := by
  intro v hv
  unfold Builtin.zeroCells at hv
  simp only [Array.toList_map, Array.toList_range, List.mem_map, List.mem_range] at hv
  obtain ⟨j, _, rfl⟩ := hv
  have hj : j % z.size < z.size := Nat.mod_lt _ h
  rw [getElem!_pos z _ hj]
  simp
theorem Sx.ofZerosW {P : Program} {W : World} {t tx ty e : TypeId} {i : TypeInfo} {z : Value} {k : IntKind} {n : Nat} (hu : P.underlying t = some (.slice e)) (ht : P.underlying tx = some (.int k)) (hi : P.info? e = some i) (hz : i.zero = some z) (h1 : z.cells.size = i.size) (h2 : 0 < i.size)
    (hv : ∀ v ∈ (Builtin.zeroCells z.cells n).toList, v.oneCell' = true)
    (h63 : (n : Int) ≤ 9223372036854775807) (h48 : n * i.bytes ≤ 281474976710656) : Sx P W t tx ty e i z (.int .i64 n) n (Builtin.zeroCells z.cells n).toList := by
  have hw : IntKind.i64.wrap (n : Int) = n := by rw [IntKind.wrap_i64]; omega
  have hneg : ¬ ((n : Int) < 0) := by omega
  have h48i : ¬ (281474976710656 < (n : Int) * (i.bytes : Int)) := by
    rw [← Int.natCast_mul]
    omega
  have hz0 : i.size ≠ 0 := by omega
  have hl : (Builtin.zeroCells z.cells n).toList.length = n * i.size := by rw [Array.length_toList, zeroCells_size, h1]
  refine ⟨hl, fun hn base sLen sCap hc => ?_, fun b off sLen sCap hroom hc hf => ?_, fun base sLen sCap olds hold hg h63 hfit => ?_⟩
  · subst hn
    cases base <;> simp [Builtin.append_, run_underlying hu, run_underlying ht, sizeOf, typeInfo, zeroValue, asInt, asIntOf, hi, hz, hw, hneg, h48i, hc, storeCells, show IntKind.i64.wrap 0 = 0 from rfl]
  · have hst := run_storeCells_cells (P := P) b (off + sLen * i.size) (Builtin.zeroCells z.cells n).toList 0 W (by simpa using hc) (by simpa using hf) hv
    simp only [Nat.add_zero] at hst
    by_cases hn : n = 0
    · subst hn
      have hroom' : sLen ≤ sCap := hroom
      have h00 : (Builtin.zeroCells z.cells 0).toList = [] := List.eq_nil_of_length_eq_zero (by rw [hl, Nat.zero_mul])
      rw [h00] at hst ⊢
      simp [Builtin.append_, run_underlying hu, run_underlying ht, sizeOf, typeInfo, zeroValue, asInt, asIntOf, hi, hz, hw, hneg, h48i, hroom', Addr.add_lit, hst, show IntKind.i64.wrap 0 = 0 from rfl]
    · have hns : ¬ (n * i.size = 0) := Nat.mul_ne_zero hn hz0
      simp [Builtin.append_, run_underlying hu, run_underlying ht, sizeOf, typeInfo, zeroValue, asInt, asIntOf, hi, hz, hw, hneg, h48i, hroom, Addr.add_lit, hns, hn, hz0, hst]
  · have hn : ¬ (sLen + n ≤ sCap) := by omega
    have h63' : ¬ (9223372036854775807 < ((sLen : Int) + (n : Int))) := by omega
    have h48' : ¬ (281474976710656 < Builtin.nextslicecap (sLen + n) sCap * i.bytes) := by omega
    by_cases hn0 : n = 0
    · subst hn0
      have hn' : ¬ (sLen ≤ sCap) := hn
      have h63'' : ¬ (9223372036854775807 < (sLen : Int)) := by omega
      have h48'' : ¬ (281474976710656 < Builtin.nextslicecap sLen sCap * i.bytes) := h48'
      have h00 : (Builtin.zeroCells z.cells 0).toList = [] := List.eq_nil_of_length_eq_zero (by rw [hl, Nat.zero_mul])
      rw [h00]
      simp [hn', h63'', h48'', Builtin.append_, run_underlying hu, run_underlying ht, sizeOf, typeInfo, zeroValue, hi, hz, hn, h63', h48', h48i, hw, hneg, asInt, asIntOf, Question.forced, hold, newRow, grownCap, show IntKind.i64.wrap 0 = 0 from rfl]
    · have hns : ¬ (n * i.size = 0) := Nat.mul_ne_zero hn0 hz0
      simp [Builtin.append_, run_underlying hu, run_underlying ht, sizeOf, typeInfo, zeroValue, hi, hz, hn, hns, hn0, hz0, h63', h48', h48i, hw, hneg, asInt, asIntOf, Question.forced, hold, newRow, grownCap]
      have hA : (olds ++ (Builtin.zeroCells z.cells n).toList).toArray = olds.toArray ++ Builtin.zeroCells z.cells n := by apply Array.ext'; simp
      rw [hA, Array.append_assoc]
theorem aappend_sound {P : Program} {φ : Phi} {H H' : AH} {W : World} {t tx ty : TypeId} {s x s' x' v : Value} (hS : Sim φ H W) (h : aappend P H t tx s x = some (v, H')) (hs : VR φ s s') (hx : VR φ x x') :
    ∃ φ' W' v', Sim φ' H' W' ∧ Ev φ H W φ' H' W' ∧ VR φ' v v' ∧ (Builtin.append_ #[t, tx] ty #[s', x']).run P W = .ok v' W' := by
  unfold aappend at h
  split at h
  · rename_i size bytes hel
    obtain ⟨e, i, z, hu, hi, hz, hzs, rfl, rfl⟩ := elemT_spec hel
    split at h
    · rename_i news m hsrc
      obtain ⟨news', hv, hsr⟩ : ∃ news', VRL φ news news' ∧ Sx P W t tx ty e i z x' m news' := by
        unfold asrcZ at hsrc
        split at hsrc
        · rename_i k hk
          split at hsrc
          · rename_i n' e' hue
            split at hsrc
            · rename_i zc hzt
              split at hsrc
              · rename_i hc
                cases hsrc
                cases hx
                rw [hu] at hue; cases hue
                obtain ⟨i', z', hi', hz', hzc, hvr⟩ := zeroT_spec (φ := φ) hzt
                rw [hi] at hi'; cases hi'
                rw [hz] at hz'; cases hz'
                obtain ⟨c1, c2, c3, c4⟩ := hc
                obtain ⟨n, rfl⟩ := Int.eq_ofNat_of_zero_le c2
                obtain ⟨v, rfl⟩ := arr1 c1
                have hvv : VR φ v v := hvr.2 0 (by simp) (by simp)
                have hpl : plainv v = true := by
                  unfold zeroT at hzt
                  rw [hi] at hzt
                  simp only [Option.bind_some, hz] at hzt
                  split at hzt
                  · rename_i hp
                    rw [hzc] at hp
                    simpa using hp
                  · cases hzt
                have hone : v.oneCell' = true := by
                  unfold plainv at hpl
                  split at hpl <;> first | rfl | cases hpl
                refine ⟨List.replicate n v, ?_, Sx.ofZeros hu hk hi hz hzc (by rw [← hzs, hzc]; rfl) hone c3 c4⟩
                refine ⟨rfl, fun j a b ha hb => ?_⟩
                obtain rfl := (List.mem_replicate.1 (List.mem_of_getElem? ha)).2
                obtain rfl := (List.mem_replicate.1 (List.mem_of_getElem? hb)).2
                exact hvv
              · split at hsrc
                · rename_i hc
                  cases hsrc
                  cases hx
                  rw [hu] at hue; cases hue
                  obtain ⟨i', z', hi', hz', hzc, hvr⟩ := zeroT_spec (φ := φ) hzt
                  rw [hi] at hi'; cases hi'
                  rw [hz] at hz'; cases hz'
                  obtain ⟨c1, c2, c3, c4⟩ := hc
                  obtain ⟨n, rfl⟩ := Int.eq_ofNat_of_zero_le c2
                  have hpl : ∀ v ∈ zc.toList, plainv v = true := by
                    unfold zeroT at hzt
                    rw [hi] at hzt
                    simp only [Option.bind_some, hz] at hzt
                    split at hzt
                    · rename_i hp
                      rw [hzc] at hp
                      intro v hv
                      rw [Array.all_eq_true'] at hp
                      exact hp v (by simpa using hv)
                    · cases hzt
                  have hmem := zeroCells_mem (n := n) (z := zc) (by omega)
                  have hone : ∀ v ∈ (Builtin.zeroCells zc n).toList, v.oneCell' = true := fun v hv => by
                    have := hpl v (hmem v hv)
                    unfold plainv at this
                    split at this <;> first | rfl | cases this
                  refine ⟨(Builtin.zeroCells zc n).toList, ?_, ?_⟩
                  · refine ⟨rfl, fun j a b ha hb => ?_⟩
                    have hab : some a = some b := ha.symm.trans hb
                    cases hab
                    exact VR.plain (hpl a (hmem a (List.mem_of_getElem? hb)))
                  · have := Sx.ofZerosW (W := W) (ty := ty) (n := n) hu hk hi hz (by rw [hzs]) (by rw [← hzs, hzc]; omega) (by rw [hzc]; exact hone) c3 c4
                    rw [hzc] at this
                    exact this
                · cases hsrc
            · cases hsrc
          · cases hsrc
        · obtain ⟨news', hv, hsr, _⟩ := asrc_sound hS hsrc hx
          exact ⟨news', hv, Sx.ofSrc hu hi hz hsr⟩
      have hnl : news'.length = m * i.size := hsr.newsLen
      split at h
      · -- onto nil
        cases hs
        split at h
        · rename_i hm
          subst hm
          cases h
          have : news' = [] := List.eq_nil_of_length_eq_zero (by omega)
          subst this
          exact ⟨φ, W, _, hS, Ev.refl _ _ _, .nilslice, hsr.nothing rfl none 0 0 (Nat.le_refl _)⟩
        · rename_i hm
          split at h
          · rename_i hb
            cases h
            have hrun := hsr.grow none 0 0 [] (by simp [Builtin.firstCells]) (by omega) (by omega) (growslice_fits (by omega) (by simpa using hb.1))
            simp only [Nat.zero_add, List.nil_append] at hrun
            obtain ⟨h1, h2⟩ := grow_sim (P := P) hS hS (Ev.refl _ _ _) hv (zs := Builtin.zeroCells z.cells (grownCap W m 0 e - m)) (e := e)
            refine ⟨_, _, _, h1, h2, ?_, hrun⟩
            have hcap := grownCap_ge W m 0 e
            have := VR.slice (φ := φ.upd H.length ⟨W.heap.size, 0, (news'.toArray ++ Builtin.zeroCells z.cells (grownCap W m 0 e - m)).size, false⟩) (g := H.length) (o := 0) (n := m) (e := i.size) (c' := grownCap W m 0 e) Phi.upd_self hcap (.inr ⟨by
              simp only [Array.size_append, List.size_toArray, zeroCells_size, hzs, hnl]
              rw [← Nat.add_mul]
              simp only [Nat.zero_add]
              exact Nat.mul_le_mul_right _ (by omega), fun _ => rfl⟩)
            simpa using this
          · cases h
      · -- onto a slice
        rename_i g o n ee
        split at h
        · rename_i hm
          subst hm
          cases h
          have : news' = [] := List.eq_nil_of_length_eq_zero (by omega)
          subst this
          cases hs with
          | empty g0 o0 a' c' => exact ⟨φ, W, _, hS, Ev.refl _ _ _, .empty _ _ _ _, hsr.nothing rfl _ 0 c' (Nat.zero_le _)⟩
          | slice hφ hnc hr => exact ⟨φ, W, _, hS, Ev.refl _ _ _, .slice hφ hnc hr, hsr.nothing rfl _ _ _ hnc⟩
        · rename_i hm
          split at h
          · rename_i cs hg
            split at h
            · rename_i hc
              cases h
              obtain ⟨hee, hs0, hol, hb, h63⟩ := hc
              cases hs with
              | empty g0 o0 a' c' => exact absurd hee.symm hs0
              | @slice _ _ _ _ c' bi hφ hnc hr =>
                subst hee
                have hlt := own_lt hg
                have hroom : bi.off + o + c' * i.size ≤ bi.room := by rcases hr with h0 | h0; exact absurd h0 hs0; exact h0.1
                obtain ⟨C, ty', fr, d1, d2, d3, d4, d5⟩ := hS.own g cs bi hg hφ
                obtain ⟨olds', ho1, ho2⟩ := hS.range (AH.cells_own hg) hφ o (n * i.size)
                have hol' : olds'.length = n * i.size := by rw [← ho1.1]; simp; omega
                have hK := hS.kill g hlt
                have hKE : Ev φ H W φ (H.set g .dead) W := Ev.update hg hφ rfl (fun _ _ => rfl) rfl rfl rfl
                have hlen : (H.set g ABlk.dead).length = H.length := by simp
                by_cases hroomy : n + m ≤ c'
                · -- there is room
                  have hle : (n + m) * i.size ≤ c' * i.size := Nat.mul_le_mul_right _ hroomy
                  rw [Nat.add_mul] at hle
                  have hcells : ∀ j, j < news'.length → bi.off + o + n * i.size + j < C.size := fun j hj => by rw [hnl] at hj; omega
                  have hrun := hsr.room bi.blk (bi.off + o) n c' hroomy
                    (fun j hj => by have := hcells j hj; simp [World.cell?, d1, this])
                    (fun j hj => by
                      have := frNo d3 _ (hcells j hj)
                      simp only [World.frozen?, d1]
                      rcases fr with ⟨lo, hi⟩
                      simp only at this ⊢
                      rw [Bool.eq_false_iff]
                      simp only [ne_eq, Bool.and_eq_true, decide_eq_true_eq]
                      exact this)
                  obtain ⟨C', e1, e2, e3, e4⟩ := setCells_heap bi.blk news' (bi.off + o + n * i.size) W C ty' fr d1 (by rw [hnl]; omega)
                  obtain ⟨m1, m2, m3, m4⟩ := setCells_meta bi.blk news' (bi.off + o + n * i.size) W
                  have hP := hK.push (.own ((cs.drop o).take (n * i.size) ++ news))
                  have hn := hS.fresh_none (Nat.le_refl H.length)
                  refine ⟨φ.upd H.length ⟨bi.blk, bi.off + o, bi.room, bi.mrk⟩, _, _, ?_, ?_, ?_, hrun⟩
                  · refine hP.rebind (cs' := (cs.drop o).take (n * i.size) ++ news) (by rw [← hlen]; exact get_push_eq) hn (hS.dom g bi hφ).2 (fun y bi' hy hd => ?_) m4 (fun k hk => setCells_other _ _ _ _ _ hk) ⟨C', ty', fr, e1, by rw [e2, d2], by rw [e2]; exact d3, ?_, fun j v hv' => ?_⟩
                    · have hyl := (hS.dom y bi' hy).1
                      have hyg : y ≠ g := by
                        rintro rfl
                        apply hd
                        rw [get_push_lt (by simpa using hyl), List.getElem?_set_self hyl]
                      refine (hS.sep g y _ bi bi' hg ABlk.mine_own hφ hyg hy fun e => hd ?_).symm
                      rw [get_push_lt (by simpa using hyl), List.getElem?_set_ne (fun he => hyg he.symm)]
                      exact e
                    · rw [e2, d2, List.length_append, hv.1, hnl, ho1.1, hol']; omega
                    · rcases Nat.lt_or_ge j ((cs.drop o).take (n * i.size)).length with hj | hj
                      · rw [List.getElem?_append_left hj] at hv'
                        have hj' : j < n * i.size := by rw [ho1.1, hol'] at hj; exact hj
                        rw [List.getElem?_take, if_pos hj', List.getElem?_drop] at hv'
                        obtain ⟨v', k1, k2⟩ := d5 (o + j) v hv'
                        exact ⟨v', by rw [e3 _ (.inl (by omega)), Nat.add_assoc]; exact k1, k2⟩
                      · rw [List.getElem?_append_right hj] at hv'
                        obtain ⟨v', k1, k2⟩ := hv.get hv'
                        have hj2 : ((cs.drop o).take (n * i.size)).length = n * i.size := by rw [ho1.1, hol']
                        refine ⟨v', ?_, k2⟩
                        have := e4 _ v' k1
                        rw [hj2] at this hj
                        rwa [show bi.off + o + n * i.size + (j - n * i.size) = bi.off + o + j by omega] at this
                  · refine ⟨m1, m2, m3, by omega, by simp, fun y hy => Phi.upd_ne (by omega), fun y hy hny => ?_, fun k hk hown => setCells_other _ _ _ _ _ fun e => hown g _ bi hg ABlk.mine_own hφ e.symm, fun y c b' f1 fm f2 f3 => ?_⟩
                    · have hyg : y ≠ g := by rintro rfl; rw [hφ] at hny; cases hny
                      rw [get_push_lt (by simpa using hy), List.getElem?_set_ne (fun he => hyg he.symm)]
                    · by_cases hyl : y = H.length
                      · subst hyl
                        rw [Phi.upd_self] at f2; cases f2
                        exact ⟨g, _, bi, hg, ABlk.mine_own, hφ, rfl⟩
                      · rw [Phi.upd_ne hyl] at f2
                        have hy2 := (hS.dom y b' f2).1
                        rw [get_push_lt (by simpa using hy2)] at f1
                        rcases set_get f1 hlt with ⟨_, f⟩ | ⟨_, f1⟩
                        · exact absurd (f ▸ fm) ABlk.mine_dead
                        · exact ⟨y, c, b', f1, fm, f2, rfl⟩
                  · have := VR.slice (φ := φ.upd H.length ⟨bi.blk, bi.off + o, bi.room, bi.mrk⟩) (g := H.length) (o := 0) (n := n + m) (e := i.size) (c' := c') Phi.upd_self hroomy (.inr ⟨by simpa using hroom, by rcases hr with h0 | h0; exact absurd h0 hs0; exact h0.2⟩)
                    simpa using this
                · -- there is none
                  have hold : (Builtin.firstCells i.size n (.slice (some ⟨bi.blk, bi.off + o, none⟩) n c')).run P W.drew = .ok olds'.toArray W.drew := run_firstCells_some W.drew i.size n ⟨bi.blk, bi.off + o, none⟩ n c' olds' hol' (by simpa using ho2)
                  have hrun := hsr.grow (some ⟨bi.blk, bi.off + o, none⟩) n c' olds' hold (by omega) (by omega) (growslice_fits (by omega) hb)
                  obtain ⟨h1, h2⟩ := grow_sim (P := P) hS hK hKE (ho1.append hv) (zs := Builtin.zeroCells z.cells (grownCap W (n + m) c' e - (n + m))) (e := e)
                  rw [hlen] at h1 h2
                  refine ⟨_, _, _, h1, h2, ?_, hrun⟩
                  have hcap := grownCap_ge W (n + m) c' e
                  have := VR.slice (φ := φ.upd H.length ⟨W.heap.size, 0, ((olds' ++ news').toArray ++ Builtin.zeroCells z.cells (grownCap W (n + m) c' e - (n + m))).size, false⟩) (g := H.length) (o := 0) (n := n + m) (e := i.size) (c' := grownCap W (n + m) c' e) Phi.upd_self hcap (.inr ⟨by
                    simp only [Array.size_append, List.size_toArray, zeroCells_size, hzs, List.length_append, hnl, hol']
                    rw [← Nat.add_mul, ← Nat.add_mul]
                    simp only [Nat.zero_add]
                    exact Nat.mul_le_mul_right _ (by omega), fun _ => rfl⟩)
                  simpa using this
            · cases h
          · cases h
      · -- onto a slice of known capacity
        rename_i g o c n ee
        split at h
        · rename_i hm
          subst hm
          cases h
          have : news' = [] := List.eq_nil_of_length_eq_zero (by omega)
          subst this
          cases hs with
          | sliceX hφ hnc hr => exact ⟨φ, W, _, hS, Ev.refl _ _ _, .sliceX hφ hnc hr, hsr.nothing rfl _ _ _ hnc⟩
        · rename_i hm
          split at h
          · rename_i cs hg
            split at h
            · rename_i hc
              obtain ⟨hee, hs0, hol, hb, h63⟩ := hc
              cases hs with
              | @sliceX _ _ _ _ _ bi hφ hnc hr =>
                subst hee
                have hr2 := hr.resolve_left hs0
                have hroom := hr2.1
                split at h
                · rename_i hroomy
                  split at h
                  · rename_i hfit
                    cases h
                    obtain ⟨k1, k2, k3, k4⟩ := hS.write hg hφ hfit hv
                    have hrun := hsr.room bi.blk (bi.off + o) n c hroomy
                      (fun j hj => by have := k1 j hj; rwa [← Nat.add_assoc bi.off o] at this)
                      (fun j hj => by have := k2 j hj; rwa [← Nat.add_assoc bi.off o] at this)
                    rw [Nat.add_assoc bi.off o] at hrun
                    exact ⟨φ, _, _, k3, k4, .sliceX hφ hroomy (.inr hr2), hrun⟩
                  · cases h
                · rename_i hroomy
                  cases h
                  obtain ⟨olds', ho1, ho2⟩ := hS.range (AH.cells_own hg) hφ o (n * i.size)
                  have hol' : olds'.length = n * i.size := by rw [← ho1.1]; simp; omega
                  have hold : (Builtin.firstCells i.size n (.slice (some ⟨bi.blk, bi.off + o, none⟩) n c)).run P W.drew = .ok olds'.toArray W.drew := run_firstCells_some W.drew i.size n ⟨bi.blk, bi.off + o, none⟩ n c olds' hol' (by simpa using ho2)
                  have hrun := hsr.grow (some ⟨bi.blk, bi.off + o, none⟩) n c olds' hold (by omega) (by omega) (growslice_fits (by omega) hb)
                  obtain ⟨h1, h2⟩ := grow_sim (P := P) hS hS (Ev.refl _ _ _) (ho1.append hv) (zs := Builtin.zeroCells z.cells (grownCap W (n + m) c e - (n + m))) (e := e)
                  refine ⟨_, _, _, h1, h2, ?_, hrun⟩
                  have hcap := grownCap_ge W (n + m) c e
                  have := VR.slice (φ := φ.upd H.length ⟨W.heap.size, 0, ((olds' ++ news').toArray ++ Builtin.zeroCells z.cells (grownCap W (n + m) c e - (n + m))).size, false⟩) (g := H.length) (o := 0) (n := n + m) (e := i.size) (c' := grownCap W (n + m) c e) Phi.upd_self hcap (.inr ⟨by
                    simp only [Array.size_append, List.size_toArray, zeroCells_size, hzs, List.length_append, hnl, hol']
                    rw [← Nat.add_mul, ← Nat.add_mul]
                    simp only [Nat.zero_add]
                    exact Nat.mul_le_mul_right _ (by omega), fun _ => rfl⟩)
                  simpa using this
            · cases h
          · cases h
      · cases h
    · cases h
  · cases h

def acopy (P : Program) (H : AH) (t tx : TypeId) (d x : Value) : Option (Value × AH) :=
  match elemT P t with
  | some (size, _) => match asrc P H tx x size with
    | some (news, m) => match d with
      | .slice none 0 0 => some (.int .i64 0, H)
      | .slice (some ⟨g, o, _⟩) n _ => if min m n = 0 then some (.int .i64 0, H)
        else match H[g]? with
        | some (.own cs) => if o + (news.take (min m n * size)).length ≤ cs.length ∧ news.all cellv = true then some (.int .i64 (min m n), H.set g (.own (ovr cs o (news.take (min m n * size))))) else none
        | _ => none
      | _ => none
    | none => match x, d with
      | .slice (some ⟨g2, o2, _⟩) m _, .slice (some ⟨g, o, _⟩) n _ => if n < m ∧ n ≠ 0 then (match asrc P H tx (.slice (some ⟨g2, o2, none⟩) n 0) size, H[g]? with
        | some (news, _), some (.own cs) => if o + (news.take (n * size)).length ≤ cs.length ∧ news.all cellv = true then some (.int .i64 n, H.set g (.own (ovr cs o (news.take (n * size))))) else none
        | _, _ => none) else none
      | _, _ => none
  | none => none
theorem acopy_sound {P : Program} {φ : Phi} {H H' : AH} {W : World} {t tx ty : TypeId} {d x d' x' v : Value} (hS : Sim φ H W) (h : acopy P H t tx d x = some (v, H')) (hd : VR φ d d') (hx : VR φ x x') :
    ∃ W' v', Sim φ H' W' ∧ Ev φ H W φ H' W' ∧ VR φ v v' ∧ (Builtin.copy_ #[t, tx] ty #[d', x']).run P W = .ok v' W' := by
  unfold acopy at h
  split at h
  · rename_i size bytes hel
    obtain ⟨e, i, z, hu, hi, hz, hzs, rfl, rfl⟩ := elemT_spec hel
    split at h
    · rename_i news m hsrc
      obtain ⟨news', hv, hsr, hfc⟩ := asrc_sound hS hsrc hx
      have zero : ∀ base n c, min m n = 0 → (Builtin.copy_ #[t, tx] ty #[.slice base n c, x']).run P W = .ok (.int .i64 0) W := by
        intro base n c hmn
        have h0 := hfc 0 (Nat.zero_le _)
        simp only [Nat.zero_mul, List.take_zero] at h0
        have hmn' : Nat.min m n = 0 := hmn
        cases base <;> simp [Builtin.copy_, run_underlying hu, sizeOf, typeInfo, hi, hsr.len, hmn', h0, storeCells, goInt]
      split at h
      · cases h; cases hd
        exact ⟨W, _, hS, Ev.refl _ _ _, .int _ _, zero none 0 0 (by simp)⟩
      · rename_i g o sp n cc
        split at h
        · rename_i hmn
          cases h
          cases hd with
          | empty g0 o0 a' c' => exact ⟨W, _, hS, Ev.refl _ _ _, .int _ _, zero _ 0 c' (by simp)⟩
          | slice hφ hnc hr => exact ⟨W, _, hS, Ev.refl _ _ _, .int _ _, zero _ _ _ hmn⟩
          | sliceX hφ hnc hr => exact ⟨W, _, hS, Ev.refl _ _ _, .int _ _, zero _ _ _ hmn⟩
        · rename_i hmn
          split at h
          · rename_i cs hg
            split at h
            · rename_i hc
              cases h
              cases hd with
              | empty g0 o0 a' c' => exact absurd (Nat.min_eq_right (Nat.zero_le m)) hmn
              | @slice _ _ _ _ c' bi hφ hnc hr =>
                obtain ⟨k1, k2, k3, k4⟩ := hS.write hg hφ hc.1 (hv.take (min m n * i.size))
                refine ⟨_, _, k3, k4, .int _ _, ?_⟩
                have hst := run_storeCells_cells (P := P) bi.blk (bi.off + o) (news'.take (min m n * i.size)) 0 W (by simpa using k1) (by simpa using k2) (fun u hu => hv.cellv hc.2 u (List.mem_of_mem_take hu))
                simp only [Nat.add_zero] at hst
                have h1 := hfc (min m n) (Nat.min_le_left _ _)
                have hmm : Nat.min m n = min m n := rfl
                simp [Builtin.copy_, run_underlying hu, sizeOf, typeInfo, hi, hsr.len, hmm, h1, hst, goInt]
                omega
              | @sliceX _ _ _ _ c' bi hφ hnc hr =>
                obtain ⟨k1, k2, k3, k4⟩ := hS.write hg hφ hc.1 (hv.take (min m n * i.size))
                refine ⟨_, _, k3, k4, .int _ _, ?_⟩
                have hst := run_storeCells_cells (P := P) bi.blk (bi.off + o) (news'.take (min m n * i.size)) 0 W (by simpa using k1) (by simpa using k2) (fun u hu => hv.cellv hc.2 u (List.mem_of_mem_take hu))
                simp only [Nat.add_zero] at hst
                have h1 := hfc (min m n) (Nat.min_le_left _ _)
                have hmm : Nat.min m n = min m n := rfl
                simp [Builtin.copy_, run_underlying hu, sizeOf, typeInfo, hi, hsr.len, hmm, h1, hst, goInt]
                omega
            · cases h
          · cases h
      · cases h
    · split at h
      · rename_i g2 o2 s2 m e2 g o sp n e3 hsn
        split at h
        · rename_i hnm
          split at h
          · rename_i news m2 cs hsrc hg
            split at h
            · rename_i hc
              cases h
              obtain ⟨a2, c2, hxe, hxt⟩ : ∃ a c, x' = .slice (some a) m c ∧ VR φ (.slice (some ⟨g2, o2, none⟩) n 0) (.slice (some a) n c) := by
                cases hx with
                | empty => omega
                | slice hφ hnc hr => exact ⟨_, _, rfl, .slice hφ (by omega) (.inl rfl)⟩
                | sliceX hφ hnc hr => exact ⟨_, _, rfl, .slice hφ (by omega) (.inl rfl)⟩
              obtain ⟨news', hv, hsr, hfc⟩ := asrc_sound hS hsrc hxt
              have hm2 : m2 = n := by
                have := hsr.len W
                simpa [Builtin.lenOf] using this.symm
              subst hm2
              have hmm : Nat.min m m2 = m2 := Nat.min_eq_right (by omega)
              have h1 := hfc m2 (Nat.le_refl _)
              have h1' : (Builtin.firstCells i.size m2 x').run P W = .ok (news'.take (m2 * i.size)).toArray W := by
                rw [hxe]; simpa [Builtin.firstCells] using h1
              have fin : ∀ (bi : BI) (c' : Nat), φ g = some bi → d' = .slice (some ⟨bi.blk, bi.off + o, none⟩) m2 c' → ∃ W' v', Sim φ (H.set g (.own (ovr cs o (news.take (m2 * i.size))))) W' ∧ Ev φ H W φ (H.set g (.own (ovr cs o (news.take (m2 * i.size))))) W' ∧ VR φ (.int .i64 m2) v' ∧ (Builtin.copy_ #[t, tx] ty #[d', x']).run P W = .ok v' W' := by
                intro bi c' hφ hde
                obtain ⟨k1, k2, k3, k4⟩ := hS.write hg hφ hc.1 (hv.take (m2 * i.size))
                refine ⟨_, _, k3, k4, .int _ _, ?_⟩
                have hst := run_storeCells_cells (P := P) bi.blk (bi.off + o) (news'.take (m2 * i.size)) 0 W (by simpa using k1) (by simpa using k2) (fun u hu => hv.cellv hc.2 u (List.mem_of_mem_take hu))
                simp only [Nat.add_zero] at hst
                rw [hde]
                have hl : ∀ W, (Builtin.lenOf x').run P W = .ok m W := fun W => by rw [hxe]; simp [Builtin.lenOf]
                simp [Builtin.copy_, run_underlying hu, sizeOf, typeInfo, hi, hl, hmm, h1', hst, goInt]
              cases hd with
              | empty => exact absurd rfl hnm.2
              | slice hφ hnc hr => exact fin _ _ hφ rfl
              | sliceX hφ hnc hr => exact fin _ _ hφ rfl
            · cases h
          · cases h
        · cases h
      · cases h
  · cases h
/-- A row of bytes turned to its own type: the run-time's mark stands behind the row then, so the row is a new block from here on. -/
def QH (P : Program) (H : AH) (src dst : TypeId) (x : Value) : Option (Value × AH) :=
  match x with
  | .slice (some ⟨g, o, none⟩) n e => (match H[g]? with
    | some (.own cs) => if (src == dst && QN P src && e == 1) = true then some (.slice (some ⟨H.length, o, none⟩) n e, H.set g .dead ++ [.own cs]) else none
    | _ => none)
  | _ => none
theorem byteSliceT_mark {P : Program} {t : TypeId} (h : QN P t = true) : ∃ e, P.underlying t = some (.slice e) ∧ P.underlying e = some (.int .u8) := by
  unfold QN at h
  split at h
  · rename_i e hu
    refine ⟨e, hu, ?_⟩
    split at h
    · rename_i he; exact he
    · cases h
  · cases h
theorem convert_mark_run {P : Program} {W : World} {t e : TypeId} {C : Array Value} {ty : TypeId} {fr : Nat × Nat} {b o n c : Nat} (ht : P.underlying t = some (.slice e)) (he : P.underlying e = some (.int .u8)) (hb : W.heap[b]? = some (.cells C ty fr)) :
    (convert t t (.slice (some ⟨b, o, none⟩) n c)).run P W = .ok (.slice (some ⟨b, o, none⟩) n c) (W.freeze ⟨b, C.size, none⟩ 1) := by
  simp [convert, run_underlying ht, run_underlying he, markStringish, World.shape?, hb]
theorem amark_sound {P : Program} {φ : Phi} {H H' : AH} {W : World} {src dst : TypeId} {x x' v : Value} (hS : Sim φ H W) (h : QH P H src dst x = some (v, H')) (hx : VR φ x x') :
    ∃ φ' W', VR φ' v x' ∧ Sim φ' H' W' ∧ Ev φ H W φ' H' W' ∧ (convert src dst x').run P W = .ok x' W' := by
  unfold QH at h
  split at h
  · rename_i g o n e
    split at h
    · rename_i cs hg
      split at h
      · rename_i hc
        simp only [Bool.and_eq_true, beq_iff_eq] at hc
        obtain ⟨⟨rfl, hc⟩, rfl⟩ := hc
        obtain ⟨et, hu, he⟩ := byteSliceT_mark hc
        cases h
        cases hx with
        | @slice _ _ _ _ c' bi hφ hnc hr =>
          have hlt := own_lt hg
          obtain ⟨C, ty, fr, d1, d2, d3, d4, d5⟩ := hS.own g cs bi hg hφ
          have m4 : (W.freeze ⟨bi.blk, C.size, none⟩ 1).heap.size = W.heap.size := by
            unfold World.freeze; rw [if_neg (by decide)]; simp
          have hoth : ∀ b, b ≠ bi.blk → (W.freeze ⟨bi.blk, C.size, none⟩ 1).heap[b]? = W.heap[b]? := fun b hb => by
            unfold World.freeze; rw [if_neg (by decide)]
            simp only [Array.getElem?_modify]
            rw [if_neg (fun e => hb e.symm)]
          have hown : ∃ fr' : Nat × Nat, (W.freeze ⟨bi.blk, C.size, none⟩ 1).heap[bi.blk]? = some (.cells C ty fr') ∧ (fr'.1 = fr'.2 ∨ C.size ≤ fr'.1) := by
            unfold World.freeze; rw [if_neg (by decide)]
            simp only [Array.getElem?_modify, if_true, d1, Option.map_some]
            obtain ⟨lo, hi⟩ := fr
            refine ⟨_, rfl, ?_⟩
            simp only at d3 ⊢
            by_cases hlh : lo = hi
            · subst hlh
              simp
            · have h1 : C.size ≤ lo := (d3.resolve_left hlh).2
              have h2 : (lo == hi) = false := by simpa using hlh
              simp only [h2, Bool.false_eq_true, if_false]
              exact .inr (by omega)
          obtain ⟨fr', f1, f2⟩ := hown
          have m1 : (W.freeze ⟨bi.blk, C.size, none⟩ 1).os = W.os := by unfold World.freeze; rw [if_neg (by decide)]
          have m2 : (W.freeze ⟨bi.blk, C.size, none⟩ 1).tape = W.tape := by unfold World.freeze; rw [if_neg (by decide)]
          have m3 : (W.freeze ⟨bi.blk, C.size, none⟩ 1).output = W.output := by unfold World.freeze; rw [if_neg (by decide)]
          have hK := hS.kill g hlt
          have hlen : (H.set g ABlk.dead).length = H.length := by simp
          have hP := hK.push (.own cs)
          have hn := hS.fresh_none (Nat.le_refl H.length)
          refine ⟨φ.upd H.length ⟨bi.blk, bi.off, bi.room, true⟩, _, ?_, ?_, ?_, convert_mark_run hu he d1⟩
          · exact VR.slice (bi := ⟨bi.blk, bi.off, bi.room, true⟩) Phi.upd_self hnc (.inr ⟨(hr.resolve_left (by decide)).1, fun h => absurd h (by decide)⟩)
          · refine hP.rebind (cs' := cs) (by rw [← hlen]; exact get_push_eq) hn (hS.dom g bi hφ).2 (fun y bi' hy hd => ?_) m4 hoth ⟨C, ty, fr', f1, d2, f2.imp id (fun h => ⟨rfl, h⟩), d4, d5⟩
            have hyl := (hS.dom y bi' hy).1
            have hyg : y ≠ g := by
              rintro rfl
              apply hd
              rw [get_push_lt (by simpa using hyl), List.getElem?_set_self hyl]
            refine (hS.sep g y _ bi bi' hg ABlk.mine_own hφ hyg hy fun e => hd ?_).symm
            rw [get_push_lt (by simpa using hyl), List.getElem?_set_ne (fun he => hyg he.symm)]
            exact e
          · refine ⟨m1, m2, m3, by omega, by simp, fun y hy => Phi.upd_ne (by omega), fun y hy hny => ?_, fun k hk hown => hoth k fun e => hown g _ bi hg ABlk.mine_own hφ e.symm, fun y c b' f1 fm f2 f3 => ?_⟩
            · have hyg : y ≠ g := by rintro rfl; rw [hφ] at hny; cases hny
              rw [get_push_lt (by simpa using hy), List.getElem?_set_ne (fun he => hyg he.symm)]
            · by_cases hyl : y = H.length
              · subst hyl
                rw [Phi.upd_self] at f2; cases f2
                exact ⟨g, _, bi, hg, ABlk.mine_own, hφ, rfl⟩
              · rw [Phi.upd_ne hyl] at f2
                have hy2 := (hS.dom y b' f2).1
                rw [get_push_lt (by simpa using hy2)] at f1
                rcases set_get f1 hlt with ⟨_, f⟩ | ⟨_, f1⟩
                · exact absurd (f ▸ fm) ABlk.mine_dead
                · exact ⟨y, c, b', f1, fm, f2, rfl⟩
      · cases h
    · cases h
  · cases h
end Go.Proofs.YtldfnfpinemedaaDoor

namespace Go.Proofs.YtldfnfpinemedaaDoor
open Go
set_option linter.unusedSimpArgs false
set_option linter.unusedVariables false

/-- From every state that (args, H) stands for the call returns, and what it leaves is stood for by some (v, H') with R v H'. -/
def ACalls (P : Program) (f : FuncId) (args : Array Value) (H : AH) (R : Value → AH → Prop) : Prop :=
  ∀ (φ : Phi) (W : World) (args' : Array Value), Sim φ H W → VRA φ args args' → Calls P f args' W fun e W' =>
    ∃ v v' H' φ', e = .returned v' ∧ VR φ' v v' ∧ R v H' ∧ Sim φ' H' W' ∧ Ev φ H W φ' H' W'
theorem ACalls.mono {P : Program} {f : FuncId} {args : Array Value} {H : AH} {R R' : Value → AH → Prop} (h : ACalls P f args H R) (hr : ∀ v H', R v H' → R' v H') : ACalls P f args H R' :=
  fun φ W args' hS hA => (h φ W args' hS hA).mono fun e W' ⟨v, v', H', φ', h1, h2, h3, h4, h5⟩ => ⟨v, v', H', φ', h1, h2, hr _ _ h3, h4, h5⟩

/-- The slots that are known, the latest first; of all others nothing is known. -/
abbrev ATmps := List (Nat × Value)
def look : ATmps → Nat → Value
  | [], _ => undef
  | (j, v) :: r, i => if i = j then v else look r i
def aeval (t : ATmps) : Operand → Value
  | .tmp i => look t i
  | .const v => v
  | .global _ => undef
  | .func f => .func (.func f) #[] #[]
def aput (t : ATmps) (dst : Option Tmp) (v : Value) : ATmps :=
  match dst with
  | some d => (d, v) :: t
  | none => t
/-- Constants that hold no address. -/
def operandOk (x : Operand) : Bool := match x with | .const v => plainv v | _ => true

structure TR (n : Nat) (ds : List Deferred) (φ : Phi) (t : ATmps) (a : Act) : Prop where
  defers : a.defers = ds
  size : a.tmps.size = n
  rel : ∀ i, VR φ (look t i) (a.tmps.getD i undef)
theorem TR.mono {n : Nat} {ds : List Deferred} {φ φ' : Phi} (hφ : ∀ g bi, φ g = some bi → φ' g = some bi) {t : ATmps} {a : Act} (h : TR n ds φ t a) : TR n ds φ' t a :=
  ⟨h.defers, h.size, fun i => (h.rel i).mono hφ⟩
theorem TR.eval {n : Nat} {ds : List Deferred} {φ : Phi} {t : ATmps} {a : Act} (h : TR n ds φ t a) {x : Operand} (hx : operandOk x = true) : VR φ (aeval t x) (a.eval x) := by
  cases x with
  | tmp i => exact h.rel i
  | const v => exact VR.plain hx
  | global g => exact .any _
  | func f => exact .func _ rfl rfl (fun i h1 _ => by simp at h1) (fun i h1 _ => by simp at h1)
def dstOk (n : Nat) (d : Option Tmp) : Bool := match d with | some d => decide (d < n) | none => true
theorem getD_set {tmps : Array Value} {d i : Nat} {v : Value} (hd : d < tmps.size) : (tmps.setIfInBounds d v).getD i undef = if i = d then v else tmps.getD i undef := by
  simp only [Array.getD_eq_getD_getElem?, Array.getElem?_setIfInBounds]
  by_cases e : d = i
  · subst e; simp [hd]
  · simp [e, Ne.symm e]
theorem TR.put {n : Nat} {ds : List Deferred} {φ : Phi} {t : ATmps} {a : Act} (h : TR n ds φ t a) {dst : Option Tmp} (hd : dstOk n dst = true) {v v' : Value} (hv : VR φ v v') : TR n ds φ (aput t dst v) (a.put dst v') := by
  cases dst with
  | none => exact h
  | some d =>
    have hd' : d < a.tmps.size := by rw [h.size]; simpa [dstOk] using hd
    refine ⟨h.defers, by simp [Act.put, h.size], fun i => ?_⟩
    show VR φ (if i = d then v else look t i) ((a.tmps.setIfInBounds d v').getD i undef)
    rw [getD_set hd']
    split
    · exact hv
    · exact h.rel i

def Qi (op : Op) : Bool :=
  match op with
  | .move _ | .assign _ | .pick .. | .build .. | .binOp .. | .unOp .. | .makeInterface .. | .makeFunc .. | .fieldAddr .. | .field .. | .indexAddr .. | .index .. | .slice .. | .extract .. | .nilCheck .. | .typeAssert ..
  | .load .. | .alloc .. | .box .. | .buildSlice .. | .makeSlice .. => true
  | .convert s d _ => s != d
  | .call c => match c.callee with
    | .builtin .len | .builtin .cap | .builtin .min | .builtin .max => true
    | _ => false
  | _ => false
noncomputable def Qq (P : Program) (ρ : Operand → Value) (H : AH) (op : Op) : Option (Value × AH) :=
  match op with
  | .load .. => (Qz P ρ H op).map fun v => (v, H)
  | .alloc .. | .box .. | .buildSlice .. | .makeSlice .. => (anew P ρ op).map fun p => (p.2 H.length, H ++ [.own p.1])
  | .convert .. => match QC P ρ op with
    | some v => some (v, H)
    | none => match Qz P ρ H op with
      | some v => some (v, H)
      | none => (anew P ρ op).map fun p => (p.2 H.length, H ++ [.own p.1])
  | _ => (QC P ρ op).map fun v => (v, H)
/-- The three kinds of a light operation. -/
theorem aLight_cases {P : Program} {ρ : Operand → Value} {H H' : AH} {op : Op} {v : Value} (h : Qq P ρ H op = some (v, H')) :
    (QC P ρ op = some v ∧ H' = H) ∨ (Qz P ρ H op = some v ∧ H' = H) ∨ (∃ cs vf, anew P ρ op = some (cs, vf) ∧ v = vf H.length ∧ H' = H ++ [.own cs]) := by
  unfold Qq at h
  split at h
  · simp only [Option.map_eq_some_iff] at h
    obtain ⟨u, hu, e⟩ := h
    cases e
    exact .inr (.inl ⟨hu, rfl⟩)
  · simp only [Option.map_eq_some_iff] at h
    obtain ⟨u, hu, e⟩ := h
    cases e
    exact .inr (.inr ⟨_, _, hu, rfl, rfl⟩)
  · simp only [Option.map_eq_some_iff] at h
    obtain ⟨u, hu, e⟩ := h
    cases e
    exact .inr (.inr ⟨_, _, hu, rfl, rfl⟩)
  · simp only [Option.map_eq_some_iff] at h
    obtain ⟨u, hu, e⟩ := h
    cases e
    exact .inr (.inr ⟨_, _, hu, rfl, rfl⟩)
  · simp only [Option.map_eq_some_iff] at h
    obtain ⟨u, hu, e⟩ := h
    cases e
    exact .inr (.inr ⟨_, _, hu, rfl, rfl⟩)
  · split at h
    · rename_i hu
      cases h
      exact .inl ⟨hu, rfl⟩
    · split at h
      · rename_i hu
        cases h
        exact .inr (.inl ⟨hu, rfl⟩)
      · simp only [Option.map_eq_some_iff] at h
        obtain ⟨u, hu, e⟩ := h
        cases e
        exact .inr (.inr ⟨_, _, hu, rfl, rfl⟩)
  · simp only [Option.map_eq_some_iff] at h
    obtain ⟨u, hu, e⟩ := h
    cases e
    exact .inl ⟨hu, rfl⟩

/-- A new block of the machine for an abstract one that stands for nothing yet. -/
theorem news_concretize {φ : Phi} {H : AH} {W W1 : World} {g : Nat} {cs : List Value} {C : Array Value} {ty : TypeId} {fr : Nat × Nat} {mk : Bool} (hS : Sim φ H W) (hg : H[g]? = some (.own cs)) (hφ : φ g = none)
    (hh : W1.heap = W.heap.push (.cells C ty fr)) (hfr : fr.1 = fr.2 ∨ mk = true ∧ C.size ≤ fr.1) (hl : cs.length ≤ C.size) (hc : ∀ (i : Nat) (v : Value), cs[i]? = some v → ∃ v', C[i]? = some v' ∧ VR φ v v') :
    Sim (φ.upd g ⟨W.heap.size, 0, C.size, mk⟩) H W1 :=
  (hS.concretize hg hφ hfr hl hc).heap hh

theorem light_sound {P : Program} {φ : Phi} {ρ ρ' : Operand → Value} {H H' : AH} {W : World} {o : Oper} {v : Value} (hS : Sim φ H W) (h : Qq P ρ H o.op = some (v, H')) (hr : ∀ x ∈ o.op.operands, VR φ (ρ x) (ρ' x)) :
    ∃ φ' W' v', (execOp ρ' o).run P W = .ok (.value v') W' ∧ VR φ' v v' ∧ Sim φ' H' W' ∧ Ev φ H W φ' H' W' := by
  rcases aLight_cases h with ⟨hh, rfl⟩ | ⟨hh, rfl⟩ | ⟨cs, vf, hh, rfl, rfl⟩
  · obtain ⟨v', h1, h2⟩ := apure_sound hh hr
    exact ⟨φ, W, v', h2 W, h1, hS, Ev.refl _ _ _⟩
  · obtain ⟨v', h1, h2⟩ := aread_sound hS hh hr
    exact ⟨φ, W, v', h2, h1, hS, Ev.refl _ _ _⟩
  · obtain ⟨C, ty, fr, mk, v', W1, h1, h2, h3, h4, h5, h6, h7, h8, h9⟩ := anew_sound hh hr W
    have hn := hS.fresh_none (Nat.le_refl H.length)
    have hP := hS.push (.own cs)
    refine ⟨_, W1, v', h1, h9 _ _ Phi.upd_self, news_concretize hP get_push_eq hn h2 h6 h7 h8, ?_⟩
    have e0 := Ev.concretize (φ := φ) (H := H) (W := W) hn (bi := ⟨W.heap.size, 0, C.size, mk⟩) rfl (.cells C ty fr) (Nat.le_refl _) (H' := H ++ [.own cs]) (fun x hx => get_push_lt hx) (by simp) rfl
    refine e0.trans (Ev.heap ?_ h3 h4 h5)
    rw [h2]; rfl

def callable (P : Program) (k : FuncId) : Bool :=
  match P.funcs[k]? with
  | some fn => fn.name != "runtime.NumGoroutine" && fn.body.isSome
  | none => false
/-- What an operation leaves is handed on. -/
def andK (x : Option (Value × AH)) (K : Value → AH → Prop) : Prop := match x with | some r => K r.1 r.2 | none => False
theorem andK_some {v : Value} {H : AH} {K : Value → AH → Prop} : andK (some (v, H)) K = K v H := rfl
theorem andK_spec {x : Option (Value × AH)} {K : Value → AH → Prop} (h : andK x K) : ∃ v H', x = some (v, H') ∧ K v H' := by
  cases x with
  | none => exact h.elim
  | some r => exact ⟨r.1, r.2, rfl, h⟩
/-- clear of a slice: its cells are let go. -/
def aclear (P : Program) (H : AH) (t : TypeId) (x : Value) : Option AH :=
  match elemT P t with
  | some (size, _) => match x with
    | .slice none 0 0 => some H
    | .slice (some ⟨g, o, _⟩) n _ => if n = 0 then some H
      else match H[g]? with
      | some (.own cs) => if o + (List.replicate (n * size) undef).length ≤ cs.length then some (H.set g (.own (ovr cs o (List.replicate (n * size) undef)))) else none
      | _ => none
    | _ => none
  | none => none
theorem zeroCells_one' {z : Array Value} (n : Nat) (hz : ∀ v ∈ z.toList, v.oneCell' = true) : ∀ v ∈ (Builtin.zeroCells z n).toList, v.oneCell' = true := by
  intro v hv
  unfold Builtin.zeroCells at hv
  rw [Array.toList_map, List.mem_map] at hv
  obtain ⟨i, hi, rfl⟩ := hv
  rw [Array.toList_range, List.mem_range] at hi
  have hz0 : 0 < z.size := Nat.pos_of_ne_zero fun h => by rw [h, Nat.mul_zero] at hi; omega
  rw [getElem!_pos z _ (Nat.mod_lt _ hz0)]
  exact hz _ (by rw [Array.mem_toList_iff]; exact Array.getElem_mem _)
theorem aclear_sound {P : Program} {φ : Phi} {H H' : AH} {W : World} {t ty : TypeId} {x x' : Value} (hS : Sim φ H W) (h : aclear P H t x = some H') (hx : VR φ x x') :
    ∃ W', Sim φ H' W' ∧ Ev φ H W φ H' W' ∧ (Builtin.clear_ #[t] ty #[x']).run P W = .ok (.tuple #[]) W' := by
  unfold aclear at h
  split at h
  · rename_i size bytes hel
    have hzT := hel
    unfold elemT at hzT
    obtain ⟨e, i, z, hu, hi, hz, hzs, rfl, rfl⟩ := elemT_spec hel
    rw [hu] at hzT
    simp only [hi] at hzT
    have hone : ∀ v ∈ z.cells.toList, v.oneCell' = true := by
      cases hzz : zeroT P e with
      | none => rw [hzz] at hzT; simp at hzT
      | some zc =>
        obtain ⟨i', z', hi', hz', hzc, _⟩ := zeroT_spec (φ := φ) hzz
        rw [hi] at hi'; cases hi'
        rw [hz] at hz'; cases hz'
        intro v hv
        unfold zeroT at hzz
        rw [hi] at hzz
        simp only [Option.bind_some, hz] at hzz
        split at hzz
        · rename_i hp
          rw [Array.all_eq_true_iff_forall_mem] at hp
          have hpl := hp v (by rw [← Array.mem_toList_iff]; exact hv)
          unfold plainv at hpl
          split at hpl <;> first | rfl | cases hpl
        · cases hzz
    split at h
    · cases h; cases hx
      exact ⟨W, hS, Ev.refl _ _ _, by simp [Builtin.clear_, run_underlying hu]⟩
    · rename_i g o sp n cc
      split at h
      · rename_i hn
        cases h; subst hn
        cases hx with
        | empty g0 o0 a' c' => exact ⟨W, hS, Ev.refl _ _ _, by simp [Builtin.clear_, run_underlying hu]⟩
        | slice hφ hnc hr => exact ⟨W, hS, Ev.refl _ _ _, by simp [Builtin.clear_, run_underlying hu]⟩
        | sliceX hφ hnc hr => exact ⟨W, hS, Ev.refl _ _ _, by simp [Builtin.clear_, run_underlying hu]⟩
      · rename_i hn
        split at h
        · rename_i cs hg
          split at h
          · rename_i hc
            cases h
            cases hx with
            | empty g0 o0 a' c' => exact absurd rfl hn
            | @slice _ _ _ _ c' bi hφ hnc hr =>
              have hl : (List.replicate (n * i.size) undef).length = (Builtin.zeroCells z.cells n).toList.length := by
                rw [List.length_replicate, Array.length_toList, zeroCells_size, hzs]
              have hv : VRL φ (List.replicate (n * i.size) undef) (Builtin.zeroCells z.cells n).toList := by
                refine ⟨hl, fun j a b ha hb => ?_⟩
                obtain rfl := (List.mem_replicate.1 (List.mem_of_getElem? ha)).2
                exact .any _
              obtain ⟨k1, k2, k3, k4⟩ := hS.write hg hφ hc hv
              refine ⟨_, k3, k4, ?_⟩
              have hst := run_storeCells_cells (P := P) bi.blk (bi.off + o) (Builtin.zeroCells z.cells n).toList 0 W (by simpa using k1) (by simpa using k2) (zeroCells_one' n hone)
              simp only [Nat.add_zero] at hst
              obtain ⟨m, rfl⟩ : ∃ m, n = m + 1 := ⟨n - 1, by omega⟩
              simp [Builtin.clear_, run_underlying hu, zeroValue, typeInfo, hi, hz, hst]
            | @sliceX _ _ _ _ c' bi hφ hnc hr =>
              have hl : (List.replicate (n * i.size) undef).length = (Builtin.zeroCells z.cells n).toList.length := by
                rw [List.length_replicate, Array.length_toList, zeroCells_size, hzs]
              have hv : VRL φ (List.replicate (n * i.size) undef) (Builtin.zeroCells z.cells n).toList := by
                refine ⟨hl, fun j a b ha hb => ?_⟩
                obtain rfl := (List.mem_replicate.1 (List.mem_of_getElem? ha)).2
                exact .any _
              obtain ⟨k1, k2, k3, k4⟩ := hS.write hg hφ hc hv
              refine ⟨_, k3, k4, ?_⟩
              have hst := run_storeCells_cells (P := P) bi.blk (bi.off + o) (Builtin.zeroCells z.cells n).toList 0 W (by simpa using k1) (by simpa using k2) (zeroCells_one' n hone)
              simp only [Nat.add_zero] at hst
              obtain ⟨m, rfl⟩ : ∃ m, n = m + 1 := ⟨n - 1, by omega⟩
              simp [Builtin.clear_, run_underlying hu, zeroValue, typeInfo, hi, hz, hst]
          · cases h
        · cases h
    · cases h
  · cases h
/-! ### maps with keys of several cells -/
def mapT (P : Program) (t : TypeId) : Option (TypeId × TypeId) :=
  match P.underlying t with
  | some (.map k e) => some (k, e)
  | _ => none
theorem mapT_spec {P : Program} {t k e : TypeId} (h : mapT P t = some (k, e)) : P.underlying t = some (.map k e) := by
  unfold mapT at h
  split at h
  · rename_i k' e' hu; cases h; exact hu
  · cases h
def wideT (P : Program) (k : TypeId) : Bool := match P.underlying k with | some (.array _ _) | some (.struct _) => true | _ => false
/-- The first entry with a key. -/
noncomputable def afind (P : Program) (kt : TypeId) (xs : Array Value) : List (Value × Value) → Nat → Option (Option (Nat × Value))
  | [], _ => some none
  | (.agg ys, v) :: es, i => match aeqAgg P kt xs ys with
    | some true => some (some (i, v))
    | some false => afind P kt xs es (i + 1)
    | none => none
  | _ :: _, _ => none
/-- The first value of a type, where it is one cell. -/
def zero1 (P : Program) (t : TypeId) : Option Value :=
  match (P.info? t).bind (·.zero) with
  | some z => if plainv z then some z else none
  | none => none
theorem zero1_spec {P : Program} {φ : Phi} {t : TypeId} {v : Value} (h : zero1 P t = some v) : VR φ v v ∧ ∀ W, (zeroValue t).run P W = .ok v W := by
  unfold zero1 at h
  split at h
  · rename_i z hz
    split at h
    · rename_i hp
      cases h
      refine ⟨?_, fun W => ?_⟩
      · exact VR.plain hp
      · cases hi : P.info? t with
        | none => rw [hi] at hz; cases hz
        | some i => rw [hi] at hz; simp only [Option.bind_some] at hz; simp [zeroValue, typeInfo, hi, hz]
    · cases h
  · cases h
def setObjW (w : World) (b : Nat) (o : Obj) : World := { w with heap := w.heap.setIfInBounds b o }
noncomputable def alookup (P : Program) (H : AH) (t : TypeId) (x k : Value) : Option Value :=
  match x, k with
  | .map (some g), .agg xs => match H[g]?, mapT P t with
    | some (.map es), some (kt, et) => if wideT P kt = true ∧ aeqAgg P kt xs xs = some true then (match afind P kt xs es 0 with
      | some (some (_, v)) => some v
      | some none => zero1 P et
      | none => none) else none
    | _, _ => none
  | _, _ => none
noncomputable def amapup (P : Program) (H : AH) (t : TypeId) (x k v : Value) : Option AH :=
  match x, k with
  | .map (some g), .agg xs => match H[g]?, mapT P t with
    | some (.map es), some (kt, _) => if wideT P kt = true ∧ aeqAgg P kt xs xs = some true then (match afind P kt xs es 0 with
      | some (some (i, _)) => @ite _ ((es[i]?).map (·.1) = some (.agg xs)) (Classical.propDecidable _) (some (H.set g (.map (es.set i (.agg xs, v))))) none
      | some none => some (H.set g (.map (es ++ [(.agg xs, v)])))
      | none => none) else none
    | _, _ => none
  | _, _ => none
theorem VR.scalar_self {φ : Phi} {v : Value} (h : scalarv v = true) : VR φ v v := by
  unfold scalarv at h
  split at h
  · exact .bool _
  · exact .int _ _
  · exact .string _
  · cases h
theorem VRA.refl_scalar {φ : Phi} {xs : Array Value} (h : xs.all scalarv = true) : VRA φ xs xs :=
  ⟨rfl, fun i h1 h2 => VR.scalar_self (Array.all_eq_true.1 h i h1)⟩
theorem VR.agg_scalar {φ : Phi} {xs : Array Value} (h : xs.all scalarv = true) : VR φ (.agg xs) (.agg xs) :=
  .agg rfl fun i h1 h2 => VR.scalar_self (Array.all_eq_true.1 h i h1)
theorem aeqAgg_scalar {P : Program} {T : TypeId} {xs ys : Array Value} {b : Bool} (h : aeqAgg P T xs ys = some b) : xs.all scalarv = true ∧ ys.all scalarv = true := by
  unfold aeqAgg at h
  split at h
  · rename_i hc
    simp only [Bool.and_eq_true] at hc
    exact ⟨hc.1.1.1.1.1, hc.1.1.1.1.2⟩
  · cases h
theorem aeqAgg_check {P : Program} {T : TypeId} {xs ys : Array Value} {b : Bool} (h : aeqAgg P T xs ys = some b) (em : Bool) (W : World) : (Instr.checkKey em 10000 T (.agg xs)).run P W = .ok () W := by
  unfold aeqAgg at h
  split at h
  · rename_i hc
    simp only [Bool.and_eq_true, Bool.not_eq_true'] at hc
    obtain ⟨⟨⟨⟨⟨h1, h2⟩, h3⟩, h4⟩, h5⟩, h6⟩ := hc
    split at h
    · rename_i la lb ha hb
      exact run_checkKey_deep em 9992 8 T h3 W 8 (.agg xs) la h5 ha
    · cases h
  · cases h
theorem afind_agg {P : Program} {kt : TypeId} {xs ys : Array Value} {v : Value} {es : List (Value × Value)} {i : Nat} : afind P kt xs ((.agg ys, v) :: es) i = (match aeqAgg P kt xs ys with | some true => some (some (i, v)) | some false => afind P kt xs es (i + 1) | none => none) := rfl
theorem afind_sound {P : Program} {φ : Phi} {kt : TypeId} {xs : Array Value} : ∀ (es : List (Value × Value)) (E : List MapEntry) (i : Nat) (r : Option (Nat × Value)), afind P kt xs es i = some r → E.length = es.length →
    (∀ (j : Nat) k v, es[j]? = some (k, v) → ∃ e, E[j]? = some e ∧ VR φ k e.key ∧ VR φ v e.val) →
    ∀ W, (r = none ∧ (Instr.findAsking kt (.agg xs) E i).run P W = .ok none W) ∨ (∃ j v e, r = some (i + j, v) ∧ es[j]?.map (·.2) = some v ∧ E[j]? = some e ∧ VR φ v e.val ∧ (Instr.findAsking kt (.agg xs) E i).run P W = .ok (some (i + j, e.val)) W)
  | [], [], i, r, h, _, _, W => by
    cases h
    exact .inl ⟨rfl, by simp [Instr.findAsking]⟩
  | [], _ :: _, _, _, _, hl, _, _ => by simp at hl
  | _ :: _, [], _, _, _, hl, _, _ => by simp at hl
  | (k, v) :: es, e :: E, i, r, h, hl, hE, W => by
    obtain ⟨e0, h0, hk, hv⟩ := hE 0 k v rfl
    cases h0
    have tail : ∀ (j : Nat) k v, es[j]? = some (k, v) → ∃ e, E[j]? = some e ∧ VR φ k e.key ∧ VR φ v e.val := fun j k v hj => hE (j + 1) k v (by simpa using hj)
    cases k with
    | agg ys =>
      rw [afind_agg] at h
      split at h
      · rename_i hq
        cases h
        generalize hkk : e.key = q at hk
        cases hk with
          | @agg _ ys' s1 c1 =>
            have hse := (aeqAgg_scalar hq).2
            have : ys' = ys := VRA.scalar ⟨s1, c1⟩ hse
            subst this
            have hr := (aeqAgg_sound (φ := φ) hq (VRA.refl_scalar (aeqAgg_scalar hq).1) (VRA.refl_scalar hse)).1 W
            exact .inr ⟨0, v, e, rfl, rfl, rfl, hv, by simp [Instr.findAsking, hkk, hr]⟩
      · rename_i hq
        generalize hkk : e.key = q at hk
        cases hk with
          | @agg _ ys' s1 c1 =>
            have hse := (aeqAgg_scalar hq).2
            have : ys' = ys := VRA.scalar ⟨s1, c1⟩ hse
            subst this
            have hr := (aeqAgg_sound (φ := φ) hq (VRA.refl_scalar (aeqAgg_scalar hq).1) (VRA.refl_scalar hse)).1 W
            rcases afind_sound es E (i + 1) r h (by simpa using hl) tail W with ⟨rfl, k1⟩ | ⟨j, v2, e2, rfl, k1, k2, k3, k4⟩
            · exact .inl ⟨rfl, by simp [Instr.findAsking, hkk, hr, k1]⟩
            · exact .inr ⟨j + 1, v2, e2, by rw [Nat.add_assoc, Nat.add_comm 1 j], by simpa using k1, by simpa using k2, k3, by simp [Instr.findAsking, hkk, hr, k4, Nat.add_assoc, Nat.add_comm 1 j]⟩
      · cases h
    | _ => simp [afind] at h
theorem alookup_sound {P : Program} {φ : Phi} {H : AH} {W : World} {t : TypeId} {x k x' k' v : Value} (hS : Sim φ H W) (h : alookup P H t x k = some v) (hx : VR φ x x') (hk : VR φ k k') :
    ∃ v', VR φ v v' ∧ (Instr.lookup t x' k' false).run P W = .ok v' W := by
  unfold alookup at h
  split at h
  · rename_i g xs
    split at h
    · rename_i es kt et hg hm
      split at h
      · rename_i hc
        obtain ⟨hw, hself⟩ := hc
        have hu := mapT_spec hm
        cases hx with
        | @map _ bi hφ =>
          cases hk with
          | @agg _ xs' s1 c1 =>
            have : xs' = xs := VRA.scalar ⟨s1, c1⟩ (aeqAgg_scalar hself).1
            subst this
            obtain ⟨E, cl, hb, hl, hE⟩ := hS.map g es bi hg hφ
            have hck := fun em => aeqAgg_check hself em W
            have hfk : ∀ r, (Instr.findAsking kt (.agg xs') E.toList 0).run P W = .ok r W → (Instr.findKey kt (.agg xs') E.toList).run P W = .ok r W := fun r hr => by
              rw [run_findKey_eq W (k := kt) hw]; exact hr
            split at h
            · rename_i i v0 hf
              cases h
              rcases afind_sound (φ := φ) es E.toList 0 _ hf (by simpa using hl.1) (fun j k v hj => by obtain ⟨e, e1, e2⟩ := hE j k v hj; exact ⟨e, by simpa using e1, e2⟩) W with ⟨e, _⟩ | ⟨j, v2, e2, e, k1, k2, k3, k4⟩
              · cases e
              · cases e
                refine ⟨e2.val, k3, ?_⟩
                simp [Instr.lookup, run_underlying hu, MapKept.run_getObj_map hb, hck, hfk _ k4, Result.andThen]
            · rename_i hf
              obtain ⟨hz, hzr⟩ := zero1_spec (φ := φ) h
              rcases afind_sound (φ := φ) es E.toList 0 _ hf (by simpa using hl.1) (fun j k v hj => by obtain ⟨e, e1, e2⟩ := hE j k v hj; exact ⟨e, by simpa using e1, e2⟩) W with ⟨_, k4⟩ | ⟨j, v2, e2, e, k1, k2, k3, k4⟩
              · refine ⟨v, hz, ?_⟩
                simp [Instr.lookup, run_underlying hu, MapKept.run_getObj_map hb, hck, hfk _ k4, hzr, Result.andThen]
              · cases e
            · cases h
      · cases h
    · cases h
  · cases h
theorem sameBits_scalar {xs : Array Value} (h : xs.all scalarv = true) : Instr.sameBits 10000 (.agg xs) (.agg xs) = true := by
  have one : ∀ v, scalarv v = true → Instr.sameBits 9999 v v = true := fun v hv => by
    unfold scalarv at hv
    split at hv
    · simp [Instr.sameBits]
    · simp [Instr.sameBits]
    · simp [Instr.sameBits, MapKept.bytes_beq]
    · cases hv
  rw [show (10000 : Nat) = 9999 + 1 from rfl, Instr.sameBits]
  simp only [Bool.and_eq_true, beq_iff_eq, true_and]
  rw [List.all_eq_true]
  rintro ⟨a, b⟩ hab
  have hz : ∀ l : List Value, ∀ p ∈ l.zip l, p.1 = p.2 ∧ p.1 ∈ l := fun l => by
    induction l with
    | nil => intro p hp; simp at hp
    | cons y l ih =>
      intro p hp
      rcases List.mem_cons.1 (by simpa using hp) with rfl | hp
      · exact ⟨rfl, by simp⟩
      · exact ⟨(ih p hp).1, by simp [(ih p hp).2]⟩
  obtain ⟨e, hm⟩ := hz _ _ hab
  simp only at e hm
  subst e
  exact one a (Array.all_eq_true_iff_forall_mem.1 h a (by simpa using hm))
theorem MapOk.modify {E : Array MapEntry} {cl n m i : Nat} {f : MapEntry → MapEntry} (h : MapOk E cl n) (hm : m = n) (hf : ∀ e, (f e).born = e.born) : MapOk (E.modify i f) cl m := by
  subst hm
  refine ⟨by rw [Array.size_modify]; exact h.1, h.2.1, fun j e he => ?_⟩
  rw [Array.getElem?_modify] at he
  split at he
  · cases hE : E[j]? with
    | none => rw [hE] at he; cases he
    | some e0 =>
      rw [hE] at he
      cases he
      rw [hf]; exact h.2.2 j e0 hE
  · exact h.2.2 j e he
theorem MapOk.push {E : Array MapEntry} {cl n m : Nat} {k v : Value} (h : MapOk E cl n) (hm : m = n + 1) : MapOk (E.push { key := k, val := v, born := cl }) (cl + 1) m := by
  subst hm
  refine ⟨by rw [Array.size_push, h.1], by rw [h.2.1], fun j e he => ?_⟩
  rw [Array.getElem?_push] at he
  split at he
  · rename_i hj
    cases he
    rw [hj, h.1]; exact h.2.1
  · exact h.2.2 j e he
theorem amapup_sound {P : Program} {φ : Phi} {H H' : AH} {W : World} {t : TypeId} {x k v x' k' v' : Value} (hS : Sim φ H W) (h : amapup P H t x k v = some H') (hx : VR φ x x') (hk : VR φ k k') (hv : VR φ v v') :
    ∃ W', Sim φ H' W' ∧ Ev φ H W φ H' W' ∧ (Instr.mapUpdate t x' k' v').run P W = .ok () W' := by
  unfold amapup at h
  split at h
  · rename_i g xs
    split at h
    · rename_i es kt et hg hm
      split at h
      · rename_i hc
        obtain ⟨hw, hself⟩ := hc
        have hu := mapT_spec hm
        have hsc := (aeqAgg_scalar hself).1
        cases hx with
        | @map _ bi hφ =>
          cases hk with
          | @agg _ xs' s1 c1 =>
            have : xs' = xs := VRA.scalar ⟨s1, c1⟩ hsc
            subst this
            obtain ⟨E, cl, hb, hl, hE⟩ := hS.map g es bi hg hφ
            have hck := fun em => aeqAgg_check hself em W
            have hfk : ∀ r, (Instr.findAsking kt (.agg xs') E.toList 0).run P W = .ok r W → (Instr.findKey kt (.agg xs') E.toList).run P W = .ok r W := fun r hr => by
              rw [run_findKey_eq W (k := kt) hw]; exact hr
            have hblt : bi.blk < W.heap.size := (hS.dom g bi hφ).2
            have set1 : ∀ (E' : Array MapEntry) (cl' : Nat) (es' : List (Value × Value)), MapOk E' cl' es'.length → (∀ (i : Nat) k v, es'[i]? = some (k, v) → ∃ e, E'[i]? = some e ∧ VR φ k e.key ∧ VR φ v e.val) →
                Sim φ (H.set g (.map es')) (setObjW W bi.blk (.map E' cl')) ∧ Ev φ H W φ (H.set g (.map es')) (setObjW W bi.blk (.map E' cl')) := by
              intro E' cl' es' hl' hE'
              have o1 : (setObjW W bi.blk (.map E' cl')).heap.size = W.heap.size := by simp [setObjW]
              have o2 : ∀ b, b ≠ bi.blk → (setObjW W bi.blk (.map E' cl')).heap[b]? = W.heap[b]? := fun b hb => by simp [setObjW, Array.getElem?_setIfInBounds_ne (Ne.symm hb)]
              refine ⟨hS.upmine hg ABlk.mine_map ABlk.mine_map hφ o1 o2 (fun _ e => by cases e) (fun es2 e => ?_) (fun _ _ _ e => by cases e), Ev.upmine hg ABlk.mine_map hφ o1 o2 rfl rfl rfl⟩
              cases e
              exact ⟨E', cl', by simp [setObjW, hblt], hl', hE'⟩
            split at h
            · rename_i i v0 hf
              split at h
              · rename_i hkey
                cases h
                rcases afind_sound (φ := φ) es E.toList 0 _ hf (by simpa using hl.1) (fun j k v hj => by obtain ⟨e, e1, e2⟩ := hE j k v hj; exact ⟨e, by simpa using e1, e2⟩) W with ⟨e, _⟩ | ⟨j, v2, e2, e, k1, k2, k3, k4⟩
                · cases e
                · simp only [Nat.zero_add, Option.some.injEq, Prod.mk.injEq] at e
                  obtain ⟨rfl, rfl⟩ := e
                  rw [Nat.zero_add] at k4
                  have k2' : E[i]? = some e2 := by simpa using k2
                  have hek : e2.key = .agg xs' := by
                    cases hesi : es[i]? with
                    | none => rw [hesi] at hkey; cases hkey
                    | some p =>
                      rw [hesi] at hkey
                      simp only [Option.map_some, Option.some.injEq] at hkey
                      obtain ⟨e3, q1, q2, q3⟩ := hE i p.1 p.2 (by rw [hesi])
                      rw [k2'] at q1; cases q1
                      rw [hkey] at q2
                      generalize e2.key = q at q2
                      cases q2 with
                      | agg s1 c1 => congr 1; exact VRA.scalar ⟨s1, c1⟩ hsc
                  obtain ⟨c1, c2⟩ := set1 (E.modify i fun e => { e with key := .agg xs', val := v' }) cl (es.set i (.agg xs', v)) (hl.modify (List.length_set ..) fun e => rfl) (fun j k w hj => by
                    rw [List.getElem?_set] at hj
                    split at hj
                    · rename_i hij
                      subst hij
                      split at hj
                      · cases hj
                        have : i < E.size := (Array.getElem?_eq_some_iff.1 k2').1
                        refine ⟨{ e2 with key := .agg xs', val := v' }, by rw [Array.getElem?_modify]; simp [k2'], ?_, hv⟩
                        exact VR.agg_scalar hsc
                      · cases hj
                    · rename_i hij
                      obtain ⟨e3, q1, q2, q3⟩ := hE j k w hj
                      exact ⟨e3, by rw [Array.getElem?_modify, if_neg hij]; exact q1, q2, q3⟩)
                  refine ⟨_, c1, c2, ?_⟩
                  have hkts : (Instr.keyThatStays (.agg xs') (.agg xs')).run P W = .ok (.agg xs') W := by simp [Instr.keyThatStays, sameBits_scalar hsc]
                  simp [Instr.mapUpdate, run_underlying hu, MapKept.run_getObj_map hb, hck, hfk _ k4, k2', hek, hkts, MapKept.run_setObj_map _ hb, Result.andThen, setObjW]
              · cases h
            · rename_i hf
              cases h
              rcases afind_sound (φ := φ) es E.toList 0 _ hf (by simpa using hl.1) (fun j k v hj => by obtain ⟨e, e1, e2⟩ := hE j k v hj; exact ⟨e, by simpa using e1, e2⟩) W with ⟨_, k4⟩ | ⟨j, v2, e2, e, k1, k2, k3, k4⟩
              · obtain ⟨c1, c2⟩ := set1 (E.push { key := .agg xs', val := v', born := cl }) (cl + 1) (es ++ [(.agg xs', v)]) (hl.push (by rw [List.length_append]; rfl)) (fun j k w hj => by
                  have hls := hl.1
                  by_cases hjl : j < es.length
                  · rw [List.getElem?_append_left hjl] at hj
                    obtain ⟨e3, q1, q2, q3⟩ := hE j k w hj
                    exact ⟨e3, by rw [Array.getElem?_push, if_neg (by omega)]; exact q1, q2, q3⟩
                  · rw [List.getElem?_append_right (by omega)] at hj
                    have : j = es.length := by have := (List.getElem?_eq_some_iff.1 hj).1; simp at this; omega
                    subst this
                    simp only [Nat.sub_self, List.getElem?_cons_zero, Option.some.injEq, Prod.mk.injEq] at hj
                    obtain ⟨rfl, rfl⟩ := hj
                    exact ⟨_, by rw [Array.getElem?_push, if_pos (by omega)], VR.agg_scalar hsc, hv⟩)
                refine ⟨_, c1, c2, ?_⟩
                simp [Instr.mapUpdate, run_underlying hu, MapKept.run_getObj_map hb, hck, hfk _ k4, MapKept.run_setObj_map _ hb, Result.andThen, setObjW]
              · cases e
            · cases h
      · cases h
    · cases h
  · cases h
theorem set_map {φ : Phi} {H : AH} {W : World} {g : Nat} {es : List (Value × Value)} {bi : BI} (hS : Sim φ H W) (hg : H[g]? = some (.map es)) (hφ : φ g = some bi) {E' : Array MapEntry} {cl' : Nat} {es' : List (Value × Value)} (hl' : MapOk E' cl' es'.length)
    (hE' : ∀ (i : Nat) k v, es'[i]? = some (k, v) → ∃ e, E'[i]? = some e ∧ VR φ k e.key ∧ VR φ v e.val) : Sim φ (H.set g (.map es')) (setObjW W bi.blk (.map E' cl')) ∧ Ev φ H W φ (H.set g (.map es')) (setObjW W bi.blk (.map E' cl')) := by
  have hblt : bi.blk < W.heap.size := (hS.dom g bi hφ).2
  have o1 : (setObjW W bi.blk (.map E' cl')).heap.size = W.heap.size := by simp [setObjW]
  have o2 : ∀ b, b ≠ bi.blk → (setObjW W bi.blk (.map E' cl')).heap[b]? = W.heap[b]? := fun b hb => by simp [setObjW, Array.getElem?_setIfInBounds_ne (Ne.symm hb)]
  refine ⟨hS.upmine hg ABlk.mine_map ABlk.mine_map hφ o1 o2 (fun _ e => by cases e) (fun es2 e => ?_) (fun _ _ _ e => by cases e), Ev.upmine hg ABlk.mine_map hφ o1 o2 rfl rfl rfl⟩
  cases e
  exact ⟨E', cl', by simp [setObjW, hblt], hl', hE'⟩
theorem set_same {H : AH} {g : Nat} {x : ABlk} (h : H[g]? = some x) : H.set g x = H := by
  apply List.ext_getElem?
  intro i
  by_cases hi : g = i
  · subst hi
    rw [List.getElem?_set_self (List.getElem?_eq_some_iff.1 h).1, h]
  · rw [List.getElem?_set_ne hi]
/-- A map's entry with a key, made where there is none; the entry's place is told. -/
noncomputable def amapent (P : Program) (H : AH) (t : TypeId) (x k : Value) : Option (Value × AH) :=
  match x, k with
  | .map (some g), .agg xs => match H[g]?, mapT P t with
    | some (.map es), some (kt, et) => if wideT P kt = true ∧ aeqAgg P kt xs xs = some true then (match afind P kt xs es 0 with
      | some (some (i, v)) => @ite _ ((es[i]?).map (·.1) = some (.agg xs)) (Classical.propDecidable _) (some (.tuple #[v, .int .i64 (i : Int)], H)) none
      | some none => (zero1 P et).map fun z => (.tuple #[z, .int .i64 (es.length : Int)], H.set g (.map (es ++ [(.agg xs, z)])))
      | none => none) else none
    | _, _ => none
  | _, _ => none
/-- An entry's value is set. -/
def aentst (H : AH) (x s v : Value) : Option AH :=
  match x, s with
  | .map (some g), .int .i64 n => match H[g]? with
    | some (.map es) => match es[n.toNat]? with
      | some (k, _) => if 0 ≤ n then some (H.set g (.map (es.set n.toNat (k, v)))) else none
      | none => none
    | _ => none
  | _, _ => none
theorem vr_pair {φ : Phi} {a b a' b' : Value} (h1 : VR φ a a') (h2 : VR φ b b') : VR φ (.tuple #[a, b]) (.tuple #[a', b']) := by
  refine .tuple rfl fun i h h' => ?_
  match i, h with
  | 0, _ => exact h1
  | 1, _ => exact h2
theorem amapent_sound {P : Program} {φ : Phi} {H H' : AH} {W : World} {t : TypeId} {x k x' k' v : Value} (hS : Sim φ H W) (h : amapent P H t x k = some (v, H')) (hx : VR φ x x') (hk : VR φ k k') :
    ∃ v' W', VR φ v v' ∧ Sim φ H' W' ∧ Ev φ H W φ H' W' ∧ (Instr.mapEntry t x' k').run P W = .ok v' W' := by
  unfold amapent at h
  split at h
  · rename_i g xs
    split at h
    · rename_i es kt et hg hm
      split at h
      · rename_i hc
        obtain ⟨hw, hself⟩ := hc
        have hu := mapT_spec hm
        have hsc := (aeqAgg_scalar hself).1
        cases hx with
        | @map _ bi hφ =>
          cases hk with
          | @agg _ xs' s1 c1 =>
            have : xs' = xs := VRA.scalar ⟨s1, c1⟩ hsc
            subst this
            obtain ⟨E, cl, hb, hl, hE⟩ := hS.map g es bi hg hφ
            have hck := fun em => aeqAgg_check hself em W
            have hfk : ∀ r, (Instr.findAsking kt (.agg xs') E.toList 0).run P W = .ok r W → (Instr.findKey kt (.agg xs') E.toList).run P W = .ok r W := fun r hr => by
              rw [run_findKey_eq W (k := kt) hw]; exact hr
            split at h
            · rename_i i v0 hf
              split at h
              · rename_i hkey
                cases h
                rcases afind_sound (φ := φ) es E.toList 0 _ hf (by simpa using hl.1) (fun j k v hj => by obtain ⟨e, e1, e2⟩ := hE j k v hj; exact ⟨e, by simpa using e1, e2⟩) W with ⟨e, _⟩ | ⟨j, v2, e2, e, k1, k2, k3, k4⟩
                · cases e
                · simp only [Nat.zero_add, Option.some.injEq, Prod.mk.injEq] at e
                  obtain ⟨rfl, rfl⟩ := e
                  rw [Nat.zero_add] at k4
                  have k2' : E[i]? = some e2 := by simpa using k2
                  have hek : e2.key = .agg xs' := by
                    cases hesi : es[i]? with
                    | none => rw [hesi] at hkey; cases hkey
                    | some p =>
                      rw [hesi] at hkey
                      simp only [Option.map_some, Option.some.injEq] at hkey
                      obtain ⟨e3, q1, q2, q3⟩ := hE i p.1 p.2 (by rw [hesi])
                      rw [k2'] at q1; cases q1
                      rw [hkey] at q2
                      generalize e2.key = q at q2
                      cases q2 with
                      | agg s1 c1 => congr 1; exact VRA.scalar ⟨s1, c1⟩ hsc
                  obtain ⟨c1, c2⟩ := set_map hS hg hφ (E' := E.modify i fun e => { e with key := .agg xs' }) (cl' := cl) (es' := es) (hl.modify rfl fun e => rfl) (fun j k w hj => by
                    obtain ⟨e3, q1, q2, q3⟩ := hE j k w hj
                    by_cases hij : i = j
                    · subst hij
                      rw [k2'] at q1; cases q1
                      refine ⟨{ e2 with key := .agg xs' }, by rw [Array.getElem?_modify]; simp [k2'], ?_, q3⟩
                      rw [hek] at q2; exact q2
                    · exact ⟨e3, by rw [Array.getElem?_modify, if_neg hij]; exact q1, q2, q3⟩)
                  rw [set_same hg] at c1 c2
                  have hkts : (Instr.keyThatStays (.agg xs') (.agg xs')).run P W = .ok (.agg xs') W := by simp [Instr.keyThatStays, sameBits_scalar hsc]
                  have hbn := hl.2.2 i e2 k2'
                  refine ⟨.tuple #[e2.val, goInt (i : Int)], _, vr_pair k3 (.int _ _), c1, c2, ?_⟩
                  simp [Instr.mapEntry, run_underlying hu, MapKept.run_getObj_map hb, hck, hfk _ k4, k2', hek, hkts, hbn, MapKept.run_setObj_map _ hb, Result.andThen, setObjW]
              · cases h
            · rename_i hf
              simp only [Option.map_eq_some_iff] at h
              obtain ⟨z, hz0, e0⟩ := h
              cases e0
              obtain ⟨hz, hzr⟩ := zero1_spec (φ := φ) hz0
              rcases afind_sound (φ := φ) es E.toList 0 _ hf (by simpa using hl.1) (fun j k v hj => by obtain ⟨e, e1, e2⟩ := hE j k v hj; exact ⟨e, by simpa using e1, e2⟩) W with ⟨_, k4⟩ | ⟨j, v2, e2, e, k1, k2, k3, k4⟩
              · obtain ⟨c1, c2⟩ := set_map hS hg hφ (E' := E.push { key := .agg xs', val := z, born := cl }) (cl' := cl + 1) (es' := es ++ [(.agg xs', z)]) (hl.push (by rw [List.length_append]; rfl)) (fun j k w hj => by
                  have hls := hl.1
                  by_cases hjl : j < es.length
                  · rw [List.getElem?_append_left hjl] at hj
                    obtain ⟨e3, q1, q2, q3⟩ := hE j k w hj
                    exact ⟨e3, by rw [Array.getElem?_push, if_neg (by omega)]; exact q1, q2, q3⟩
                  · rw [List.getElem?_append_right (by omega)] at hj
                    have : j = es.length := by have := (List.getElem?_eq_some_iff.1 hj).1; simp at this; omega
                    subst this
                    simp only [Nat.sub_self, List.getElem?_cons_zero, Option.some.injEq, Prod.mk.injEq] at hj
                    obtain ⟨rfl, rfl⟩ := hj
                    exact ⟨_, by rw [Array.getElem?_push, if_pos (by omega)], VR.agg_scalar hsc, hz⟩)
                have hcl := hl.2.1
                refine ⟨.tuple #[z, goInt (cl : Int)], _, vr_pair hz (by rw [hcl]; exact .int _ _), c1, c2, ?_⟩
                simp [Instr.mapEntry, run_underlying hu, MapKept.run_getObj_map hb, hck, hfk _ k4, hzr, MapKept.run_setObj_map _ hb, Result.andThen, setObjW]
              · cases e
            · cases h
      · cases h
    · cases h
  · cases h
theorem aentst_sound {P : Program} {φ : Phi} {H H' : AH} {W : World} {t : TypeId} {x s v x' s' v' : Value} (hS : Sim φ H W) (h : aentst H x s v = some H') (hx : VR φ x x') (hs : VR φ s s') (hv : VR φ v v') :
    ∃ W', Sim φ H' W' ∧ Ev φ H W φ H' W' ∧ (Instr.entryStore t x' s' v').run P W = .ok () W' := by
  unfold aentst at h
  split at h
  · rename_i g n
    split at h
    · rename_i es hg
      split at h
      · rename_i k w hn
        split at h
        · rename_i h0
          cases h
          cases hx with
          | @map _ bi hφ =>
            cases hs with
            | int =>
              obtain ⟨E, cl, hb, hl, hE⟩ := hS.map g es bi hg hφ
              obtain ⟨e0, q1, q2, q3⟩ := hE _ _ _ hn
              obtain ⟨hlt, q1'⟩ := Array.getElem?_eq_some_iff.1 q1
              obtain ⟨c1, c2⟩ := set_map hS hg hφ (E' := E.modify n.toNat fun e => { e with val := v' }) (cl' := cl) (es' := es.set n.toNat (k, v)) (hl.modify (List.length_set ..) fun e => rfl) (fun j k2 w2 hj => by
                rw [List.getElem?_set] at hj
                split at hj
                · rename_i hij
                  subst hij
                  split at hj
                  · cases hj
                    exact ⟨{ e0 with val := v' }, by rw [Array.getElem?_modify]; simp [q1], q2, hv⟩
                  · cases hj
                · rename_i hij
                  obtain ⟨e3, r1, r2, r3⟩ := hE j k2 w2 hj
                  exact ⟨e3, by rw [Array.getElem?_modify, if_neg hij]; exact r1, r2, r3⟩)
              have hfi : E.findIdx? (fun e => (e.born : Int) == n) = some n.toNat := by
                rw [Array.findIdx?_eq_some_iff_getElem]
                refine ⟨hlt, ?_, fun j hj => ?_⟩
                · have := hl.2.2 n.toNat _ q1
                  rw [q1']
                  simp only [beq_iff_eq]
                  omega
                · have hjl : j < E.size := by omega
                  have := hl.2.2 j _ (Array.getElem?_eq_getElem hjl)
                  simp only [beq_iff_eq]
                  omega
              refine ⟨_, c1, c2, ?_⟩
              simp [Instr.entryStore, MapKept.run_getObj_map hb, asInt, asIntOf, hfi, MapKept.run_setObj_map _ hb, Result.andThen, setObjW]
        · cases h
      · cases h
    · cases h
  · cases h
def noBody (P : Program) (k : FuncId) : Bool :=
  match P.funcs[k]? with
  | some fn => fn.body.isNone
  | none => true
/-- A call of a function without a body answers so, and leaves the world as it is. -/
def AExt (P : Program) (k : FuncId) (args : Array Value) (H : AH) (R : Value → AH → Prop) : Prop :=
  ∀ (φ : Phi) (W : World) (args' : Array Value), Sim φ H W → VRA φ args args' → ∃ v v', VR φ v v' ∧ R v H ∧ (callFunc k args').run P W = .ok (.value v') W
theorem AExt.mono {P : Program} {k : FuncId} {args : Array Value} {H : AH} {R R' : Value → AH → Prop} (h : AExt P k args H R) (hr : ∀ v H', R v H' → R' v H') : AExt P k args H R' :=
  fun φ W args' hS hA => let ⟨v, v', h1, h2, h3⟩ := h φ W args' hS hA; ⟨v, v', h1, hr _ _ h2, h3⟩
/-- A call of the function that a range over a function hands to the iterator. -/
def AYield (P : Program) (l : Nat) (args : Array Value) (H : AH) (R : Value → AH → Prop) : Prop :=
  ∀ (φ : Phi) (W : World) (args' : Array Value), Sim φ H W → VRA φ args args' → ∃ fn tmps assign body, (Instr.yield l args').run P W = .ok (.round l fn tmps assign body) W ∧
    RoundIn Fence.wide 0 P l fn tmps assign body W (fun e W' => ∃ v v' H' φ', e = .returned v' ∧ VR φ' v v' ∧ R v H' ∧ Sim φ' H' W' ∧ Ev φ H W φ' H' W')
theorem AYield.mono {P : Program} {l : Nat} {args : Array Value} {H : AH} {R R' : Value → AH → Prop} (h : AYield P l args H R) (hr : ∀ v H', R v H' → R' v H') : AYield P l args H R' :=
  fun φ W args' hS hA => let ⟨fn, tmps, assign, body, h1, h2⟩ := h φ W args' hS hA
    ⟨fn, tmps, assign, body, h1, h2.mono fun e W' ⟨v, v', H', φ', k1, k2, k3, k4⟩ => ⟨v, v', H', φ', k1, k2, hr _ _ k3, k4⟩⟩
/-- What a heavy operation (a store, an append, a copy, a call) comes to. -/
def Qm (P : Program) (ρ : Operand → Value) (H : AH) (op : Op) (K : Value → AH → Prop) : Prop :=
  match op with
  | .store t a x => andK ((astore P H t (ρ a) (ρ x)).map fun H' => (undef, H')) K
  | .makeMap _ none => K (.map (some H.length)) (H ++ [.map []])
  | .lookup t m k false => andK ((alookup P H t (ρ m) (ρ k)).map fun v => (v, H)) K
  | .mapUpdate t m k x => andK ((amapup P H t (ρ m) (ρ k) (ρ x)).map fun H' => (undef, H')) K
  | .mapEntry t m k => andK (amapent P H t (ρ m) (ρ k)) K
  | .entryStore _ m s x => andK ((aentst H (ρ m) (ρ s) (ρ x)).map fun H' => (undef, H')) K
  | .convert s d x => match Qg P s d (ρ x) with
    | some v => K v H
    | none => andK (QH P H s d (ρ x)) K
  | .call c => match c.callee with
    | .builtin .append => match c.args.toList, c.argTypes.toList with
      | [s, x], [t, tx] => andK (aappend P H t tx (ρ s) (ρ x)) K
      | _, _ => False
    | .builtin .copy => match c.args.toList, c.argTypes.toList with
      | [s, x], [t, tx] => andK (acopy P H t tx (ρ s) (ρ x)) K
      | _, _ => False
    | .builtin .clear => match c.args.toList, c.argTypes.toList with
      | [x], [t] => andK ((aclear P H t (ρ x)).map fun H' => (undef, H')) K
      | _, _ => False
    | .value f => match ρ f with
      | .func (.func k) first captured => if noBody P k = true then AExt P k (first ++ c.args.map ρ ++ captured) H K else callable P k = true ∧ ACalls P k (first ++ c.args.map ρ ++ captured) H K
      | .func (.yield l) first _ => AYield P l (first ++ c.args.map ρ) H K
      | _ => False
    | _ => False
  | _ => False

theorem VRA.append {φ : Phi} {a a' b b' : Array Value} (h : VRA φ a a') (k : VRA φ b b') : VRA φ (a ++ b) (a' ++ b') := by
  refine ⟨by simp [h.1, k.1], fun i h1 h2 => ?_⟩
  rw [Array.getElem_append, Array.getElem_append]
  by_cases hi : i < a.size
  · rw [dif_pos hi, dif_pos (by rw [← h.1]; exact hi)]; exact h.2 i _ _
  · rw [dif_neg hi, dif_neg (by rw [← h.1]; exact hi)]
    have := k.2 (i - a.size) (by simp at h1; omega) (by have := h.1; simp at h1 h2; omega)
    simpa only [h.1] using this

/-- The fence of a frame of a function, or of a round. -/
def Fr (r : Option Nat) : Fence := { Fence.wide with round := r }
theorem wp_to_wpIn {P : Program} {o : Oper} {r : Option Nat} {a : Act} {W : World} {next : Act → World → Prop} {Q : Exit → Act → World → Prop} (hd : ∀ c, o.op ≠ .defer c) (h : o.wp P a W next Q) : o.wpIn (Fr r) 0 P a W next Q := by
  refine ⟨fun _ _ => trivial, ?_⟩
  rw [Oper.semAt_eq _ _ _ hd]
  unfold Oper.wp at h
  generalize (execOp a.eval o).run P W = res at h
  cases res with
  | ok x w' =>
    cases x <;> simp only [Oper.upon, Oper.uponIn] at h ⊢
    case value => exact h
    case skip => exact h
    case defer => exact h
    case enter => exact ⟨fun e => (by cases e), (callsIn_wide (n := 0 - 1)).2 (h.mono fun e w'' he => by cases e <;> exact he)⟩
    case row => exact ⟨fun e => (by cases e), fun c cs _ => by obtain ⟨v, w1, k1, k2⟩ := h c cs; exact ⟨v, w1, k1, stepsIn_wide.2 k2⟩⟩
    all_goals exact h
  | halt x w' => cases x <;> simp only [Oper.upon, Oper.uponIn] at h ⊢ <;> exact h
/-- The machine's word for a heavy operation. -/
theorem heavy_sound0 {P : Program} {φ : Phi} {ρ : Operand → Value} {H : AH} {W : World} {o : Oper} {a : Act} {K : Value → AH → Prop} {next : Act → World → Prop} {Q : Exit → Act → World → Prop} (hS : Sim φ H W)
    (hr : ∀ x ∈ o.op.operands, VR φ (ρ x) (a.eval x)) (h : Qm P ρ H o.op K) (hny : ∀ c f l x y, o.op = .call c → c.callee = .value f → ρ f ≠ .func (.yield l) x y)
    (hnext : ∀ v v' φ' H' W', VR φ' v v' → K v H' → Sim φ' H' W' → Ev φ H W φ' H' W' → next (a.put o.dst v') W') : o.wp P a W next Q := by
  obtain ⟨dst, op, ty, pos, after, guard⟩ := o
  cases op <;> simp only [Qm] at h
  case convert s d x =>
    unfold Oper.wp
    have hx := hr x (by simp [Op.operands])
    split at h
    · rename_i v hv
      obtain ⟨v', k1, k2⟩ := aconvInt_sound hv hx
      have : (execOp a.eval { dst := dst, op := .convert s d x, type := ty, pos := pos, after := after, guard := guard }).run P W = .ok (.value v') W := by simp [execOp, k2]
      rw [this]
      exact hnext v v' φ H W k1 h hS (Ev.refl _ _ _)
    · obtain ⟨v, H', h1, h2⟩ := andK_spec h
      obtain ⟨φ', W', k1, k2, k3, k4⟩ := amark_sound hS h1 hx
      have : (execOp a.eval { dst := dst, op := .convert s d x, type := ty, pos := pos, after := after, guard := guard }).run P W = .ok (.value (a.eval x)) W' := by simp [execOp, k4]
      rw [this]
      exact hnext _ _ φ' H' W' k1 h2 k2 k3
  case makeMap t r =>
    cases r with
    | some _ => exact h.elim
    | none =>
    have hn := hS.fresh_none (Nat.le_refl H.length)
    have hP := hS.push (.map [])
    unfold Oper.wp
    have : (execOp a.eval { dst := dst, op := .makeMap t none, type := ty, pos := pos, after := after, guard := guard }).run P W = .ok (.value (.map (some W.heap.size))) (W.alloc (.map #[] 0)) := by
      simp [execOp, Instr.makeMap, Result.andThen]
    rw [this]
    exact hnext _ _ _ _ _ (.map Phi.upd_self) h (hP.newmap get_push_eq hn) (Ev.concretize hn rfl _ (Nat.le_refl _) (fun x hx => get_push_lt hx) (by simp) rfl)
  case lookup t m k ok =>
    cases ok with
    | true => exact h.elim
    | false =>
    obtain ⟨v, H', h1, h2⟩ := andK_spec h
    simp only [Option.map_eq_some_iff] at h1
    obtain ⟨v0, h1, e⟩ := h1
    cases e
    obtain ⟨v', k1, k2⟩ := alookup_sound hS h1 (hr m (by simp [Op.operands])) (hr k (by simp [Op.operands]))
    unfold Oper.wp
    have : (execOp a.eval { dst := dst, op := .lookup t m k false, type := ty, pos := pos, after := after, guard := guard }).run P W = .ok (.value v') W := by simp [execOp, k2]
    rw [this]
    exact hnext _ _ φ H W k1 h2 hS (Ev.refl _ _ _)
  case mapUpdate t m k x =>
    obtain ⟨v, H', h1, h2⟩ := andK_spec h
    simp only [Option.map_eq_some_iff] at h1
    obtain ⟨H'', h1, e⟩ := h1
    cases e
    obtain ⟨W', k1, k2, k3⟩ := amapup_sound hS h1 (hr m (by simp [Op.operands])) (hr k (by simp [Op.operands])) (hr x (by simp [Op.operands]))
    unfold Oper.wp
    have : (execOp a.eval { dst := dst, op := .mapUpdate t m k x, type := ty, pos := pos, after := after, guard := guard }).run P W = .ok .skip W' := by simp [execOp, k3]
    rw [this]
    exact hnext undef undef φ H' W' (.any _) h2 k1 k2
  case mapEntry t m k =>
    obtain ⟨v, H', h1, h2⟩ := andK_spec h
    obtain ⟨v', W', k0, k1, k2, k3⟩ := amapent_sound hS h1 (hr m (by simp [Op.operands])) (hr k (by simp [Op.operands]))
    unfold Oper.wp
    have : (execOp a.eval { dst := dst, op := .mapEntry t m k, type := ty, pos := pos, after := after, guard := guard }).run P W = .ok (.value v') W' := by simp [execOp, k3]
    rw [this]
    exact hnext _ _ φ H' W' k0 h2 k1 k2
  case entryStore t m s x =>
    obtain ⟨v, H', h1, h2⟩ := andK_spec h
    simp only [Option.map_eq_some_iff] at h1
    obtain ⟨H'', h1, e⟩ := h1
    cases e
    obtain ⟨W', k1, k2, k3⟩ := aentst_sound (P := P) (t := t) hS h1 (hr m (by simp [Op.operands])) (hr s (by simp [Op.operands])) (hr x (by simp [Op.operands]))
    unfold Oper.wp
    have : (execOp a.eval { dst := dst, op := .entryStore t m s x, type := ty, pos := pos, after := after, guard := guard }).run P W = .ok .skip W' := by simp [execOp, k3]
    rw [this]
    exact hnext undef undef φ H' W' (.any _) h2 k1 k2
  case store t x y =>
    obtain ⟨v, H', h1, h2⟩ := andK_spec h
    simp only [Option.map_eq_some_iff] at h1
    obtain ⟨H'', h1, e⟩ := h1
    cases e
    obtain ⟨W', k1, k2, k3⟩ := astore_sound hS h1 (hr x (by simp [Op.operands])) (hr y (by simp [Op.operands]))
    unfold Oper.wp
    have : (execOp a.eval { dst := dst, op := .store t x y, type := ty, pos := pos, after := after, guard := guard }).run P W = .ok .skip W' := by simp [execOp, k3]
    rw [this]
    exact hnext undef undef φ H' W' (.any _) h2 k1 k2
  case call c =>
    obtain ⟨callee, args, argTypes⟩ := c
    simp only at h
    split at h
    · split at h
      · rename_i s x t tx hx ht
        have hxa : args = #[s, x] := by apply Array.toList_inj.1; simpa using hx
        have hta : argTypes = #[t, tx] := by apply Array.toList_inj.1; simpa using ht
        subst hxa; subst hta
        obtain ⟨v, H', h1, h2⟩ := andK_spec h
        obtain ⟨φ', W', v', k1, k2, k3, k4⟩ := aappend_sound (ty := ty) hS h1 (hr s (by simp [Op.operands, Call.operands])) (hr x (by simp [Op.operands, Call.operands]))
        unfold Oper.wp
        have : (execOp a.eval { dst := dst, op := .call { callee := .builtin .append, args := #[s, x], argTypes := #[t, tx] }, type := ty, pos := pos, after := after, guard := guard }).run P W = .ok (.value v') W' := by
          simp [execOp, resolve, invoke, builtin, k4]
        rw [this]
        exact hnext v v' φ' H' W' k3 h2 k1 k2
      · exact h.elim
    · split at h
      · rename_i s x t tx hx ht
        have hxa : args = #[s, x] := by apply Array.toList_inj.1; simpa using hx
        have hta : argTypes = #[t, tx] := by apply Array.toList_inj.1; simpa using ht
        subst hxa; subst hta
        obtain ⟨v, H', h1, h2⟩ := andK_spec h
        obtain ⟨W', v', k1, k2, k3, k4⟩ := acopy_sound (ty := ty) hS h1 (hr s (by simp [Op.operands, Call.operands])) (hr x (by simp [Op.operands, Call.operands]))
        unfold Oper.wp
        have : (execOp a.eval { dst := dst, op := .call { callee := .builtin .copy, args := #[s, x], argTypes := #[t, tx] }, type := ty, pos := pos, after := after, guard := guard }).run P W = .ok (.value v') W' := by
          simp [execOp, resolve, invoke, builtin, k4]
        rw [this]
        exact hnext v v' φ H' W' k3 h2 k1 k2
      · exact h.elim
    · split at h
      · rename_i x t hx ht
        have hxa : args = #[x] := by apply Array.toList_inj.1; simpa using hx
        have hta : argTypes = #[t] := by apply Array.toList_inj.1; simpa using ht
        subst hxa; subst hta
        obtain ⟨v, H', h1, h2⟩ := andK_spec h
        simp only [Option.map_eq_some_iff] at h1
        obtain ⟨H'', h1, e⟩ := h1
        cases e
        obtain ⟨W', k1, k2, k3⟩ := aclear_sound (ty := ty) hS h1 (hr x (by simp [Op.operands, Call.operands]))
        unfold Oper.wp
        have : (execOp a.eval { dst := dst, op := .call { callee := .builtin .clear, args := #[x], argTypes := #[t] }, type := ty, pos := pos, after := after, guard := guard }).run P W = .ok (.value (.tuple #[])) W' := by
          simp [execOp, resolve, invoke, builtin, k3]
        rw [this]
        exact hnext undef _ φ H' W' (.any _) h2 k1 k2
      · exact h.elim
    · rename_i f
      have hf := hr f (by simp [Op.operands, Call.operands])
      split at h
      · rename_i k first captured hk
        rw [hk] at hf
        generalize hq : a.eval f = q at hf
        cases hf with
        | func _ s1 s2 c1 c2 =>
          rename_i first' captured'
          have hargs : VRA φ (args.map ρ) (args.map a.eval) := VRA.map fun x hx => hr x (by simp [Op.operands, Call.operands, hx])
          have hall : VRA φ (first ++ args.map ρ ++ captured) (first' ++ args.map a.eval ++ captured') := (VRA.append ⟨s1, c1⟩ hargs).append ⟨s2, c2⟩
          split at h
          · obtain ⟨v, v', h1, h2, h3⟩ := h φ W _ hS hall
            unfold Oper.wp
            have : (execOp a.eval { dst := dst, op := .call { callee := .value f, args := args, argTypes := argTypes }, type := ty, pos := pos, after := after, guard := guard }).run P W = .ok (.value v') W := by
              rw [Array.append_assoc] at h3
              simp [execOp, resolve, hq, Deferred.ofValue, invoke, h3]
            rw [this]
            exact hnext v v' φ H W h1 h2 hS (Ev.refl _ _ _)
          obtain ⟨hc, hcall⟩ := h
          unfold callable at hc
          split at hc
          · rename_i fn hfn
            simp only [Bool.and_eq_true, bne_iff_ne, ne_eq] at hc
            have hb : fn.body.isNone = false := by cases hbb : fn.body <;> simp_all
            unfold Oper.wp
            have : (execOp a.eval { dst := dst, op := .call { callee := .value f, args := args, argTypes := argTypes }, type := ty, pos := pos, after := after, guard := guard }).run P W = .ok (.enter k (first' ++ args.map a.eval ++ captured')) W := by
              simp [execOp, resolve, hq, Deferred.ofValue, invoke, callFunc, program, Sem.run, hfn, hc.1]
              intro hn; simp [hn] at hb
            rw [this]
            refine (hcall φ W _ hS hall).mono ?_
            rintro e W' ⟨v, v', H', φ', rfl, h2, h3, h4, h5⟩
            exact hnext v v' φ' H' W' h2 h3 h4 h5
          · cases hc
      · rename_i l first captured hk
        exact absurd hk (hny _ f l first captured rfl rfl)
      · exact h.elim
    · exact h.elim
end Go.Proofs.YtldfnfpinemedaaDoor

namespace Go.Proofs.YtldfnfpinemedaaDoor
open Go
set_option linter.unusedSimpArgs false
set_option linter.unusedVariables false

theorem heavy_sound {P : Program} {φ : Phi} {ρ : Operand → Value} {H : AH} {W : World} {o : Oper} {a : Act} {K : Value → AH → Prop} {r : Option Nat} {next : Act → World → Prop} {Q : Exit → Act → World → Prop} (hS : Sim φ H W)
    (hr : ∀ x ∈ o.op.operands, VR φ (ρ x) (a.eval x)) (h : Qm P ρ H o.op K)
    (hnext : ∀ v v' φ' H' W', VR φ' v v' → K v H' → Sim φ' H' W' → Ev φ H W φ' H' W' → next (a.put o.dst v') W') : o.wpIn (Fr r) 0 P a W next Q := by
  by_cases hy : ∃ c f l x y, o.op = .call c ∧ c.callee = .value f ∧ ρ f = .func (.yield l) x y
  · obtain ⟨dst, op, ty, pos, after, guard⟩ := o
    obtain ⟨⟨callee, args, argTypes⟩, f, l, first, captured, rfl, hcal, hρ⟩ := hy
    simp only at hcal
    subst hcal
    have hf := hr f (by simp [Op.operands, Call.operands])
    rw [hρ] at hf
    simp only [Qm, hρ] at h
    generalize hq : a.eval f = q at hf
    cases hf with
    | func _ s1 s2 c1 c2 =>
      rename_i first' captured'
      have hargs : VRA φ (args.map ρ) (args.map a.eval) := VRA.map fun x hx => hr x (by simp [Op.operands, Call.operands, hx])
      have hall : VRA φ (first ++ args.map ρ) (first' ++ args.map a.eval) := VRA.append ⟨s1, c1⟩ hargs
      obtain ⟨fn, tmps, assign, body, h1, h2⟩ := h φ W _ hS hall
      refine ⟨fun _ _ => trivial, ?_⟩
      rw [Oper.semAt_eq _ _ _ (fun c e => by cases e)]
      have : (execOp a.eval { dst := dst, op := .call { callee := .value f, args := args, argTypes := argTypes }, type := ty, pos := pos, after := after, guard := guard }).run P W = .ok (.round l fn tmps assign body) W := by
        simp [execOp, resolve, hq, Deferred.ofValue, invoke, h1]
      rw [this, Oper.uponIn_round]
      refine ⟨fun e => (by cases e), RoundIn.mono h2 ?_⟩
      rintro e W' ⟨v, v', H', φ', rfl, k2, k3, k4, k5⟩
      exact hnext v v' φ' H' W' k2 k3 k4 k5
  · exact wp_to_wpIn (fun c e => by rw [e] at h; exact h) (heavy_sound0 hS hr h (fun c f l x y e1 e2 e3 => hy ⟨c, f, l, x, y, e1, e2, e3⟩) hnext)
theorem light_nodefer {op : Op} (h : Qi op = true) : ∀ c, op ≠ .defer c := fun c e => by rw [e] at h; cases h
abbrev APost := Exit → ATmps → AH → Prop
/-- A post over abstract memory, as one over the machine's. -/
def Lift (n : Nat) (ds : List Deferred) (φ : Phi) (H : AH) (W : World) (Q : APost) : Exit → Act → World → Prop := fun e a' W' =>
  ∃ φ' t' H', Q e t' H' ∧ Sim φ' H' W' ∧ TR n ds φ' t' a' ∧ Ev φ H W φ' H' W'
def AWp (P : Program) (n : Nat) (c : Code) (Q : APost) (t : ATmps) (H : AH) : Prop :=
  ∀ (r : Option Nat) (ds : List Deferred) (φ : Phi) (W : World) (a : Act), Sim φ H W → TR n ds φ t a → c.wpIn (Fr r) 0 P (Lift n ds φ H W Q) a W
theorem Lift.mono {n : Nat} {ds : List Deferred} {φ : Phi} {H : AH} {W : World} {Q Q' : APost} (h : ∀ e t H, Q e t H → Q' e t H) {e : Exit} {a : Act} {W' : World} (k : Lift n ds φ H W Q e a W') : Lift n ds φ H W Q' e a W' :=
  let ⟨φ', t', H', k1, k2⟩ := k; ⟨φ', t', H', h _ _ _ k1, k2⟩
theorem Lift.trans {n : Nat} {ds : List Deferred} {φ φ1 : Phi} {H H1 : AH} {W W1 : World} {Q : APost} (hE : Ev φ H W φ1 H1 W1) {e : Exit} {a : Act} {W' : World} (k : Lift n ds φ1 H1 W1 Q e a W') : Lift n ds φ H W Q e a W' :=
  let ⟨φ', t', H', k1, k2, k3, k4⟩ := k; ⟨φ', t', H', k1, k2, k3, hE.trans k4⟩
theorem AWp.mono {P : Program} {n : Nat} {c : Code} {Q Q' : APost} {t : ATmps} {H : AH} (h : AWp P n c Q t H) (hq : ∀ e t H, Q e t H → Q' e t H) : AWp P n c Q' t H :=
  fun r ds φ W a hS hT => wpIn_mono (h r ds φ W a hS hT) fun _ _ _ k => k.mono hq

/-- Slots whose value is let go. -/
def Forgets (t0 t : ATmps) : Prop := ∀ i, look t0 i = undef ∨ look t0 i = look t i
theorem Forgets.nil {t : ATmps} : Forgets [] t := fun _ => .inl rfl
theorem Forgets.cons {t0 t : ATmps} {i : Nat} {v : Value} (h : look t i = v) (k : Forgets t0 t) : Forgets ((i, v) :: t0) t := by
  intro x
  simp only [look]
  split
  · rename_i e; subst e; exact .inr h.symm
  · exact k x
theorem TR.forget {n : Nat} {ds : List Deferred} {φ : Phi} {t0 t : ATmps} {a : Act} (h : TR n ds φ t a) (hf : Forgets t0 t) : TR n ds φ t0 a :=
  ⟨h.defers, h.size, fun i => by
    rcases hf i with e | e
    · rw [e]; exact .any _
    · rw [e]; exact h.rel i⟩
theorem AWp.forget {P : Program} {n : Nat} {c : Code} {Q : APost} {t0 t : ATmps} {H : AH} (h : AWp P n c Q t0 H) (hf : Forgets t0 t) : AWp P n c Q t H :=
  fun r ds φ W a hS hT => h r ds φ W a hS (hT.forget hf)

theorem awp_skip {P : Program} {n : Nat} {Q : APost} {t : ATmps} {H : AH} (h : Q .normal t H) : AWp P n .skip Q t H :=
  fun r ds φ W a hS hT => wpIn_skip ⟨φ, t, H, h, hS, hT, Ev.refl _ _ _⟩
theorem awp_exit {P : Program} {n : Nat} {Q : APost} {t : ATmps} {H : AH} {id : Nat} (h : Q (.exit id) t H) : AWp P n (.exit id) Q t H :=
  fun r ds φ W a hS hT => wpIn_exit ⟨φ, t, H, h, hS, hT, Ev.refl _ _ _⟩
theorem awp_ret {P : Program} {n : Nat} {Q : APost} {t : ATmps} {H : AH} (h : Q .ret t H) : AWp P n .ret Q t H :=
  fun r ds φ W a hS hT => wpIn_ret ⟨φ, t, H, h, hS, hT, Ev.refl _ _ _⟩
def QB (K : ATmps → AH → Prop) (Q : APost) : APost
  | .normal, t, H => K t H
  | e, t, H => Q e t H
def Qf (id : Nat) (Q : APost) : APost
  | .exit id', t, H => if id' = id then Q .normal t H else Q (.exit id') t H
  | e, t, H => Q e t H
theorem Qo {P : Program} {n : Nat} {x y : Code} {Q : APost} {t : ATmps} {H : AH} (h : AWp P n x (QB (AWp P n y Q) Q) t H) : AWp P n (.seq x y) Q t H := by
  intro r ds φ W a hS hT
  refine wpIn_seq (wpIn_mono (h r ds φ W a hS hT) fun e a' W' ⟨φ', t', H', k1, k2, k3, k4⟩ => ?_)
  cases e with
  | normal => exact wpIn_mono (k1 r ds φ' W' a' k2 k3) fun _ _ _ k => k.trans k4
  | _ => exact ⟨φ', t', H', k1, k2, k3, k4⟩
theorem Qn {P : Program} {n : Nat} {c : Code} {Q : APost} {t : ATmps} {H : AH} {id : Nat} (h : AWp P n c (Qf id Q) t H) : AWp P n (.block id c) Q t H := by
  intro r ds φ W a hS hT
  refine wpIn_block (wpIn_mono (h r ds φ W a hS hT) fun e a' W' ⟨φ', t', H', k1, k2, k3, k4⟩ => ?_)
  cases e with
  | exit id' =>
    simp only [Exit.inBlock]
    simp only [Qf] at k1
    split
    · rename_i he; rw [if_pos he] at k1; exact ⟨φ', t', H', k1, k2, k3, k4⟩
    · rename_i he; rw [if_neg he] at k1; exact ⟨φ', t', H', k1, k2, k3, k4⟩
  | _ => exact ⟨φ', t', H', k1, k2, k3, k4⟩
theorem awp_cond {P : Program} {n : Nat} {c : Operand} {x y : Code} {Q : APost} {t : ATmps} {H : AH} {b : Bool} (hx : operandOk c = true) (hc : aeval t c = .bool b) (h : AWp P n (if b then x else y) Q t H) : AWp P n (.cond c x y) Q t H := by
  intro r ds φ W a hS hT
  have he := hT.eval hx
  rw [hc] at he
  have he' : a.eval c = .bool b := he.scalar rfl
  exact wpIn_cond he' (h r ds φ W a hS hT)

/-- A loop: each round leads to a state that is told again, the measure lower. -/
theorem awp_loop {P : Program} {n : Nat} {c : Code} {Q : APost} {ι : Type} (T : ι → ATmps) (G : ι → AH) (I : ι → Prop) (μ : ι → Nat) (i0 : ι) (h0 : I i0)
    (round : ∀ i, I i → AWp P n c (QB (fun t' H' => ∃ j, I j ∧ Forgets (T j) t' ∧ G j = H' ∧ μ j < μ i) Q) (T i) (G i)) : AWp P n (.loop c) Q (T i0) (G i0) := by
  intro r ds φ W a hS hT
  intro b k cs hro hb hr
  have key : ∀ (m : Nat) (i : ι), μ i = m → I i → ∀ (φ' : Phi) (W' : World) (a' : Act), Sim φ' (G i) W' → TR n ds φ' (T i) a' → Ev φ (G i0) W φ' (G i) W' →
      ∃ e a2 w2, Lift n ds φ (G i0) W Q e a2 w2 ∧ ArrivesIn (Machine.fenced P (Fr r)) P (lone (b.atR a' (.code c :: .inLoop c :: k)) cs W') b k cs e a2 w2 := by
    intro m
    induction m using Nat.strongRecOn with
    | _ m ih =>
      intro i hn hI φ' W' a' hS' hT' hE
      obtain ⟨e, a1, w1, hq, harr⟩ := round i hI r ds φ' W' a' hS' hT' b (.inLoop c :: k) cs hro hb hr
      obtain ⟨φ1, t1, H1, k1, k2, k3, k4⟩ := hq
      cases e with
      | normal =>
        obtain ⟨j, hj, hf, rfl, hlt⟩ := k1
        have hT1 : TR n ds φ1 (T j) a1 := k3.forget hf
        obtain ⟨e2, a2, w2, hq2, harr2⟩ := ih (μ j) (hn ▸ hlt) j rfl hj φ1 w1 a1 k2 hT1 (hE.trans k4)
        exact ⟨e2, a2, w2, hq2, .of_steps (StepsIn.trans harr (.one (fenced_calm hb hr rfl) stepR_inLoop)) harr2⟩
      | exit id => exact ⟨_, a1, w1, ⟨φ1, t1, H1, k1, k2, k3, hE.trans k4⟩, .pass (x := .inLoop c) rfl (fun _ _ => .inl (by simp)) harr⟩
      | goto l => exact ⟨_, a1, w1, ⟨φ1, t1, H1, k1, k2, k3, hE.trans k4⟩, .pass (x := .inLoop c) rfl (fun _ _ => .inl (by simp)) harr⟩
      | ret => exact ⟨_, a1, w1, ⟨φ1, t1, H1, k1, k2, k3, hE.trans k4⟩, .pass (x := .inLoop c) rfl (fun _ _ => .inl (by simp)) harr⟩
      | panic ch => exact ⟨_, a1, w1, ⟨φ1, t1, H1, k1, k2, k3, hE.trans k4⟩, .pass (x := .inLoop c) rfl (fun _ _ => .inl (by simp)) harr⟩
      | outgrown => exact ⟨_, a1, w1, ⟨φ1, t1, H1, k1, k2, k3, hE.trans k4⟩, .pass (x := .inLoop c) rfl (fun _ _ => .inl (by simp)) harr⟩
  obtain ⟨e, a', w', hq, harr⟩ := key _ i0 rfl h0 φ W a hS hT (Ev.refl _ _ _)
  exact ⟨e, a', w', hq, .of_steps (.one (fenced_calm hb hr rfl) stepR_loop) harr⟩

/-! ### regions -/
def Qj (ops : Array Oper) (t : ATmps) (o : Oper) : Option Bool :=
  match o.guard with
  | none => some true
  | some (j, want) => match (ops[j]?).bind (·.dst) with
    | some d => match look t d with
      | .bool b => some (b == want)
      | .tuple a => if a.size = 1 then some false else none
      | _ => none
    | none => some false
theorem aWanted_sound {n : Nat} {φ : Phi} {ops : Array Oper} {t : ATmps} {a : Act} {o : Oper} {b : Bool} (hT : ∀ d, (∃ j want, o.guard = some (j, want) ∧ (ops[j]?).bind (·.dst) = some d) → VR φ (look t d) (a.tmps.getD d undef)) (h : Qj ops t o = some b) : Region.wanted o (yielded ops a.tmps) = b := by
  unfold Qj at h
  unfold Region.wanted
  split at h
  · rename_i hg; cases h; rw [hg]
  · rename_i j want hg
    rw [hg]
    simp only [yielded]
    split at h
    · rename_i d hd
      rw [hd]
      simp only [Option.bind_some]
      have hv := hT d ⟨j, want, hg, hd⟩
      simp only [Array.getD_eq_getD_getElem?] at hv
      split at h
      · rename_i b' hb
        cases h
        rw [hb] at hv
        have hq := hv.scalar rfl
        cases hx : a.tmps[d]? with
        | none => rw [hx] at hq; simp [undef] at hq
        | some u =>
          rw [hx] at hq
          simp only [Option.getD_some] at hq
          subst hq
          cases b' <;> cases want <;> rfl
      · rename_i arr hb
        split at h
        · rename_i hs
          cases h
          rw [hb] at hv
          cases hx : a.tmps[d]? with
          | none => rfl
          | some u =>
            rw [hx] at hv
            simp only [Option.getD_some] at hv
            cases hv with
            | any => simp at hs
            | skip => rfl
            | tuple => rfl
        · cases h
      · cases h
    · rename_i hd
      cases h
      rw [hd]; rfl

/-- A region's operations in the text's order. -/
noncomputable def aOps (P : Program) (ops : Array Oper) : List Oper → (ATmps → AH → Prop) → ATmps → AH → Prop
  | [], K, t, H => K t H
  | o :: rest, K, t, H => match Qj ops t o with
    | some true => if Qi o.op = true then andK (Qq P (aeval t) H o.op) (fun v H' => aOps P ops rest K (aput t o.dst v) H')
      else Qm P (aeval t) H o.op (fun v H' => aOps P ops rest K (aput t o.dst v) H')
    | some false => aOps P ops rest K (aput t o.dst Qk) H
    | none => False
def opsOk (n : Nat) (ops : Array Oper) : Bool := ops.all fun o => o.op.operands.all operandOk && dstOk n o.dst

theorem aOps_sound {P : Program} {n : Nat} {r : Option Nat} {ds : List Deferred} {ops : Array Oper} {Q : APost} {φ0 : Phi} {H0 : AH} {W0 : World} : ∀ (l : List Oper) (t : ATmps) (H : AH) (φ : Phi) (W : World) (a : Act), (∀ o ∈ l, (o.op.operands.all operandOk && dstOk n o.dst) = true) → aOps P ops l (Q .normal) t H → Sim φ H W → TR n ds φ t a → Ev φ0 H0 W0 φ H W →
    wpListIn (Fr r) 0 P ops (Lift n ds φ0 H0 W0 Q) l a W
  | [], t, H, φ, W, a, _, h, hS, hT, hE => ⟨φ, t, H, h, hS, hT, hE⟩
  | o :: rest, t, H, φ, W, a, hk, h, hS, hT, hE => by
    have hk' : ∀ x ∈ rest, (x.op.operands.all operandOk && dstOk n x.dst) = true := fun x hx => hk x (by simp [hx])
    obtain ⟨hk1, hk2⟩ := Bool.and_eq_true_iff.1 (hk o (by simp))
    have hr : ∀ x ∈ o.op.operands, VR φ (aeval t x) (a.eval x) := fun x hx => hT.eval (Array.all_eq_true_iff_forall_mem.1 hk1 x hx)
    refine wpListIn_step fun K hK => ?_
    simp only [aOps] at h
    split at h
    · rename_i hw
      rw [aWanted_sound (n := n) (fun d _ => hT.rel d) hw]
      simp only [if_true]
      split at h
      · rename_i hli
        obtain ⟨v, H', h1, h2⟩ := andK_spec h
        obtain ⟨φ', W', v', k1, k2, k3, k4⟩ := light_sound hS h1 hr
        refine wp_to_wpIn (light_nodefer hli) ?_
        unfold Oper.wp
        rw [k1]
        exact hK _ _ (aOps_sound rest _ H' φ' W' _ hk' h2 k3 ((hT.mono (k4.mono hS)).put hk2 k2) (hE.trans k4))
      · exact heavy_sound hS hr h fun v v' φ' H' W' k1 k2 k3 k4 => hK _ _ (aOps_sound rest _ H' φ' W' _ hk' k2 k3 ((hT.mono (k4.mono hS)).put hk2 k1) (hE.trans k4))
    · rename_i hw
      rw [aWanted_sound (n := n) (fun d _ => hT.rel d) hw]
      simp only [Bool.false_eq_true, if_false]
      exact ⟨fun _ _ => trivial, hK _ _ (aOps_sound rest _ H φ W _ hk' h hS (hT.put hk2 .skip) hE)⟩
    · exact h.elim

theorem Qp {P : Program} {n : Nat} {id : Nat} {l : List Oper} {Q : APost} {t : ATmps} {H : AH} (hk : opsOk n l.toArray = true) (h : aOps P l.toArray l (Q .normal) t H) : AWp P n (.region id l.toArray false) Q t H := by
  intro r ds φ W a hS hT
  refine wpIn_region_lit (aOps_sound l t H φ W a (fun o ho => ?_) h hS hT (Ev.refl _ _ _))
  exact Array.all_eq_true_iff_forall_mem.1 hk o (by simpa using ho)

/-! ### a function's body -/
noncomputable def aresult (P : Program) (H : AH) (t : ATmps) : ResultVar → Option Value
  | .tmp i => some (look t i)
  | .cell p ty => QF P H ty (look t p)
noncomputable def aresults (P : Program) (fn : Func) (t : ATmps) (H : AH) : Option Value :=
  match fn.results.toList with
  | [] => some (.tuple #[])
  | [r] => aresult P H t r
  | [r, s] => match aresult P H t r, aresult P H t s with
    | some a, some b => some (.tuple #[a, b])
    | _, _ => none
  | [r, s, u] => match aresult P H t r, aresult P H t s, aresult P H t u with
    | some a, some b, some c => some (.tuple #[a, b, c])
    | _, _, _ => none
  | _ => none
def resultSem (tmps : Array Value) : ResultVar → Sem Value
  | .tmp t => pure (tmps.getD t undef)
  | .cell a t => do loadVar t (← asAddr (tmps.getD a undef))
theorem aresult_sound {P : Program} {φ : Phi} {H : AH} {W : World} {t : ATmps} {t' : Array Value} {r : ResultVar} {v : Value} (hS : Sim φ H W) (hT : ∀ i, VR φ (look t i) (t'.getD i undef)) (h : aresult P H t r = some v) : ∃ v', VR φ v v' ∧ (resultSem t' r).run P W = .ok v' W := by
  cases r with
  | tmp i => cases h; exact ⟨_, hT i, rfl⟩
  | cell p ty =>
    obtain ⟨v', a, h1, h2, h3⟩ := aload_sound hS h (hT p)
    refine ⟨v', h2, ?_⟩
    have h1' : t'[p]?.getD undef = .pointer (some a) := by simpa using h1
    simp [resultSem, h1', asAddr, h3]
theorem aresults_sound {P : Program} {φ : Phi} {H : AH} {W : World} {fn : Func} {t : ATmps} {t' : Array Value} {v : Value} (hS : Sim φ H W) (hT : ∀ i, VR φ (look t i) (t'.getD i undef)) (h : aresults P fn t H = some v) : ∃ v', VR φ v v' ∧ (results fn t').run P W = .ok v' W := by
  have hres : results fn t' = (do
      let vs ← fn.results.mapM (resultSem t')
      pure (if h : vs.size = 1 then vs[0] else .tuple vs)) := by
    unfold results
    congr 1
  rw [hres]
  obtain ⟨l, hl⟩ : ∃ l, fn.results = List.toArray l := ⟨fn.results.toList, by simp⟩
  unfold aresults at h
  rw [hl] at h ⊢
  simp only [Array.mapM_eq_mapM_toList] at h ⊢
  split at h
  · cases h
    exact ⟨.tuple #[], .any _, by simp⟩
  · rename_i r
    obtain ⟨v', k1, k2⟩ := aresult_sound hS hT h
    exact ⟨v', k1, by simp [k2]⟩
  · rename_i r s
    split at h
    · rename_i x y hx hy
      cases h
      obtain ⟨x', k1, k2⟩ := aresult_sound hS hT hx
      obtain ⟨y', m1, m2⟩ := aresult_sound hS hT hy
      refine ⟨.tuple #[x', y'], .tuple rfl fun i h1 _ => ?_, by simp [k2, m2]⟩
      have : i = 0 ∨ i = 1 := by simp at h1; omega
      rcases this with rfl | rfl
      · exact k1
      · exact m1
    · cases h
  · rename_i r s u
    split at h
    · rename_i x y z hx hy hz
      cases h
      obtain ⟨x', k1, k2⟩ := aresult_sound hS hT hx
      obtain ⟨y', m1, m2⟩ := aresult_sound hS hT hy
      obtain ⟨z', n1, n2⟩ := aresult_sound hS hT hz
      refine ⟨.tuple #[x', y', z'], .tuple rfl fun i h1 _ => ?_, by simp [k2, m2, n2]⟩
      have : i = 0 ∨ i = 1 ∨ i = 2 := by simp at h1; omega
      rcases this with rfl | rfl | rfl
      · exact k1
      · exact m1
      · exact n1
    · cases h
  · cases h

/-- The post of a body. -/
def aBody (P : Program) (fn : Func) (R : Value → AH → Prop) : APost
  | .normal, t, H | .ret, t, H => ∃ v, aresults P fn t H = some v ∧ R v H
  | _, _, _ => False
/-- The arguments in their slots. -/
def argsT : Nat → List Value → ATmps
  | _, [] => []
  | k, v :: r => (k, v) :: argsT (k + 1) r
theorem look_argsT : ∀ (l : List Value) (k i : Nat), look (argsT k l) i = if k ≤ i then l.getD (i - k) undef else undef
  | [], k, i => by simp [argsT, look]
  | v :: r, k, i => by
    simp only [argsT, look, look_argsT r (k + 1) i]
    by_cases h : i = k
    · subst h; simp
    · rw [if_neg h]
      by_cases h2 : k + 1 ≤ i
      · rw [if_pos h2, if_pos (by omega), show i - k = (i - (k + 1)) + 1 by omega]; simp
      · rw [if_neg h2, if_neg (by omega)]
theorem acalls_of_body {P : Program} {f : FuncId} {fn : Func} {c : Code} {n : Nat} {args : Array Value} {H : AH} {R : Value → AH → Prop} (hf : P.funcs[f]? = some fn) (hb : fn.body = some c) (hn : fn.ntmps = n) (ha : args.size ≤ n)
    (h : AWp P n c (aBody P fn R) (argsT 0 args.toList) H) : ACalls P f args H R := by
  intro φ W args' hS hA
  refine calls_of_wp hf hb ?_
  have hs : args'.size ≤ n := by rw [← hA.1]; exact ha
  have hT : TR n [] φ (argsT 0 args.toList) { tmps := args' ++ Array.replicate (fn.ntmps - args'.size) undef, defers := [] } := by
    refine ⟨rfl, by simp [hn]; omega, fun i => ?_⟩
    rw [look_argsT, if_pos (Nat.zero_le _), Nat.sub_zero]
    simp only [Array.getD_eq_getD_getElem?, List.getD_eq_getElem?_getD, Array.getElem?_toList, Array.getElem?_append]
    by_cases hi : i < args'.size
    · have hi' : i < args.size := by rw [hA.1]; exact hi
      rw [if_pos hi, Array.getElem?_eq_getElem hi', Array.getElem?_eq_getElem hi]
      exact hA.2 i hi' hi
    · have hi' : ¬ i < args.size := by rw [hA.1]; exact hi
      rw [Array.getElem?_eq_none (by omega)]
      exact .any _
  refine wp_mono (wpIn_wide.1 (h none [] φ W _ hS hT)) ?_
  rintro e a' W' ⟨φ', t', H', k1, k2, k3, k4⟩
  have fin : (∃ v, aresults P fn t' H' = some v ∧ R v H') → a'.defers = [] ∧ ∃ v, (results fn a'.tmps).run P W' = .ok v W' ∧ ∃ v2 v' H' φ', Ending.returned v = .returned v' ∧ VR φ' v2 v' ∧ R v2 H' ∧ Sim φ' H' W' ∧ Ev φ H W φ' H' W' := by
    rintro ⟨v, hv, hR⟩
    obtain ⟨v', m1, m2⟩ := aresults_sound k2 k3.rel hv
    exact ⟨k3.defers, v', m2, v, v', H', φ', rfl, m1, hR, k2, k4⟩
  cases e with
  | normal => exact fin k1
  | ret => exact fin k1
  | _ => exact k1.elim
end Go.Proofs.YtldfnfpinemedaaDoor
