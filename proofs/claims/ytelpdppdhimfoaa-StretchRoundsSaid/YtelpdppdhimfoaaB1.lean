/- Words of the proofs: append and copy. -/
import Derived.Test.YtelpdppdhimfoaaA9
namespace Go.Proofs.Ytelpdppdhimfoaa
open Go
set_option linter.unusedSimpArgs false
set_option linter.unusedVariables false

/-- An element type's row of the table: the cells and the bytes of one element, where its zero holds no address. -/
def elemT (P : Program) (t : TypeId) : Option (Nat × Nat) :=
  match P.underlying t with
  | some (.slice e) => match P.info? e, zeroT P e with
    | some i, some z => if z.size = i.size then some (i.size, i.bytes) else none
    | _, _ => none
  | _ => none
theorem elemT_spec {P : Program} {t : TypeId} {s b : Nat} (h : elemT P t = some (s, b)) : ∃ e i z, P.underlying t = some (.slice e) ∧ P.info? e = some i ∧ i.zero = some z ∧ z.cells.size = s ∧ i.size = s ∧ i.bytes = b := by
  unfold elemT at h
  split at h
  · rename_i e hu
    split at h
    · rename_i i z hi hz
      split at h
      · rename_i hs
        cases h
        obtain ⟨i', zv, hi', hzz, rfl, _⟩ := zeroT_spec (φ := fun _ => none) hz
        rw [hi] at hi'; cases hi'
        exact ⟨e, i, zv, hu, hi, hzz, hs, rfl, rfl⟩
      · cases h
    · cases h
  · cases h

/-- What is put behind: cells of a slice or of a string, or as many zeros as a number tells. -/
def asrcZ (P : Program) (H : AH) (t tx : TypeId) (x : Value) (size bytes : Nat) : Option (List Value × Nat) :=
  match P.underlying tx with
  | some (.int _) => match x, P.underlying t with
    | .int .i64 n, some (.slice e) => match zeroT P e with
      | some z => if z.size = 1 ∧ 0 ≤ n ∧ n ≤ 9223372036854775807 ∧ n.toNat * bytes ≤ 281474976710656 then some (List.replicate n.toNat (z.getD 0 undef), n.toNat) else none
      | none => none
    | _, _ => none
  | _ => asrc P H tx x size
theorem asrcZ_slice {P : Program} {H : AH} {t tx : TypeId} {x : Value} {size bytes : Nat} (h : sliceT P tx = true) : asrcZ P H t tx x size bytes = asrc P H tx x size := by
  obtain ⟨e, hu⟩ := sliceT_spec h
  unfold asrcZ
  rw [hu]
def aappend (P : Program) (H : AH) (t tx : TypeId) (s x : Value) : Option (Value × AH) :=
  match elemT P t with
  | some (size, bytes) => match asrcZ P H t tx x size bytes with
    | some (news, m) => match s with
      | .slice none 0 0 => if m = 0 then some (.slice none 0 0, H)
        else if m * bytes ≤ 140737488355328 ∧ m ≤ 9223372036854775807 then some (.slice (some ⟨H.length, 0, none⟩) m size, H ++ [.own news]) else none
      | .slice (some ⟨g, o, none⟩) n e => if m = 0 then some (.slice (some ⟨g, o, none⟩) n e, H)
        else match H[g]? with
        | some (.own cs) => if e = size ∧ size ≠ 0 ∧ o + n * size ≤ cs.length ∧ (n + m) * bytes ≤ 140737488355328 ∧ n + m ≤ 9223372036854775807 then
            some (.slice (some ⟨H.length, 0, none⟩) (n + m) size, H.set g .dead ++ [.own ((cs.drop o).take (n * size) ++ news)]) else none
        | _ => none
      | _ => none
    | none => none
  | none => none

theorem run_append_nothing' {P : Program} {W : World} {t tx ty e : TypeId} {i : TypeInfo} (ht : P.underlying t = some (.slice e)) (hi : P.info? e = some i) {x : Value} (hs : Src P i.size tx x 0 [] W) (base : Option Addr) (n c : Nat) (hnc : n ≤ c) :
    (Builtin.append_ #[t, tx] ty #[.slice base n c, x]).run P W = .ok (.slice base n c) W := by
  have h1 := hs.len
  have h2 := hs.cells
  rcases hs.kind with ⟨e', hk⟩ | hk <;> cases base <;> simp [Builtin.append_, run_underlying ht, run_underlying hk, sizeOf, typeInfo, hi, h1, h2, hnc, storeCells]

theorem zeroCells_size (z : Array Value) (n : Nat) : (Builtin.zeroCells z n).size = n * z.size := by simp [Builtin.zeroCells]
theorem grownCap_ge (W : World) (need old : Nat) (e : TypeId) : need ≤ grownCap W need old e := by unfold grownCap Question.cut; simp

/-- A new row in the place of an elder one (or of none): what append comes to where there is no room. -/
theorem grow_sim {P : Program} {φ : Phi} {H H1 : AH} {W : World} (hS : Sim φ H W) (hS1 : Sim φ H1 W) (hE1 : Ev φ H W φ H1 W) {olds olds' : List Value} (ho : VRL φ olds olds') {zs : Array Value} {e : TypeId} :
    Sim (φ.upd H1.length ⟨W.heap.size, 0, (olds'.toArray ++ zs).size⟩) (H1 ++ [.own olds]) (W.drew.alloc (.cells (olds'.toArray ++ zs) e)) ∧
    Ev φ H W (φ.upd H1.length ⟨W.heap.size, 0, (olds'.toArray ++ zs).size⟩) (H1 ++ [.own olds]) (W.drew.alloc (.cells (olds'.toArray ++ zs) e)) := by
  have hn := hS1.fresh_none (Nat.le_refl H1.length)
  have hD : Sim φ H1 W.drew := hS1.heap rfl
  have hP := hD.push (.own olds)
  constructor
  · refine hP.concretize (g := H1.length) (cs := olds) (C := olds'.toArray ++ zs) (ty := e) (fr := (0, 0)) get_push_eq hn (nofr _) (by simp [ho.1]) fun i v hv => ?_
    obtain ⟨v', h1, h2⟩ := ho.get hv
    have hi : i < olds'.toArray.size := by simpa using (List.getElem?_eq_some_iff.1 h1).1
    exact ⟨v', by rw [Array.getElem?_append_left hi]; simpa using h1, h2⟩
  · refine hE1.trans ?_
    refine (Ev.heap (φ := φ) (H := H1) (W := W) (W' := W.drew) rfl rfl rfl rfl).trans ?_
    exact Ev.concretize hn rfl _ (Nat.le_refl _) (fun x hx => get_push_lt hx) (by simp) rfl

/-- How an append runs, whatever is put behind. -/
structure Sx (P : Program) (W : World) (t tx ty e : TypeId) (i : TypeInfo) (z : Value) (x : Value) (n : Nat) (news : List Value) : Prop where
  newsLen : news.length = n * i.size
  nothing : n = 0 → ∀ base sLen sCap, sLen ≤ sCap → (Builtin.append_ #[t, tx] ty #[.slice base sLen sCap, x]).run P W = .ok (.slice base sLen sCap) W
  room : ∀ b off sLen sCap, sLen + n ≤ sCap → (∀ j, j < news.length → (W.cell? ⟨b, off + sLen * i.size + j, none⟩).isSome = true) → (∀ j, j < news.length → W.frozen? ⟨b, off + sLen * i.size + j, none⟩ = false) →
    (Builtin.append_ #[t, tx] ty #[.slice (some ⟨b, off, none⟩) sLen sCap, x]).run P W = .ok (.slice (some ⟨b, off, none⟩) (sLen + n) sCap) (W.setCells b (off + sLen * i.size) news)
  grow : ∀ base sLen sCap (olds : List Value), (Builtin.firstCells i.size sLen (.slice base sLen sCap)).run P W.drew = .ok olds.toArray W.drew → sCap < sLen + n → ((sLen + n : Nat) : Int) ≤ 9223372036854775807 → Builtin.nextslicecap (sLen + n) sCap * i.bytes ≤ 281474976710656 →
    (Builtin.append_ #[t, tx] ty #[.slice base sLen sCap, x]).run P W = .ok (.slice (some ⟨W.heap.size, 0, none⟩) (sLen + n) (grownCap W (sLen + n) sCap e)) (W.drew.alloc (.cells ((olds ++ news).toArray ++ Builtin.zeroCells z.cells (grownCap W (sLen + n) sCap e - (sLen + n))) e))
theorem Sx.ofSrc {P : Program} {W : World} {t tx ty e : TypeId} {i : TypeInfo} {z : Value} {x : Value} {n : Nat} {news : List Value} (hu : P.underlying t = some (.slice e)) (hi : P.info? e = some i) (hz : i.zero = some z) (hs : Src P i.size tx x n news W) : Sx P W t tx ty e i z x n news where
  newsLen := hs.newsLen
  nothing := fun hn base sLen sCap hc => by
    subst hn
    have : news = [] := List.eq_nil_of_length_eq_zero (by have := hs.newsLen; omega)
    subst this
    exact run_append_nothing' hu hi hs base sLen sCap hc
  room := fun b off sLen sCap h1 h2 h3 => run_append_room_src (P := P) W t tx ty e i hu hi b off sLen sCap x n news hs h1 h2 h3
  grow := fun base sLen sCap olds h1 h2 h3 h4 => run_append_grow_src (P := P) W t tx ty e i z hu hi hz base sLen sCap olds h1 x n news hs h2 h3 h4
theorem arr1 {z : Array Value} (h : z.size = 1) : ∃ v, z = #[v] := by
  rcases z with ⟨l⟩
  match l, h with
  | [v], _ => exact ⟨v, rfl⟩
theorem zeroCells_one (v : Value) (n : Nat) : Builtin.zeroCells #[v] n = (List.replicate n v).toArray := by
  unfold Builtin.zeroCells
  apply Array.ext
  · simp
  · intro j h1 h2
    simp [Nat.mod_one]
theorem Sx.ofZeros {P : Program} {W : World} {t tx ty e : TypeId} {i : TypeInfo} {z : Value} {v : Value} {k : IntKind} {n : Nat} (hu : P.underlying t = some (.slice e)) (ht : P.underlying tx = some (.int k)) (hi : P.info? e = some i) (hz : i.zero = some z) (hzc : z.cells = #[v]) (h1 : i.size = 1) (hv : v.oneCell' = true)
    (h63 : (n : Int) ≤ 9223372036854775807) (h48 : n * i.bytes ≤ 281474976710656) : Sx P W t tx ty e i z (.int .i64 n) n (List.replicate n v) := by
  have hw : IntKind.i64.wrap (n : Int) = n := by rw [IntKind.wrap_i64]; omega
  have hneg : ¬ ((n : Int) < 0) := by omega
  have h48i : ¬ (281474976710656 < (n : Int) * (i.bytes : Int)) := by
    rw [← Int.natCast_mul]
    omega
  refine ⟨by rw [List.length_replicate, h1, Nat.mul_one], fun hn base sLen sCap hc => ?_, fun b off sLen sCap hroom hc hf => ?_, fun base sLen sCap olds hold hg h63 hfit => ?_⟩
  · subst hn
    cases base <;> simp [Builtin.append_, run_underlying hu, run_underlying ht, sizeOf, typeInfo, zeroValue, asInt, asIntOf, hi, hz, hzc, h1, hw, hneg, h48i, hc, storeCells, show IntKind.i64.wrap 0 = 0 from rfl]
  · have hst := run_storeCells_cells (P := P) b (off + sLen * i.size) (List.replicate n v) 0 W (by simpa using hc) (by simpa using hf) (fun u hu => by rw [List.eq_of_mem_replicate hu]; exact hv)
    simp only [Nat.add_zero] at hst
    rw [h1, Nat.mul_one] at hst
    by_cases hn : n = 0
    · subst hn
      have hroom' : sLen ≤ sCap := hroom
      simp only [List.replicate_zero] at hst ⊢
      simp [Builtin.append_, run_underlying hu, run_underlying ht, sizeOf, typeInfo, zeroValue, asInt, asIntOf, hi, hz, hzc, h1, hw, hneg, h48i, hroom', Addr.add_lit, hst, show IntKind.i64.wrap 0 = 0 from rfl]
    · simp [Builtin.append_, run_underlying hu, run_underlying ht, sizeOf, typeInfo, zeroValue, asInt, asIntOf, hi, hz, hzc, h1, hw, hneg, h48i, hroom, Addr.add_lit, hn, zeroCells_one, hst]
  · have hn : ¬ (sLen + n ≤ sCap) := by omega
    have h63' : ¬ (9223372036854775807 < ((sLen : Int) + (n : Int))) := by omega
    have h48' : ¬ (281474976710656 < Builtin.nextslicecap (sLen + n) sCap * i.bytes) := by omega
    have hold' := hold
    rw [h1] at hold'
    by_cases hn0 : n = 0
    · subst hn0
      have hn' : ¬ (sLen ≤ sCap) := hn
      have h63'' : ¬ (9223372036854775807 < (sLen : Int)) := by omega
      have h48'' : ¬ (281474976710656 < Builtin.nextslicecap sLen sCap * i.bytes) := h48'
      simp [hn', h63'', h48'', Builtin.append_, run_underlying hu, run_underlying ht, sizeOf, typeInfo, zeroValue, hi, hz, hzc, h1, hn, h63', h48', h48i, hw, hneg, asInt, asIntOf, Question.forced, hold', newRow, grownCap, show IntKind.i64.wrap 0 = 0 from rfl]
    · simp [Builtin.append_, run_underlying hu, run_underlying ht, sizeOf, typeInfo, zeroValue, hi, hz, hzc, h1, hn, hn0, h63', h48', h48i, hw, hneg, asInt, asIntOf, Question.forced, hold', newRow, grownCap, zeroCells_one]
      congr 2
      apply Array.ext'
      simp [List.replicate_append_replicate]
theorem aappend_sound {P : Program} {φ : Phi} {H H' : AH} {W : World} {t tx ty : TypeId} {s x s' x' v : Value} (hS : Sim φ H W) (h : aappend P H t tx s x = some (v, H')) (hs : VR φ s s') (hx : VR φ x x') :
    ∃ φ' W' v', Sim φ' H' W' ∧ Ev φ H W φ' H' W' ∧ VR φ' v v' ∧ (Builtin.append_ #[t, tx] ty #[s', x']).run P W = .ok v' W' := by
  unfold aappend at h
  split at h
  · rename_i size bytes hel
    obtain ⟨e, i, z, hu, hi, hz, hzs, rfl, rfl⟩ := elemT_spec hel
    split at h
    · rename_i news m hsrc
      obtain ⟨news', hv, hsr⟩ : ∃ news', VRL φ news news' ∧ Sx P W t tx ty e i z x' m news' := by
        unfold asrcZ at hsrc
        split at hsrc
        · rename_i k hk
          split at hsrc
          · rename_i n' e' hue
            split at hsrc
            · rename_i zc hzt
              split at hsrc
              · rename_i hc
                cases hsrc
                cases hx
                rw [hu] at hue; cases hue
                obtain ⟨i', z', hi', hz', hzc, hvr⟩ := zeroT_spec (φ := φ) hzt
                rw [hi] at hi'; cases hi'
                rw [hz] at hz'; cases hz'
                obtain ⟨c1, c2, c3, c4⟩ := hc
                obtain ⟨n, rfl⟩ := Int.eq_ofNat_of_zero_le c2
                obtain ⟨v, rfl⟩ := arr1 c1
                have hvv : VR φ v v := hvr.2 0 (by simp) (by simp)
                have hpl : plainv v = true := by
                  unfold zeroT at hzt
                  rw [hi] at hzt
                  simp only [Option.bind_some, hz] at hzt
                  split at hzt
                  · rename_i hp
                    rw [hzc] at hp
                    simpa using hp
                  · cases hzt
                have hone : v.oneCell' = true := by
                  unfold plainv at hpl
                  split at hpl <;> first | rfl | cases hpl
                refine ⟨List.replicate n v, ?_, Sx.ofZeros hu hk hi hz hzc (by rw [← hzs, hzc]; rfl) hone c3 c4⟩
                refine ⟨rfl, fun j a b ha hb => ?_⟩
                obtain rfl := (List.mem_replicate.1 (List.mem_of_getElem? ha)).2
                obtain rfl := (List.mem_replicate.1 (List.mem_of_getElem? hb)).2
                exact hvv
              · cases hsrc
            · cases hsrc
          · cases hsrc
        · obtain ⟨news', hv, hsr, _⟩ := asrc_sound hS hsrc hx
          exact ⟨news', hv, Sx.ofSrc hu hi hz hsr⟩
      have hnl : news'.length = m * i.size := hsr.newsLen
      split at h
      · -- onto nil
        cases hs
        split at h
        · rename_i hm
          subst hm
          cases h
          have : news' = [] := List.eq_nil_of_length_eq_zero (by omega)
          subst this
          exact ⟨φ, W, _, hS, Ev.refl _ _ _, .nilslice, hsr.nothing rfl none 0 0 (Nat.le_refl _)⟩
        · rename_i hm
          split at h
          · rename_i hb
            cases h
            have hrun := hsr.grow none 0 0 [] (by simp [Builtin.firstCells]) (by omega) (by omega) (growslice_fits (by omega) (by simpa using hb.1))
            simp only [Nat.zero_add, List.nil_append] at hrun
            obtain ⟨h1, h2⟩ := grow_sim (P := P) hS hS (Ev.refl _ _ _) hv (zs := Builtin.zeroCells z.cells (grownCap W m 0 e - m)) (e := e)
            refine ⟨_, _, _, h1, h2, ?_, hrun⟩
            have hcap := grownCap_ge W m 0 e
            have := VR.slice (φ := φ.upd H.length ⟨W.heap.size, 0, (news'.toArray ++ Builtin.zeroCells z.cells (grownCap W m 0 e - m)).size⟩) (g := H.length) (o := 0) (n := m) (e := i.size) (c' := grownCap W m 0 e) Phi.upd_self hcap (.inr (by
              simp only [Array.size_append, List.size_toArray, zeroCells_size, hzs, hnl]
              rw [← Nat.add_mul]
              simp only [Nat.zero_add]
              exact Nat.mul_le_mul_right _ (by omega)))
            simpa using this
          · cases h
      · -- onto a slice
        rename_i g o n ee
        split at h
        · rename_i hm
          subst hm
          cases h
          have : news' = [] := List.eq_nil_of_length_eq_zero (by omega)
          subst this
          cases hs with
          | empty a a' c' => exact ⟨φ, W, _, hS, Ev.refl _ _ _, .empty _ _ _, hsr.nothing rfl _ 0 c' (Nat.zero_le _)⟩
          | slice hφ hnc hr => exact ⟨φ, W, _, hS, Ev.refl _ _ _, .slice hφ hnc hr, hsr.nothing rfl _ _ _ hnc⟩
        · rename_i hm
          split at h
          · rename_i cs hg
            split at h
            · rename_i hc
              cases h
              obtain ⟨hee, hs0, hol, hb, h63⟩ := hc
              cases hs with
              | empty a a' c' => exact absurd hee.symm hs0
              | @slice _ _ _ _ c' bi hφ hnc hr =>
                subst hee
                have hlt := own_lt hg
                have hroom : bi.off + o + c' * i.size ≤ bi.room := by rcases hr with h0 | h0; exact absurd h0 hs0; exact h0
                obtain ⟨C, ty', fr, d1, d2, d3, d4, d5⟩ := hS.own g cs bi hg hφ
                obtain ⟨olds', ho1, ho2⟩ := hS.range (AH.cells_own hg) hφ o (n * i.size)
                have hol' : olds'.length = n * i.size := by rw [← ho1.1]; simp; omega
                have hK := hS.kill g hlt
                have hKE : Ev φ H W φ (H.set g .dead) W := Ev.update hg hφ rfl (fun _ _ => rfl) rfl rfl rfl
                have hlen : (H.set g ABlk.dead).length = H.length := by simp
                by_cases hroomy : n + m ≤ c'
                · -- there is room
                  have hle : (n + m) * i.size ≤ c' * i.size := Nat.mul_le_mul_right _ hroomy
                  rw [Nat.add_mul] at hle
                  have hcells : ∀ j, j < news'.length → bi.off + o + n * i.size + j < C.size := fun j hj => by rw [hnl] at hj; omega
                  have hrun := hsr.room bi.blk (bi.off + o) n c' hroomy
                    (fun j hj => by have := hcells j hj; simp [World.cell?, d1, this])
                    (fun j hj => by
                      have := frNo d3 _ (hcells j hj)
                      simp only [World.frozen?, d1]
                      rcases fr with ⟨lo, hi⟩
                      simp only at this ⊢
                      rw [Bool.eq_false_iff]
                      simp only [ne_eq, Bool.and_eq_true, decide_eq_true_eq]
                      exact this)
                  obtain ⟨C', e1, e2, e3, e4⟩ := setCells_heap bi.blk news' (bi.off + o + n * i.size) W C ty' fr d1 (by rw [hnl]; omega)
                  obtain ⟨m1, m2, m3, m4⟩ := setCells_meta bi.blk news' (bi.off + o + n * i.size) W
                  have hP := hK.push (.own ((cs.drop o).take (n * i.size) ++ news))
                  have hn := hS.fresh_none (Nat.le_refl H.length)
                  refine ⟨φ.upd H.length ⟨bi.blk, bi.off + o, bi.room⟩, _, _, ?_, ?_, ?_, hrun⟩
                  · refine hP.rebind (cs' := (cs.drop o).take (n * i.size) ++ news) (by rw [← hlen]; exact get_push_eq) hn (hS.dom g bi hφ).2 (fun y bi' hy hd => ?_) m4 (fun k hk => setCells_other _ _ _ _ _ hk) ⟨C', ty', fr, e1, by rw [e2, d2], by rw [e2]; exact d3, ?_, fun j v hv' => ?_⟩
                    · have hyl := (hS.dom y bi' hy).1
                      have hyg : y ≠ g := by
                        rintro rfl
                        apply hd
                        rw [get_push_lt (by simpa using hyl), List.getElem?_set_self hyl]
                      refine (hS.sep g y cs bi bi' hg hφ hyg hy fun e => hd ?_).symm
                      rw [get_push_lt (by simpa using hyl), List.getElem?_set_ne (fun he => hyg he.symm)]
                      exact e
                    · rw [e2, d2, List.length_append, hv.1, hnl, ho1.1, hol']; omega
                    · rcases Nat.lt_or_ge j ((cs.drop o).take (n * i.size)).length with hj | hj
                      · rw [List.getElem?_append_left hj] at hv'
                        have hj' : j < n * i.size := by rw [ho1.1, hol'] at hj; exact hj
                        rw [List.getElem?_take, if_pos hj', List.getElem?_drop] at hv'
                        obtain ⟨v', k1, k2⟩ := d5 (o + j) v hv'
                        exact ⟨v', by rw [e3 _ (.inl (by omega)), Nat.add_assoc]; exact k1, k2⟩
                      · rw [List.getElem?_append_right hj] at hv'
                        obtain ⟨v', k1, k2⟩ := hv.get hv'
                        have hj2 : ((cs.drop o).take (n * i.size)).length = n * i.size := by rw [ho1.1, hol']
                        refine ⟨v', ?_, k2⟩
                        have := e4 _ v' k1
                        rw [hj2] at this hj
                        rwa [show bi.off + o + n * i.size + (j - n * i.size) = bi.off + o + j by omega] at this
                  · refine ⟨m1, m2, m3, by omega, by simp, fun y hy => Phi.upd_ne (by omega), fun y hy hny => ?_, fun k hk hown => setCells_other _ _ _ _ _ fun e => hown g cs bi hg hφ e.symm, fun y c b' f1 f2 f3 => ?_⟩
                    · have hyg : y ≠ g := by rintro rfl; rw [hφ] at hny; cases hny
                      rw [get_push_lt (by simpa using hy), List.getElem?_set_ne (fun he => hyg he.symm)]
                    · by_cases hyl : y = H.length
                      · subst hyl
                        rw [Phi.upd_self] at f2; cases f2
                        exact ⟨g, cs, bi, hg, hφ, rfl⟩
                      · rw [Phi.upd_ne hyl] at f2
                        have hy2 := (hS.dom y b' f2).1
                        rw [get_push_lt (by simpa using hy2)] at f1
                        rcases set_get f1 hlt with ⟨_, f⟩ | ⟨_, f1⟩
                        · cases f
                        · exact ⟨y, c, b', f1, f2, rfl⟩
                  · have := VR.slice (φ := φ.upd H.length ⟨bi.blk, bi.off + o, bi.room⟩) (g := H.length) (o := 0) (n := n + m) (e := i.size) (c' := c') Phi.upd_self hroomy (.inr (by simpa using hroom))
                    simpa using this
                · -- there is none
                  have hold : (Builtin.firstCells i.size n (.slice (some ⟨bi.blk, bi.off + o, none⟩) n c')).run P W.drew = .ok olds'.toArray W.drew := run_firstCells_some W.drew i.size n ⟨bi.blk, bi.off + o, none⟩ n c' olds' hol' (by simpa using ho2)
                  have hrun := hsr.grow (some ⟨bi.blk, bi.off + o, none⟩) n c' olds' hold (by omega) (by omega) (growslice_fits (by omega) hb)
                  obtain ⟨h1, h2⟩ := grow_sim (P := P) hS hK hKE (ho1.append hv) (zs := Builtin.zeroCells z.cells (grownCap W (n + m) c' e - (n + m))) (e := e)
                  rw [hlen] at h1 h2
                  refine ⟨_, _, _, h1, h2, ?_, hrun⟩
                  have hcap := grownCap_ge W (n + m) c' e
                  have := VR.slice (φ := φ.upd H.length ⟨W.heap.size, 0, ((olds' ++ news').toArray ++ Builtin.zeroCells z.cells (grownCap W (n + m) c' e - (n + m))).size⟩) (g := H.length) (o := 0) (n := n + m) (e := i.size) (c' := grownCap W (n + m) c' e) Phi.upd_self hcap (.inr (by
                    simp only [Array.size_append, List.size_toArray, zeroCells_size, hzs, List.length_append, hnl, hol']
                    rw [← Nat.add_mul, ← Nat.add_mul]
                    simp only [Nat.zero_add]
                    exact Nat.mul_le_mul_right _ (by omega)))
                  simpa using this
            · cases h
          · cases h
      · cases h
    · cases h
  · cases h

def acopy (P : Program) (H : AH) (t tx : TypeId) (d x : Value) : Option (Value × AH) :=
  match elemT P t with
  | some (size, _) => match asrc P H tx x size with
    | some (news, m) => match d with
      | .slice none 0 0 => some (.int .i64 0, H)
      | .slice (some ⟨g, o, none⟩) n _ => if min m n = 0 then some (.int .i64 0, H)
        else match H[g]? with
        | some (.own cs) => if o + (news.take (min m n * size)).length ≤ cs.length ∧ news.all cellv = true then some (.int .i64 (min m n), H.set g (.own (ovr cs o (news.take (min m n * size))))) else none
        | _ => none
      | _ => none
    | none => none
  | none => none
theorem acopy_sound {P : Program} {φ : Phi} {H H' : AH} {W : World} {t tx ty : TypeId} {d x d' x' v : Value} (hS : Sim φ H W) (h : acopy P H t tx d x = some (v, H')) (hd : VR φ d d') (hx : VR φ x x') :
    ∃ W' v', Sim φ H' W' ∧ Ev φ H W φ H' W' ∧ VR φ v v' ∧ (Builtin.copy_ #[t, tx] ty #[d', x']).run P W = .ok v' W' := by
  unfold acopy at h
  split at h
  · rename_i size bytes hel
    obtain ⟨e, i, z, hu, hi, hz, hzs, rfl, rfl⟩ := elemT_spec hel
    split at h
    · rename_i news m hsrc
      obtain ⟨news', hv, hsr, hfc⟩ := asrc_sound hS hsrc hx
      have zero : ∀ base n c, min m n = 0 → (Builtin.copy_ #[t, tx] ty #[.slice base n c, x']).run P W = .ok (.int .i64 0) W := by
        intro base n c hmn
        have h0 := hfc 0 (Nat.zero_le _)
        simp only [Nat.zero_mul, List.take_zero] at h0
        have hmn' : Nat.min m n = 0 := hmn
        cases base <;> simp [Builtin.copy_, run_underlying hu, sizeOf, typeInfo, hi, hsr.len, hmn', h0, storeCells, goInt]
      split at h
      · cases h; cases hd
        exact ⟨W, _, hS, Ev.refl _ _ _, .int _ _, zero none 0 0 (by simp)⟩
      · rename_i g o n cc
        split at h
        · rename_i hmn
          cases h
          cases hd with
          | empty a a' c' => exact ⟨W, _, hS, Ev.refl _ _ _, .int _ _, zero _ 0 c' (by simp)⟩
          | slice hφ hnc hr => exact ⟨W, _, hS, Ev.refl _ _ _, .int _ _, zero _ _ _ hmn⟩
        · rename_i hmn
          split at h
          · rename_i cs hg
            split at h
            · rename_i hc
              cases h
              cases hd with
              | empty a a' c' => exact absurd (Nat.min_eq_right (Nat.zero_le m)) hmn
              | @slice _ _ _ _ c' bi hφ hnc hr =>
                obtain ⟨k1, k2, k3, k4⟩ := hS.write hg hφ hc.1 (hv.take (min m n * i.size))
                refine ⟨_, _, k3, k4, .int _ _, ?_⟩
                have hst := run_storeCells_cells (P := P) bi.blk (bi.off + o) (news'.take (min m n * i.size)) 0 W (by simpa using k1) (by simpa using k2) (fun u hu => hv.cellv hc.2 u (List.mem_of_mem_take hu))
                simp only [Nat.add_zero] at hst
                have h1 := hfc (min m n) (Nat.min_le_left _ _)
                have hmm : Nat.min m n = min m n := rfl
                simp [Builtin.copy_, run_underlying hu, sizeOf, typeInfo, hi, hsr.len, hmm, h1, hst, goInt]
                omega
            · cases h
          · cases h
      · cases h
    · cases h
  · cases h
/-- A row of bytes turned to its own type: the run-time's mark stands behind the row, the value stays. -/
def amark (P : Program) (H : AH) (src dst : TypeId) (x : Value) : Option Value :=
  match x with
  | .slice (some ⟨g, o, none⟩) n e => (match H[g]? with
    | some (.own _) => if (src == dst && byteSliceT P src && e != 0) = true then some (.slice (some ⟨g, o, none⟩) n e) else none
    | _ => none)
  | _ => none
theorem byteSliceT_mark {P : Program} {t : TypeId} (h : byteSliceT P t = true) : ∃ e, P.underlying t = some (.slice e) ∧ P.underlying e = some (.int .u8) := by
  unfold byteSliceT at h
  split at h
  · rename_i e hu
    refine ⟨e, hu, ?_⟩
    split at h
    · rename_i he; exact he
    · cases h
  · cases h
theorem convert_mark_run {P : Program} {W : World} {t e : TypeId} {C : Array Value} {ty : TypeId} {fr : Nat × Nat} {b o n c : Nat} (ht : P.underlying t = some (.slice e)) (he : P.underlying e = some (.int .u8)) (hb : W.heap[b]? = some (.cells C ty fr)) :
    (convert t t (.slice (some ⟨b, o, none⟩) n c)).run P W = .ok (.slice (some ⟨b, o, none⟩) n c) (W.freeze ⟨b, C.size, none⟩ 1) := by
  simp [convert, run_underlying ht, run_underlying he, markStringish, World.shape?, hb]
theorem amark_sound {P : Program} {φ : Phi} {H : AH} {W : World} {src dst : TypeId} {x x' v : Value} (hS : Sim φ H W) (h : amark P H src dst x = some v) (hx : VR φ x x') :
    ∃ W', VR φ v x' ∧ Sim φ H W' ∧ Ev φ H W φ H W' ∧ (convert src dst x').run P W = .ok x' W' := by
  unfold amark at h
  split at h
  · rename_i g o n e
    split at h
    · rename_i cs hg
      split at h
      · rename_i hc
        simp only [Bool.and_eq_true, beq_iff_eq, bne_iff_ne, ne_eq] at hc
        obtain ⟨⟨rfl, hc⟩, hne⟩ := hc
        obtain ⟨et, hu, he⟩ := byteSliceT_mark hc
        cases h
        cases hx with
        | empty => exact absurd rfl hne
        | slice hφ hn hr =>
          rename_i bi
          obtain ⟨C, ty, fr, d1, d2, d3, d4, d5⟩ := hS.own g cs bi hg hφ
          have hsz : (W.freeze ⟨bi.blk, C.size, none⟩ 1).heap.size = W.heap.size := by
            unfold World.freeze; rw [if_neg (by decide)]; simp
          have hoth : ∀ b, b ≠ bi.blk → (W.freeze ⟨bi.blk, C.size, none⟩ 1).heap[b]? = W.heap[b]? := fun b hb => by
            unfold World.freeze; rw [if_neg (by decide)]
            simp only [Array.getElem?_modify]
            rw [if_neg (fun e => hb e.symm)]
          have hown : ∃ fr' : Nat × Nat, (W.freeze ⟨bi.blk, C.size, none⟩ 1).heap[bi.blk]? = some (.cells C ty fr') ∧ (fr'.1 = fr'.2 ∨ C.size ≤ fr'.1) := by
            unfold World.freeze; rw [if_neg (by decide)]
            simp only [Array.getElem?_modify, if_true, d1, Option.map_some]
            obtain ⟨lo, hi⟩ := fr
            refine ⟨_, rfl, ?_⟩
            simp only at d3 ⊢
            by_cases hlh : lo = hi
            · subst hlh
              simp
            · have h1 : C.size ≤ lo := d3.resolve_left hlh
              have h2 : (lo == hi) = false := by simpa using hlh
              simp only [h2, Bool.false_eq_true, if_false]
              exact .inr (by omega)
          obtain ⟨fr', f1, f2⟩ := hown
          have hset : H.set g (.own cs) = H := by
            apply List.ext_getElem?
            intro i
            by_cases e : g = i
            · subst e
              rw [List.getElem?_set_self (by exact (List.getElem?_eq_some_iff.1 hg).1), hg]
            · rw [List.getElem?_set_ne e]
          have k1 := hS.update hg hφ hsz hoth ⟨C, ty, fr', f1, d2, f2, d4, d5⟩
          have k2 : Ev φ H W φ (H.set g (.own cs)) (W.freeze ⟨bi.blk, C.size, none⟩ 1) := Ev.update hg hφ hsz hoth (by unfold World.freeze; rw [if_neg (by decide)]) (by unfold World.freeze; rw [if_neg (by decide)]) (by unfold World.freeze; rw [if_neg (by decide)])
          rw [hset] at k1 k2
          exact ⟨_, .slice hφ hn hr, k1, k2, convert_mark_run hu he d1⟩
      · cases h
    · cases h
  · cases h
end Go.Proofs.Ytelpdppdhimfoaa
