/- What the document says of Clash. -/
import Derived.Test.YtpiaohajbbdpdaaSl1
import Derived.Test.YtpiaohajbbdpdaaCsm
import Derived.Test.YtpiaohajbbdpdaaOsn
namespace Go.Proofs.Ytpiaohajbbdpdaa
open Go Go.RowKit
--hide
set_option linter.unusedSimpArgs false
set_option linter.unusedVariables false
set_option maxRecDepth 4000
abbrev Fn8 := Nat → List UInt8
/-- Two unlike texts with one digest. -/
def bad (D T : Fn8) (i k : Nat) : Prop := D i = D k ∧ T i ≠ T k
def noBad (D T : Fn8) (k : Nat) : Prop := ∀ j, j < k → ¬ bad D T j k
/-- What Clash tells. -/
def ClS (D T : Fn8) (n : Nat) (a b : Int) (c : Bool) : Prop :=
  (c = true ∧ ∃ i k : Nat, k < n ∧ i < k ∧ a = (i : Int) ∧ b = (k : Int) ∧ bad D T i k ∧ (∀ j, j < i → ¬ bad D T j k) ∧ ∀ k', k' < k → noBad D T k') ∨ (c = false ∧ a = 0 ∧ b = 0 ∧ ∀ k', k' < n → noBad D T k')
theorem ClS.uniq {D T : Fn8} {n : Nat} {a b a' b' : Int} {c c' : Bool} (h : ClS D T n a b c) (k : ClS D T n a' b' c') : a = a' ∧ b = b' ∧ c = c' := by
  rcases h with ⟨rfl, i, m, h1, h2, rfl, rfl, h3, h4, h5⟩ | ⟨rfl, rfl, rfl, h5⟩
  · rcases k with ⟨rfl, i', m', k1, k2, rfl, rfl, k3, k4, k5⟩ | ⟨rfl, rfl, rfl, k5⟩
    · have e1 : ¬ m < m' := fun q => k5 m q i h2 h3
      have e2 : ¬ m' < m := fun q => h5 m' q i' k2 k3
      have e3 : m = m' := by omega
      subst e3
      have e4 : ¬ i < i' := fun q => k4 i q h3
      have e5 : ¬ i' < i := fun q => h4 i' q k3
      exact ⟨by omega, rfl, rfl⟩
    · exact absurd h3 (k5 m h1 i h2)
  · rcases k with ⟨rfl, i', m', k1, k2, rfl, rfl, k3, k4, k5⟩ | ⟨rfl, rfl, rfl, k5⟩
    · exact absurd k3 (h5 m' k1 i' k2)
    · exact ⟨rfl, rfl, rfl⟩
/-- Texts that stand in a row of slices. -/
def Txt (H : AH) (v : Value) (n : Nat) (T : Fn8) : Prop := (v = .slice none 0 0 ∧ n = 0) ∨ ∃ g o e, v = .slice (some ⟨g, o, none⟩) n e ∧ (n = 0 ∨ ∃ cs, H.cells g = some cs ∧ o + n ≤ cs.length ∧ ∀ i, i < n → ∃ w, cs[o + i]? = some w ∧ SL H w ((T i).map U8))
theorem Txt.mono {H H' : AH} {v : Value} {n : Nat} {T : Fn8} (h : Txt H v n T) (e : Ext H H') : Txt H' v n T := by
  rcases h with h | ⟨g, o, e', h1, h2⟩
  · exact .inl h
  · refine .inr ⟨g, o, e', h1, ?_⟩
    rcases h2 with h2 | ⟨cs, h2, h3, h4⟩
    · exact .inl h2
    · refine .inr ⟨cs, e.cells h2, h3, fun i hi => ?_⟩
      obtain ⟨w, k1, k2⟩ := h4 i hi
      exact ⟨w, k1, k2.mono e⟩
theorem Txt.sl {H : AH} {v : Value} {n : Nat} {T : Fn8} (h : Txt H v n T) : ∃ vs : List Value, vs.length = n ∧ SL H v vs := by
  rcases h with ⟨rfl, rfl⟩ | ⟨g, o, e', rfl, h2⟩
  · exact ⟨[], rfl, .inl ⟨rfl, rfl⟩⟩
  · rcases h2 with h2 | ⟨cs, h2, h3, h4⟩
    · subst h2
      exact ⟨[], rfl, .inr ⟨g, o, e', rfl, .inl rfl⟩⟩
    · have hl : ((cs.drop o).take n).length = n := by rw [List.length_take, List.length_drop]; omega
      exact ⟨(cs.drop o).take n, hl, .inr ⟨g, o, e', by rw [hl], .inr ⟨cs, h2, by omega, by rw [hl]⟩⟩⟩
theorem Txt.len {P : Program} {H : AH} {v : Value} {n ty : Nat} {T : Fn8} (h : Txt H v n T) (ht : sliceT P ty = true) : alen P ty v = some (.int .i64 (n : Int)) := by
  obtain ⟨vs, rfl, hs⟩ := h.sl
  exact alen_sl ht hs
theorem Txt.at {H : AH} {v : Value} {n : Nat} {T : Fn8} (h : Txt H v n T) (hn : 0 < n) : ∃ g o e cs, v = .slice (some ⟨g, o, none⟩) n e ∧ H.cells g = some cs ∧ o + n ≤ cs.length ∧ ∀ i, i < n → ∃ w, cs[o + i]? = some w ∧ SL H w ((T i).map U8) := by
  rcases h with ⟨_, h⟩ | ⟨g, o, e', h1, h2⟩
  · omega
  · rcases h2 with h2 | ⟨cs, h2, h3, h4⟩
    · omega
    · exact ⟨g, o, e', cs, h1, h2, h3, h4⟩
abbrev d8 (d : List UInt8) : List Value := d.map U8
abbrev flD (l : List (List UInt8)) : List Value := (l.map d8).flatten
def firD (D : Fn8) (k : Nat) : List (List UInt8) := (List.range k).map D
theorem firD_length (D : Fn8) (k : Nat) : (firD D k).length = k := by rw [firD, List.length_map, List.length_range]
theorem firD_hl {D : Fn8} (h : ∀ i, (D i).length = 32) (k : Nat) : ∀ a ∈ firD D k, (d8 a).length = 32 := by
  intro a ha
  obtain ⟨i, _, rfl⟩ := List.mem_map.1 ha
  rw [List.length_map, h]
theorem firD_succ (D : Fn8) (k : Nat) : firD D (k + 1) = firD D k ++ [D k] := by rw [firD, List.range_succ, List.map_append]; rfl
theorem firD_get {D : Fn8} {k i : Nat} (h : i < (firD D k).length) : (firD D k)[i] = D i := by simp [firD]
theorem flD_snoc (l : List (List UInt8)) (d : List UInt8) : flD (l ++ [d]) = flD l ++ d8 d := by simp [flD]
set_option maxHeartbeats 4000000 in
theorem refclash_calls (v : Value) (n : Nat) (D T : Fn8) (H : AH) (hv : Txt H v n T) (hD : ∀ i, i < n → digest (T i) = D i) (hd : ∀ i, (D i).length = 32) (hn : n ≤ 1000) (ht : ∀ i, i < n → (T i).length ≤ 1000000) :
    ACalls Try.prog 22 #[v] H fun r H' => (∃ a b c, r = .tuple #[.int .i64 a, .int .i64 b, .bool c] ∧ ClS D T n a b c) ∧ Ext H H' := by
  have lv := hv.len (P := Try.prog) (ty := 44) (by simp only [ty])
  have hel : elemT Try.prog 74 = some (32, 32) := by simp only [ty]
  have hsl : sliceT Try.prog 74 = true := by simp only [ty]
  refine acalls_of_body Try.func22 rfl Try.ntmps22 (by simp) ?_
  simp only [argsT, Nat.reduceAdd]
  iterate 3 ((repeat first | refine Qo ?_ | refine Qn ?_); (first | (refine QK (by kernel_rfl) ?_; intro K_ hK_; simp -implicitDefEqProofs (disch := (try simp only [sl]); try omega) only [sm,QJ,Qj,Qi,Qq,QC,bd,look,aput,ty,↓reduceIte,Nat.reduceEqDiff,Nat.reduceAdd,Nat.reduceSub,Nat.reduceMul,Int.reduceLT,Int.reduceLE,Int.reduceNeg,Int.reduceToNat,reduceCtorEq,Nat.reduceBEq,Nat.reduceBNe,Qk,Qe,Value.cells,am,mm,keep, lv, bda]; refine hK_ _ _ ?_; clear hK_ K_; repeat first | refine QL ?_ | refine QM ?_)))
  repeat first | refine Qo ?_ | refine Qn ?_
  refine awp_forK [0] (fun x : Nat × Value × AH => [(6, I64 x.1), (5, x.2.1)]) (fun x : Nat × Value × AH => x.2.2) (fun x : Nat × Value × AH => x.1 ≤ n ∧ OSn 32 H.length x.2.2 x.2.1 x.1 (flD (firD D x.1)) ∧ Ext H x.2.2) (fun x : Nat × Value × AH => n - x.1) ((0, .slice none 0 0, H)) (⟨Nat.zero_le _, .inl ⟨rfl, rfl, rfl⟩, Ext.refl _⟩) (by repeat first | exact Forgets.nil | refine Forgets.cons (by first | (simp only [look, ↓reduceIte, Nat.reduceEqDiff]; done) | (simp only [look, ↓reduceIte, Nat.reduceEqDiff]; rfl) | simp [look]) ?_) rfl ?_
  rintro ⟨i, s, H1⟩ ⟨hi, o1, x1⟩
  simp only [] at hi o1 x1 ⊢
  by_cases hlt : i < n
  · obtain ⟨g, o, e, cs, hve, hcs, hlen, hat⟩ := hv.at (by omega)
    cases hve
    obtain ⟨w, hw, hws⟩ := hat i hlt
    have hcs1 := x1.cells hcs
    have hdi := hd i
    have hDi := hD i hlt
    have hti := ht i hlt
    have hii : IntKind.i64.wrap ((i : Int) + 1) = (i : Int) + 1 := wi64 _ (by omega) (by omega)
    iterate 1 ((repeat first | refine Qo ?_ | refine Qn ?_); (first | (refine QK (by kernel_rfl) ?_; intro K_ hK_; simp -implicitDefEqProofs (disch := (try simp only [sl]); try omega) only [sm,QJ,Qj,Qi,Qq,QC,bd,look,aput,QI,abin,anil,ty,↓reduceIte,Nat.reduceEqDiff,Nat.reduceAdd,Nat.reduceSub,Nat.reduceMul,Int.reduceLT,Int.reduceLE,Int.reduceNeg,Int.reduceToNat,reduceCtorEq,Nat.reduceBEq,Nat.reduceBNe,Qk,Qe,Value.cells,am,mm,keep, lv, bda, hcs1, hw, hlt]; refine hK_ _ _ ?_; clear hK_ K_; repeat first | refine QL ?_ | refine QM ?_)))
    repeat first | refine Qo ?_ | refine Qn ?_
    refine awp_if true rfl (by first | (simp only [aeval_tmp, look, ↓reduceIte, Nat.reduceEqDiff]; try rfl) | rfl) (fun _ => ?_) (fun h => absurd h (by decide))
    iterate 1 ((repeat first | refine Qo ?_ | refine Qn ?_); (first | (refine QK (by kernel_rfl) ?_; intro K_ hK_; simp -implicitDefEqProofs (disch := (try simp only [sl]); try omega) only [sm,QJ,Qj,Qi,Qq,QC,Qz,bd,QF,look,aput,Qm,Qb,QA,ty,↓reduceIte,Nat.reduceEqDiff,Nat.reduceAdd,Nat.reduceSub,Nat.reduceMul,Int.reduceLT,Int.reduceLE,Int.reduceNeg,Int.reduceToNat,reduceCtorEq,Nat.reduceBEq,Nat.reduceBNe,Qk,Qe,Value.cells,am,mm,keep, lv, bda, hcs1, hw, hlt]; refine hK_ _ _ ?_; clear hK_ K_; repeat first | refine QL ?_ | refine QM ?_) | (refine awp_skip ?_; repeat first | refine QL ?_ | refine QM ?_)))
    (repeat first | refine Qo ?_ | refine Qn ?_); refine QK (by kernel_rfl) ?_; intro K_ hK_; simp -implicitDefEqProofs (disch := (try simp only [sl]); try omega) only [sm,QJ,Qj,Qi,Qq,QC,Qz,bd,QF,look,aput,Qm,Qb,QA,ty,↓reduceIte,Nat.reduceEqDiff,Nat.reduceAdd,Nat.reduceSub,Nat.reduceMul,Int.reduceLT,Int.reduceLE,Int.reduceNeg,Int.reduceToNat,reduceCtorEq,Nat.reduceBEq,Nat.reduceBNe,Qk,Qe,Value.cells,am,mm,keep, lv, bda, hcs1, hw, hlt]
    refine ACalls.mono (refsum_calls w (T i) H1 (hws.mono x1) (by omega)) ?_
    rintro _ H2 ⟨rfl, e2⟩
    rw [hDi]
    have hcl : (flD (firD D i)).length = i * 32 := by rw [flatS_length 32 d8 (firD D i) (firD_hl hd i), firD_length]
    obtain ⟨s5, H5, ha5, o5, ke5, on5⟩ := OSn.app1 (P := Try.prog) (t := 74) (tx := 74) (bytes := 32) (c := d8 (D i)) hel hsl (o1.mono e2) hcl (by rw [List.length_map, hdi]) (all8 _) (by decide) (by omega) (by omega) (by have := x1.length; have := e2.length; omega)
    have x5 : Ext H H5 := ke5.ext (Nat.le_refl _) (x1.trans e2)
    rw [← flD_snoc, ← firD_succ] at o5
    try simp -implicitDefEqProofs (disch := (try simp only [sl]); try omega) only [sm,QJ,Qj,Qi,Qq,QC,Qz,bd,QF,look,aput,Qm,Qb,QA,ty,↓reduceIte,Nat.reduceEqDiff,Nat.reduceAdd,Nat.reduceSub,Nat.reduceMul,Int.reduceLT,Int.reduceLE,Int.reduceNeg,Int.reduceToNat,reduceCtorEq,Nat.reduceBEq,Nat.reduceBNe,Qk,Qe,Value.cells,am,mm,keep, lv, bda, hdi, ha5]
    try (refine hK_ _ _ ?_; clear hK_ K_; repeat first | refine QL ?_ | refine QM ?_)
    iterate 1 ((repeat first | refine Qo ?_ | refine Qn ?_); (first | (refine QK (by kernel_rfl) ?_; intro K_ hK_; simp -implicitDefEqProofs (disch := (try simp only [sl]); try omega) only [sm,QJ,Qj,Qi,Qq,QC,bd,look,aput,QI,abin,anil,ty,↓reduceIte,Nat.reduceEqDiff,Nat.reduceAdd,Nat.reduceSub,Nat.reduceMul,Int.reduceLT,Int.reduceLE,Int.reduceNeg,Int.reduceToNat,reduceCtorEq,Nat.reduceBEq,Nat.reduceBNe,Qk,Qe,Value.cells,am,mm,keep, lv, bda, hdi, ha5, hii]; refine hK_ _ _ ?_; clear hK_ K_; repeat first | refine QL ?_ | refine QM ?_)))
    refine ⟨(i + 1, s5, H5), ⟨by simp only []; omega, o5.low (by have := x1.length; have := e2.length; omega), x5⟩, (by repeat first | exact Forgets.nil | refine Forgets.cons (by first | (simp only [look, ↓reduceIte, Nat.reduceEqDiff]; done) | (simp only [look, ↓reduceIte, Nat.reduceEqDiff]; rfl) | simp [look, hii]) ?_), ?_⟩
    first | omega | exact ⟨rfl, by omega⟩ | exact ⟨rfl, by simp only []; omega⟩ | (simp only []; omega)
  obtain rfl : i = n := by omega
  have so : SLn H1 s (firD D i).length (flD (firD D i)) := by rw [firD_length]; exact o1.sln
  iterate 1 ((repeat first | refine Qo ?_ | refine Qn ?_); (first | (refine QK (by kernel_rfl) ?_; intro K_ hK_; simp -implicitDefEqProofs (disch := (try simp only [sl]); try omega) only [sm,QJ,Qj,Qi,Qq,QC,bd,look,aput,QI,abin,anil,ty,↓reduceIte,Nat.reduceEqDiff,Nat.reduceAdd,Nat.reduceSub,Nat.reduceMul,Int.reduceLT,Int.reduceLE,Int.reduceNeg,Int.reduceToNat,reduceCtorEq,Nat.reduceBEq,Nat.reduceBNe,Qk,Qe,Value.cells,am,mm,keep, lv, hlt]; refine hK_ _ _ ?_; clear hK_ K_; repeat first | refine QL ?_ | refine QM ?_)))
  repeat first | refine Qo ?_ | refine Qn ?_
  refine awp_if false rfl (by first | (simp only [aeval_tmp, look, ↓reduceIte, Nat.reduceEqDiff]; try rfl) | rfl) (fun h => absurd h (by decide)) (fun _ => ?_)
  iterate 2 ((repeat first | refine Qo ?_ | refine Qn ?_); (first | (refine QK (by kernel_rfl) ?_; intro K_ hK_; simp -implicitDefEqProofs (disch := (try simp only [sl]); try omega) only [sm,QJ,Qj,Qi,Qq,QC,bd,look,aput,ty,↓reduceIte,Nat.reduceEqDiff,Nat.reduceAdd,Nat.reduceSub,Nat.reduceMul,Int.reduceLT,Int.reduceLE,Int.reduceNeg,Int.reduceToNat,reduceCtorEq,Nat.reduceBEq,Nat.reduceBNe,Qk,Qe,Value.cells,am,mm,keep, lv]; refine hK_ _ _ ?_; clear hK_ K_; repeat first | refine QL ?_ | refine QM ?_) | (refine awp_exit ?_; (repeat first | refine aThen_exit ?_ | refine aIn_out rfl ?_); refine aIn_here ?_; repeat first | refine QL ?_ | refine QM ?_)))
  repeat first | refine Qo ?_ | refine Qn ?_
  refine awp_forK [0, 5] (fun k : Nat => [(7, I64 k)]) (fun k : Nat => H1) (fun k : Nat => k ≤ i ∧ ∀ k', k' < k → noBad D T k') (fun k : Nat => i - k) (0) (⟨Nat.zero_le _, fun k' h => absurd h (by omega)⟩) (by repeat first | exact Forgets.nil | refine Forgets.cons (by first | (simp only [look, ↓reduceIte, Nat.reduceEqDiff]; done) | (simp only [look, ↓reduceIte, Nat.reduceEqDiff]; rfl) | simp [look, hii]) ?_) rfl ?_
  rintro k ⟨hk, hC⟩
  by_cases hk2 : k < i
  · -- R7
    iterate 1 ((repeat first | refine Qo ?_ | refine Qn ?_); (first | (refine QK (by kernel_rfl) ?_; intro K_ hK_; simp -implicitDefEqProofs (disch := (try simp only [sl]); try omega) only [sm,QJ,Qj,Qi,Qq,QC,bd,look,aput,QI,abin,anil,ty,↓reduceIte,Nat.reduceEqDiff,Nat.reduceAdd,Nat.reduceSub,Nat.reduceMul,Int.reduceLT,Int.reduceLE,Int.reduceNeg,Int.reduceToNat,reduceCtorEq,Nat.reduceBEq,Nat.reduceBNe,Qk,Qe,Value.cells,am,mm,keep, lv, hk2]; refine hK_ _ _ ?_; clear hK_ K_; repeat first | refine QL ?_ | refine QM ?_)))
    repeat first | refine Qo ?_ | refine Qn ?_
    refine awp_if true rfl (by first | (simp only [aeval_tmp, look, ↓reduceIte, Nat.reduceEqDiff]; try rfl) | rfl) (fun _ => ?_) (fun h => absurd h (by decide))
    iterate 2 ((repeat first | refine Qo ?_ | refine Qn ?_); (first | (refine QK (by kernel_rfl) ?_; intro K_ hK_; simp -implicitDefEqProofs (disch := (try simp only [sl]); try omega) only [sm,QJ,Qj,Qi,Qq,QC,bd,look,aput,ty,↓reduceIte,Nat.reduceEqDiff,Nat.reduceAdd,Nat.reduceSub,Nat.reduceMul,Int.reduceLT,Int.reduceLE,Int.reduceNeg,Int.reduceToNat,reduceCtorEq,Nat.reduceBEq,Nat.reduceBNe,Qk,Qe,Value.cells,am,mm,keep, lv, hk2]; refine hK_ _ _ ?_; clear hK_ K_; repeat first | refine QL ?_ | refine QM ?_) | (refine awp_skip ?_; repeat first | refine QL ?_ | refine QM ?_)))
    repeat first | refine Qo ?_ | refine Qn ?_
    refine awp_forK [0, 5, 7] (fun j : Nat => [(8, I64 j)]) (fun j : Nat => H1) (fun j : Nat => j ≤ k ∧ ∀ j', j' < j → ¬ bad D T j' k) (fun j : Nat => k - j) (0) (⟨Nat.zero_le _, fun j' h => absurd h (by omega)⟩) (by repeat first | exact Forgets.nil | refine Forgets.cons (by first | (simp only [look, ↓reduceIte, Nat.reduceEqDiff]; done) | (simp only [look, ↓reduceIte, Nat.reduceEqDiff]; rfl) | simp [look, hii]) ?_) rfl ?_
    rintro j ⟨hj, hCj⟩
    by_cases hjk : j < k
    · obtain ⟨g, o, e, cs, hve, hcs, hlen, hat⟩ := hv.at (by omega)
      cases hve
      have hcs1 := x1.cells hcs
      obtain ⟨wj, hwj, hsj⟩ := hat j (by omega)
      obtain ⟨wk, hwk, hsk⟩ := hat k hk2
      obtain ⟨gs, os, es, ss, hse, hss, hsj', hsl1⟩ := so.at (firD_hl hd i) j (by rw [firD_length]; omega)
      obtain ⟨gs', os', es', ss', hse', hss', hsk', hsl2⟩ := so.at (firD_hl hd i) k (by rw [firD_length]; omega)
      rw [firD_length] at hse hse'
      rw [hse] at hse'
      cases hse'
      rw [hss] at hss'
      cases hss'
      cases hse
      rw [firD_get] at hsj' hsk'
      have hsj' : List.take 32 (List.drop (os + j * 32) ss) = (D j).map U8 := hsj'
      have hsk' : List.take 32 (List.drop (os + k * 32) ss) = (D k).map U8 := hsk'
      have hae := aeq32 (D j) (D k) (hd j) (hd k)
      have hdj := hd j
      have hdk := hd k
      have htj := ht j (by omega)
      have hjj : IntKind.i64.wrap ((j : Int) + 1) = (j : Int) + 1 := wi64 _ (by omega) (by omega)
      have hji : j < i := by omega
      iterate 1 ((repeat first | refine Qo ?_ | refine Qn ?_); (first | (refine QK (by kernel_rfl) ?_; intro K_ hK_; simp -implicitDefEqProofs (disch := (try simp only [sl]); try omega) only [sm,QJ,Qj,Qi,Qq,QC,bd,look,aput,QI,abin,anil,ty,↓reduceIte,Nat.reduceEqDiff,Nat.reduceAdd,Nat.reduceSub,Nat.reduceMul,Int.reduceLT,Int.reduceLE,Int.reduceNeg,Int.reduceToNat,reduceCtorEq,Nat.reduceBEq,Nat.reduceBNe,Qk,Qe,Value.cells,am,mm,keep, lv, hcs1, hwj, hwk, hss, hsj', hsk', hsl1, hsl2, hdj, hdk, hji, hjk]; refine hK_ _ _ ?_; clear hK_ K_; repeat first | refine QL ?_ | refine QM ?_)))
      repeat first | refine Qo ?_ | refine Qn ?_
      refine awp_if true rfl (by first | (simp only [aeval_tmp, look, ↓reduceIte, Nat.reduceEqDiff]; try rfl) | rfl) (fun _ => ?_) (fun h => absurd h (by decide))
      by_cases hDD : D j = D k
      · rw [decide_eq_true hDD] at hae
        by_cases hT : T j = T k
        · have hTd : decide (T j = T k) = true := decide_eq_true hT
          iterate 1 ((repeat first | refine Qo ?_ | refine Qn ?_); (first | (refine awp_region_drawK (id := 12) [(0, []), (1, []), (2, []), (3, []), (4, []), (5, []), (6, []), (7, []), (8, []), (9, []), (10, []), (11, []), (12, []), (13, []), (14, []), (15, []), (16, []), (17, []), (18, []), (19, []), (20, [])] mixed (by kernel_rfl) ?_; intro K_ hK_; simp -implicitDefEqProofs (disch := (try simp only [sl]); try omega) only [sm,aSel,Qu,Qv,Qw,Qx,Qy,Qj,Qi,Qq,QC,Qz,bd,QF,look,aput,Qm,QI,abin,anil,QG,Qb,QA,ty,↓reduceIte,Nat.reduceEqDiff,Nat.reduceAdd,Nat.reduceSub,Nat.reduceMul,Int.reduceLT,Int.reduceLE,Int.reduceNeg,Int.reduceToNat,reduceCtorEq,Nat.reduceBEq,Nat.reduceBNe,Qk,Qe,Value.cells,am,mm,keep, lv, hcs1, hwj, hwk, hss, hsj', hsk', hsl1, hsl2, hdj, hdk, hji, hae, hk2]; refine hK_ _ _ ?_; clear hK_ K_; repeat first | refine QL ?_ | refine QM ?_) | (refine awp_skip ?_; repeat first | refine QL ?_ | refine QM ?_)))
          (repeat first | refine Qo ?_ | refine Qn ?_); refine awp_region_drawK (id := 12) [(0, []), (1, []), (2, []), (3, []), (4, []), (5, []), (6, []), (7, []), (8, []), (9, []), (10, []), (11, []), (12, []), (13, []), (14, []), (15, []), (16, []), (17, []), (18, []), (19, []), (20, [])] mixed (by kernel_rfl) ?_; intro K_ hK_; simp -implicitDefEqProofs (disch := (try simp only [sl]); try omega) only [sm,aSel,Qu,Qv,Qw,Qx,Qy,Qj,Qi,Qq,QC,Qz,bd,QF,look,aput,Qm,QI,abin,anil,QG,Qb,QA,ty,↓reduceIte,Nat.reduceEqDiff,Nat.reduceAdd,Nat.reduceSub,Nat.reduceMul,Int.reduceLT,Int.reduceLE,Int.reduceNeg,Int.reduceToNat,reduceCtorEq,Nat.reduceBEq,Nat.reduceBNe,Qk,Qe,Value.cells,am,mm,keep, lv, hcs1, hwj, hwk, hss, hsj', hsk', hsl1, hsl2, hdj, hdk, hji, hae, hk2]
          refine ACalls.mono (same_calls wj wk (T j) (T k) H1 (hsj.mono x1) (hsk.mono x1) (by omega)) ?_
          rintro _ _ ⟨rfl, hHH⟩
          rw [hHH]
          clear hHH
          simp -implicitDefEqProofs (disch := (try simp only [sl]); try omega) only [sm,aSel,Qu,Qv,Qw,Qx,Qy,Qj,Qi,Qq,QC,Qz,bd,QF,look,aput,Qm,QI,abin,anil,QG,Qb,QA,ty,↓reduceIte,Nat.reduceEqDiff,Nat.reduceAdd,Nat.reduceSub,Nat.reduceMul,Int.reduceLT,Int.reduceLE,Int.reduceNeg,Int.reduceToNat,reduceCtorEq,Nat.reduceBEq,Nat.reduceBNe,Qk,Qe,Value.cells,am,mm,keep, lv, hcs1, hwj, hwk, hss, hsj', hsk', hsl1, hsl2, hdj, hdk, hji]
          try (refine hK_ _ _ ?_; clear hK_ K_; repeat first | refine QL ?_ | refine QM ?_)
          try simp -implicitDefEqProofs (disch := (try simp only [sl]); try omega) only [sm,aSel,Qu,Qv,Qw,Qx,Qy,Qj,Qi,Qq,QC,Qz,bd,QF,look,aput,Qm,QI,abin,anil,QG,Qb,QA,ty,↓reduceIte,Nat.reduceEqDiff,Nat.reduceAdd,Nat.reduceSub,Nat.reduceMul,Int.reduceLT,Int.reduceLE,Int.reduceNeg,Int.reduceToNat,reduceCtorEq,Nat.reduceBEq,Nat.reduceBNe,Qk,Qe,Value.cells,am,mm,keep, lv, hcs1, hwj, hwk, hss, hsj', hsk', hsl1, hsl2, hdj, hdk, hji, hTd, Bool.not_true]
          try (refine hK_ _ _ ?_; clear hK_ K_; repeat first | refine QL ?_ | refine QM ?_)
          repeat first | refine Qo ?_ | refine Qn ?_
          refine awp_if false rfl (by first | (simp only [aeval_tmp, look, ↓reduceIte, Nat.reduceEqDiff]; try rfl) | rfl) (fun h => absurd h (by decide)) (fun _ => ?_)
          iterate 2 ((repeat first | refine Qo ?_ | refine Qn ?_); (first | (refine QK (by kernel_rfl) ?_; intro K_ hK_; simp -implicitDefEqProofs (disch := (try simp only [sl]); try omega) only [sm,QJ,Qj,Qi,Qq,QC,bd,look,aput,QI,abin,anil,ty,↓reduceIte,Nat.reduceEqDiff,Nat.reduceAdd,Nat.reduceSub,Nat.reduceMul,Int.reduceLT,Int.reduceLE,Int.reduceNeg,Int.reduceToNat,reduceCtorEq,Nat.reduceBEq,Nat.reduceBNe,Qk,Qe,Value.cells,am,mm,keep, lv, hcs1, hwj, hwk, hss, hsj', hsk', hsl1, hsl2, hdj, hdk, hji, hjj]; refine hK_ _ _ ?_; clear hK_ K_; repeat first | refine QL ?_ | refine QM ?_) | (refine awp_skip ?_; repeat first | refine QL ?_ | refine QM ?_)))
          refine ⟨j + 1, ⟨by omega, fun j' h => (Nat.lt_succ_iff_lt_or_eq.1 h).elim (hCj j') (fun e => e ▸ fun b => b.2 hT)⟩, (by repeat first | exact Forgets.nil | refine Forgets.cons (by first | (simp only [look, ↓reduceIte, Nat.reduceEqDiff]; done) | (simp only [look, ↓reduceIte, Nat.reduceEqDiff]; rfl) | simp [look, hjj]) ?_), ?_⟩
          first | omega | exact ⟨rfl, by omega⟩ | exact ⟨rfl, by simp only []; omega⟩ | (simp only []; omega)
        · have hTd : decide (T j = T k) = false := decide_eq_false hT
          iterate 1 ((repeat first | refine Qo ?_ | refine Qn ?_); (first | (refine awp_region_drawK (id := 12) [(0, []), (1, []), (2, []), (3, []), (4, []), (5, []), (6, []), (7, []), (8, []), (9, []), (10, []), (11, []), (12, []), (13, []), (14, []), (15, []), (16, []), (17, []), (18, []), (19, []), (20, [])] mixed (by kernel_rfl) ?_; intro K_ hK_; simp -implicitDefEqProofs (disch := (try simp only [sl]); try omega) only [sm,aSel,Qu,Qv,Qw,Qx,Qy,Qj,Qi,Qq,QC,Qz,bd,QF,look,aput,Qm,QI,abin,anil,QG,Qb,QA,ty,↓reduceIte,Nat.reduceEqDiff,Nat.reduceAdd,Nat.reduceSub,Nat.reduceMul,Int.reduceLT,Int.reduceLE,Int.reduceNeg,Int.reduceToNat,reduceCtorEq,Nat.reduceBEq,Nat.reduceBNe,Qk,Qe,Value.cells,am,mm,keep, lv, hcs1, hwj, hwk, hss, hsj', hsk', hsl1, hsl2, hdj, hdk, hji, hae, hk2]; refine hK_ _ _ ?_; clear hK_ K_; repeat first | refine QL ?_ | refine QM ?_) | (refine awp_skip ?_; repeat first | refine QL ?_ | refine QM ?_)))
          (repeat first | refine Qo ?_ | refine Qn ?_); refine awp_region_drawK (id := 12) [(0, []), (1, []), (2, []), (3, []), (4, []), (5, []), (6, []), (7, []), (8, []), (9, []), (10, []), (11, []), (12, []), (13, []), (14, []), (15, []), (16, []), (17, []), (18, []), (19, []), (20, [])] mixed (by kernel_rfl) ?_; intro K_ hK_; simp -implicitDefEqProofs (disch := (try simp only [sl]); try omega) only [sm,aSel,Qu,Qv,Qw,Qx,Qy,Qj,Qi,Qq,QC,Qz,bd,QF,look,aput,Qm,QI,abin,anil,QG,Qb,QA,ty,↓reduceIte,Nat.reduceEqDiff,Nat.reduceAdd,Nat.reduceSub,Nat.reduceMul,Int.reduceLT,Int.reduceLE,Int.reduceNeg,Int.reduceToNat,reduceCtorEq,Nat.reduceBEq,Nat.reduceBNe,Qk,Qe,Value.cells,am,mm,keep, lv, hcs1, hwj, hwk, hss, hsj', hsk', hsl1, hsl2, hdj, hdk, hji, hae, hk2]
          refine ACalls.mono (same_calls wj wk (T j) (T k) H1 (hsj.mono x1) (hsk.mono x1) (by omega)) ?_
          rintro _ _ ⟨rfl, hHH⟩
          rw [hHH]
          clear hHH
          simp -implicitDefEqProofs (disch := (try simp only [sl]); try omega) only [sm,aSel,Qu,Qv,Qw,Qx,Qy,Qj,Qi,Qq,QC,Qz,bd,QF,look,aput,Qm,QI,abin,anil,QG,Qb,QA,ty,↓reduceIte,Nat.reduceEqDiff,Nat.reduceAdd,Nat.reduceSub,Nat.reduceMul,Int.reduceLT,Int.reduceLE,Int.reduceNeg,Int.reduceToNat,reduceCtorEq,Nat.reduceBEq,Nat.reduceBNe,Qk,Qe,Value.cells,am,mm,keep, lv, hcs1, hwj, hwk, hss, hsj', hsk', hsl1, hsl2, hdj, hdk, hji]
          try (refine hK_ _ _ ?_; clear hK_ K_; repeat first | refine QL ?_ | refine QM ?_)
          try simp -implicitDefEqProofs (disch := (try simp only [sl]); try omega) only [sm,aSel,Qu,Qv,Qw,Qx,Qy,Qj,Qi,Qq,QC,Qz,bd,QF,look,aput,Qm,QI,abin,anil,QG,Qb,QA,ty,↓reduceIte,Nat.reduceEqDiff,Nat.reduceAdd,Nat.reduceSub,Nat.reduceMul,Int.reduceLT,Int.reduceLE,Int.reduceNeg,Int.reduceToNat,reduceCtorEq,Nat.reduceBEq,Nat.reduceBNe,Qk,Qe,Value.cells,am,mm,keep, lv, hcs1, hwj, hwk, hss, hsj', hsk', hsl1, hsl2, hdj, hdk, hji, hTd, Bool.not_false]
          try (refine hK_ _ _ ?_; clear hK_ K_; repeat first | refine QL ?_ | refine QM ?_)
          repeat first | refine Qo ?_ | refine Qn ?_
          refine awp_if true rfl (by first | (simp only [aeval_tmp, look, ↓reduceIte, Nat.reduceEqDiff]; try rfl) | rfl) (fun _ => ?_) (fun h => absurd h (by decide))
          iterate 1 ((repeat first | refine Qo ?_ | refine Qn ?_); (first | (refine QK (by kernel_rfl) ?_; intro K_ hK_; simp -implicitDefEqProofs (disch := (try simp only [sl]); try omega) only [sm,QJ,Qj,Qi,Qq,QC,bd,look,aput,ty,↓reduceIte,Nat.reduceEqDiff,Nat.reduceAdd,Nat.reduceSub,Nat.reduceMul,Int.reduceLT,Int.reduceLE,Int.reduceNeg,Int.reduceToNat,reduceCtorEq,Nat.reduceBEq,Nat.reduceBNe,Qk,Qe,Value.cells,am,mm,keep, lv, hcs1, hwj, hwk, hss, hsj', hsk', hsl1, hsl2, hdj, hdk, hji]; refine hK_ _ _ ?_; clear hK_ K_; repeat first | refine QL ?_ | refine QM ?_)))
          first | refine awp_ret ?_ | skip
          show ∃ v, aresults Try.prog Try.f22 _ _ = some v ∧ _
          rw [aresults_3 (r := .tmp 2) (s := .tmp 3) (u := .tmp 4) (by kernel_rfl)]
          simp -implicitDefEqProofs (disch := (try simp only [sl]); try omega) only [aresult, Option.some.injEq, exists_eq_left', sm,Qj,Qi,Qq,QC,Qz,bd,QF,look,aput,QB,Qf,QA,ty,↓reduceIte,Nat.reduceEqDiff,Nat.reduceAdd,Nat.reduceSub,Nat.reduceMul,Int.reduceLT,Int.reduceLE,Int.reduceNeg,Int.reduceToNat,reduceCtorEq,Nat.reduceBEq,Nat.reduceBNe,Qk,Qe,Value.cells,am,mm,keep, lv, hcs1, hwj, hwk, hss, hsj', hsk', hsl1, hsl2, hdj, hdk, hji]
          exact ⟨⟨_, _, _, rfl, .inl ⟨rfl, j, k, hk2, hjk, rfl, rfl, ⟨hDD, hT⟩, hCj, hC⟩⟩, x1⟩
      · rw [decide_eq_false hDD] at hae
        iterate 1 ((repeat first | refine Qo ?_ | refine Qn ?_); (first | (refine awp_region_drawK (id := 12) [(0, []), (1, []), (2, []), (3, []), (4, []), (5, []), (6, []), (7, []), (8, []), (9, []), (10, []), (11, []), (12, []), (13, []), (14, []), (15, []), (16, []), (17, []), (18, []), (19, []), (20, [])] mixed (by kernel_rfl) ?_; intro K_ hK_; simp -implicitDefEqProofs (disch := (try simp only [sl]); try omega) only [sm,aSel,Qu,Qv,Qw,Qx,Qy,Qj,Qi,Qq,QC,Qz,bd,QF,look,aput,Qm,QI,abin,anil,QG,Qb,QA,ty,↓reduceIte,Nat.reduceEqDiff,Nat.reduceAdd,Nat.reduceSub,Nat.reduceMul,Int.reduceLT,Int.reduceLE,Int.reduceNeg,Int.reduceToNat,reduceCtorEq,Nat.reduceBEq,Nat.reduceBNe,Qk,Qe,Value.cells,am,mm,keep, lv, hcs1, hwj, hwk, hss, hsj', hsk', hsl1, hsl2, hdj, hdk, hji, hae, hk2]; refine hK_ _ _ ?_; clear hK_ K_; repeat first | refine QL ?_ | refine QM ?_) | (refine awp_skip ?_; repeat first | refine QL ?_ | refine QM ?_)))
        (repeat first | refine Qo ?_ | refine Qn ?_); refine awp_region_drawK (id := 12) [(0, []), (1, []), (2, []), (3, []), (4, []), (5, []), (6, []), (7, []), (8, []), (9, []), (10, []), (11, []), (12, []), (13, []), (14, []), (15, []), (16, []), (17, []), (18, []), (19, []), (20, [])] mixed (by kernel_rfl) ?_; intro K_ hK_; simp -implicitDefEqProofs (disch := (try simp only [sl]); try omega) only [sm,aSel,Qu,Qv,Qw,Qx,Qy,Qj,Qi,Qq,QC,Qz,bd,QF,look,aput,Qm,QI,abin,anil,QG,Qb,QA,ty,↓reduceIte,Nat.reduceEqDiff,Nat.reduceAdd,Nat.reduceSub,Nat.reduceMul,Int.reduceLT,Int.reduceLE,Int.reduceNeg,Int.reduceToNat,reduceCtorEq,Nat.reduceBEq,Nat.reduceBNe,Qk,Qe,Value.cells,am,mm,keep, lv, hcs1, hwj, hwk, hss, hsj', hsk', hsl1, hsl2, hdj, hdk, hji, hae, hk2]
        try simp -implicitDefEqProofs (disch := (try simp only [sl]); try omega) only [sm,aSel,Qu,Qv,Qw,Qx,Qy,Qj,Qi,Qq,QC,Qz,bd,QF,look,aput,Qm,QI,abin,anil,QG,Qb,QA,ty,↓reduceIte,Nat.reduceEqDiff,Nat.reduceAdd,Nat.reduceSub,Nat.reduceMul,Int.reduceLT,Int.reduceLE,Int.reduceNeg,Int.reduceToNat,reduceCtorEq,Nat.reduceBEq,Nat.reduceBNe,Qk,Qe,Value.cells,am,mm,keep, lv, hcs1, hwj, hwk, hss, hsj', hsk', hsl1, hsl2, hdj, hdk, hji]
        try (refine hK_ _ _ ?_; clear hK_ K_; repeat first | refine QL ?_ | refine QM ?_)
        repeat first | refine Qo ?_ | refine Qn ?_
        refine awp_if false rfl (by first | (simp only [aeval_tmp, look, ↓reduceIte, Nat.reduceEqDiff]; try rfl) | rfl) (fun h => absurd h (by decide)) (fun _ => ?_)
        iterate 2 ((repeat first | refine Qo ?_ | refine Qn ?_); (first | (refine QK (by kernel_rfl) ?_; intro K_ hK_; simp -implicitDefEqProofs (disch := (try simp only [sl]); try omega) only [sm,QJ,Qj,Qi,Qq,QC,bd,look,aput,QI,abin,anil,ty,↓reduceIte,Nat.reduceEqDiff,Nat.reduceAdd,Nat.reduceSub,Nat.reduceMul,Int.reduceLT,Int.reduceLE,Int.reduceNeg,Int.reduceToNat,reduceCtorEq,Nat.reduceBEq,Nat.reduceBNe,Qk,Qe,Value.cells,am,mm,keep, lv, hcs1, hwj, hwk, hss, hsj', hsk', hsl1, hsl2, hdj, hdk, hji, hjj]; refine hK_ _ _ ?_; clear hK_ K_; repeat first | refine QL ?_ | refine QM ?_) | (refine awp_skip ?_; repeat first | refine QL ?_ | refine QM ?_)))
        refine ⟨j + 1, ⟨by omega, fun j' h => (Nat.lt_succ_iff_lt_or_eq.1 h).elim (hCj j') (fun e => e ▸ fun b => hDD b.1)⟩, (by repeat first | exact Forgets.nil | refine Forgets.cons (by first | (simp only [look, ↓reduceIte, Nat.reduceEqDiff]; done) | (simp only [look, ↓reduceIte, Nat.reduceEqDiff]; rfl) | simp [look, hjj]) ?_), ?_⟩
        first | omega | exact ⟨rfl, by omega⟩ | exact ⟨rfl, by simp only []; omega⟩ | (simp only []; omega)
    · obtain rfl : j = k := by omega
      iterate 1 ((repeat first | refine Qo ?_ | refine Qn ?_); (first | (refine QK (by kernel_rfl) ?_; intro K_ hK_; simp -implicitDefEqProofs (disch := (try simp only [sl]); try omega) only [sm,QJ,Qj,Qi,Qq,QC,bd,look,aput,QI,abin,anil,ty,↓reduceIte,Nat.reduceEqDiff,Nat.reduceAdd,Nat.reduceSub,Nat.reduceMul,Int.reduceLT,Int.reduceLE,Int.reduceNeg,Int.reduceToNat,reduceCtorEq,Nat.reduceBEq,Nat.reduceBNe,Qk,Qe,Value.cells,am,mm,keep, lv, hjk]; refine hK_ _ _ ?_; clear hK_ K_; repeat first | refine QL ?_ | refine QM ?_)))
      repeat first | refine Qo ?_ | refine Qn ?_
      refine awp_if false rfl (by first | (simp only [aeval_tmp, look, ↓reduceIte, Nat.reduceEqDiff]; try rfl) | rfl) (fun h => absurd h (by decide)) (fun _ => ?_)
      iterate 2 ((repeat first | refine Qo ?_ | refine Qn ?_); (first | (refine QK (by kernel_rfl) ?_; intro K_ hK_; simp -implicitDefEqProofs (disch := (try simp only [sl]); try omega) only [sm,QJ,Qj,Qi,Qq,QC,bd,look,aput,QI,abin,anil,ty,↓reduceIte,Nat.reduceEqDiff,Nat.reduceAdd,Nat.reduceSub,Nat.reduceMul,Int.reduceLT,Int.reduceLE,Int.reduceNeg,Int.reduceToNat,reduceCtorEq,Nat.reduceBEq,Nat.reduceBNe,Qk,Qe,Value.cells,am,mm,keep, lv]; refine hK_ _ _ ?_; clear hK_ K_; repeat first | refine QL ?_ | refine QM ?_) | (refine awp_exit ?_; (repeat first | refine aThen_exit ?_ | refine aIn_out rfl ?_); refine aIn_here ?_; repeat first | refine QL ?_ | refine QM ?_)))
      refine ⟨j + 1, ⟨by omega, fun k' h => (Nat.lt_succ_iff_lt_or_eq.1 h).elim (hC k') (fun e => e ▸ hCj)⟩, (by repeat first | exact Forgets.nil | refine Forgets.cons (by first | (simp only [look, ↓reduceIte, Nat.reduceEqDiff]; done) | (simp only [look, ↓reduceIte, Nat.reduceEqDiff]; rfl) | simp [look, hjj]) ?_), ?_⟩
      first | omega | exact ⟨rfl, by omega⟩ | exact ⟨rfl, by simp only []; omega⟩ | (simp only []; omega)
  obtain rfl : k = i := by omega
  iterate 1 ((repeat first | refine Qo ?_ | refine Qn ?_); (first | (refine QK (by kernel_rfl) ?_; intro K_ hK_; simp -implicitDefEqProofs (disch := (try simp only [sl]); try omega) only [sm,QJ,Qj,Qi,Qq,QC,bd,look,aput,QI,abin,anil,ty,↓reduceIte,Nat.reduceEqDiff,Nat.reduceAdd,Nat.reduceSub,Nat.reduceMul,Int.reduceLT,Int.reduceLE,Int.reduceNeg,Int.reduceToNat,reduceCtorEq,Nat.reduceBEq,Nat.reduceBNe,Qk,Qe,Value.cells,am,mm,keep, lv, hk2]; refine hK_ _ _ ?_; clear hK_ K_; repeat first | refine QL ?_ | refine QM ?_)))
  repeat first | refine Qo ?_ | refine Qn ?_
  refine awp_if false rfl (by first | (simp only [aeval_tmp, look, ↓reduceIte, Nat.reduceEqDiff]; try rfl) | rfl) (fun h => absurd h (by decide)) (fun _ => ?_)
  iterate 2 ((repeat first | refine Qo ?_ | refine Qn ?_); (first | (refine QK (by kernel_rfl) ?_; intro K_ hK_; simp -implicitDefEqProofs (disch := (try simp only [sl]); try omega) only [sm,QJ,Qj,Qi,Qq,QC,bd,look,aput,ty,↓reduceIte,Nat.reduceEqDiff,Nat.reduceAdd,Nat.reduceSub,Nat.reduceMul,Int.reduceLT,Int.reduceLE,Int.reduceNeg,Int.reduceToNat,reduceCtorEq,Nat.reduceBEq,Nat.reduceBNe,Qk,Qe,Value.cells,am,mm,keep, lv]; refine hK_ _ _ ?_; clear hK_ K_; repeat first | refine QL ?_ | refine QM ?_) | (refine awp_exit ?_; (repeat first | refine aThen_exit ?_ | refine aIn_out rfl ?_); refine aIn_here ?_; repeat first | refine QL ?_ | refine QM ?_)))
  first | refine awp_ret ?_ | skip
  show ∃ v, aresults Try.prog Try.f22 _ _ = some v ∧ _
  rw [aresults_3 (r := .tmp 2) (s := .tmp 3) (u := .tmp 4) (by kernel_rfl)]
  simp -implicitDefEqProofs (disch := (try simp only [sl]); try omega) only [aresult, Option.some.injEq, exists_eq_left', sm,Qj,Qi,Qq,QC,Qz,bd,QF,look,aput,QB,Qf,QA,ty,↓reduceIte,Nat.reduceEqDiff,Nat.reduceAdd,Nat.reduceSub,Nat.reduceMul,Int.reduceLT,Int.reduceLE,Int.reduceNeg,Int.reduceToNat,reduceCtorEq,Nat.reduceBEq,Nat.reduceBNe,Qk,Qe,Value.cells,am,mm,keep, lv]
  exact ⟨⟨0, 0, false, rfl, .inr ⟨rfl, rfl, rfl, hC⟩⟩, x1⟩
end Go.Proofs.Ytpiaohajbbdpdaa
