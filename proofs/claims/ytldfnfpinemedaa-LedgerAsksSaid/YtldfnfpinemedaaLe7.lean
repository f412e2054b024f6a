/- ledger, plainly: runs and the uses they stand for. -/
import Derived.Test.YtldfnfpinemedaaLe1
namespace Go.Proofs.Ytldfnfpinemedaa
open Go Go.RowKit
set_option linter.unusedSimpArgs false
set_option linter.unusedVariables false
set_option maxRecDepth 4000
def exp1 (r : Rn) : List Us := (List.range r.2.2.toNat).map fun (i : Nat) => (r.1, r.2.1 + (i : Int))
def expR (L : List Rn) : List Us := (L.map exp1).flatten
def srtU (l : List Us) : Prop := l.Pairwise ltU
theorem mem_exp1 {r : Rn} {u : Us} : u ∈ exp1 r ↔ inR r u := by
  unfold exp1
  rw [List.mem_map]
  constructor
  · rintro ⟨i, hi, rfl⟩
    rw [List.mem_range] at hi
    show r.1 = r.1 ∧ r.2.1 ≤ r.2.1 + (i : Int) ∧ r.2.1 + (i : Int) < r.2.1 + r.2.2
    omega
  · rintro ⟨h1, h2, h3⟩
    have h3' : u.2 < r.2.1 + r.2.2 := h3
    refine ⟨(u.2 - r.2.1).toNat, by rw [List.mem_range]; omega, ?_⟩
    apply Prod.ext
    · exact h1
    · show r.2.1 + (((u.2 - r.2.1).toNat : Nat) : Int) = u.2
      omega
theorem mem_exp {L : List Rn} {u : Us} : u ∈ expR L ↔ memR L u := by
  unfold expR memR
  rw [List.mem_flatten]
  constructor
  · rintro ⟨l, hl, hu⟩
    obtain ⟨r, hr, rfl⟩ := List.mem_map.1 hl
    exact ⟨r, hr, mem_exp1.1 hu⟩
  · rintro ⟨r, hr, hu⟩
    exact ⟨exp1 r, List.mem_map.2 ⟨r, hr, rfl⟩, mem_exp1.2 hu⟩
theorem exp1_srt (r : Rn) : srtU (exp1 r) := by
  unfold srtU exp1
  rw [List.pairwise_map]
  refine List.Pairwise.imp (fun {a b} h => ?_) List.pairwise_lt_range
  exact .inr ⟨rfl, by show r.2.1 + (a : Int) < r.2.1 + (b : Int); omega⟩
theorem expR_cons (r : Rn) (L : List Rn) : expR (r :: L) = exp1 r ++ expR L := by simp [expR]
theorem exp_srt : ∀ {L : List Rn}, Canon L → srtU (expR L)
  | [], _ => List.Pairwise.nil
  | r :: t, hc => by
    obtain ⟨c1, c2, c3⟩ := canon_cons.1 hc
    rw [expR_cons]
    unfold srtU
    rw [List.pairwise_append]
    refine ⟨exp1_srt r, exp_srt c3, fun a ha b hb => ?_⟩
    have h1 := mem_exp1.1 ha
    obtain ⟨q, hq, h2⟩ := mem_exp.1 hb
    have h3 := c2 q hq
    unfold inR at h1 h2; unfold sepR at h3; unfold ltU; unfold endR at *; omega
theorem ltU_irr (a : Us) : ¬ ltU a a := by unfold ltU; omega
theorem ltU_asym {a b : Us} (h : ltU a b) : ¬ ltU b a := by unfold ltU at *; omega
theorem ltU_tot {a b : Us} (h : ¬ ltU a b) (hn : a ≠ b) : ltU b a := by
  obtain ⟨a1, a2⟩ := a
  obtain ⟨b1, b2⟩ := b
  unfold ltU at *
  simp only [ne_eq, Prod.mk.injEq] at *
  omega
theorem ltU_trans {a b c : Us} (h : ltU a b) (k : ltU b c) : ltU a c := by unfold ltU at *; omega
theorem srt_uniq : ∀ {l l' : List Us}, srtU l → srtU l' → (∀ u, u ∈ l ↔ u ∈ l') → l = l'
  | [], [], _, _, _ => rfl
  | [], b :: y, _, _, h => absurd ((h b).2 List.mem_cons_self) List.not_mem_nil
  | a :: x, [], _, _, h => absurd ((h a).1 List.mem_cons_self) List.not_mem_nil
  | a :: x, b :: y, h1, h2, h => by
    obtain ⟨p1, p2⟩ := List.pairwise_cons.1 h1
    obtain ⟨q1, q2⟩ := List.pairwise_cons.1 h2
    have hab : a = b := by
      rcases List.mem_cons.1 ((h a).1 List.mem_cons_self) with e | ha
      · exact e
      · rcases List.mem_cons.1 ((h b).2 List.mem_cons_self) with e | hb
        · exact e.symm
        · exact absurd (q1 a ha) (ltU_asym (p1 b hb))
    subst hab
    congr 1
    refine srt_uniq p2 q2 fun u => ⟨fun hu => ?_, fun hu => ?_⟩
    · rcases List.mem_cons.1 ((h u).1 (List.mem_cons_of_mem _ hu)) with rfl | k
      · exact absurd (p1 u hu) (ltU_irr u)
      · exact k
    · rcases List.mem_cons.1 ((h u).2 (List.mem_cons_of_mem _ hu)) with rfl | k
      · exact absurd (q1 u hu) (ltU_irr u)
      · exact k
/-- The runs of uses, from the first one on. -/
def stepRun (out : List Rn) (u : Us) : List Rn :=
  match out.getLast? with
  | some r => if joinR r (x1R u) then out.dropLast ++ [(r.1, r.2.1, r.2.2 + 1)] else out ++ [x1R u]
  | none => out ++ [x1R u]
def runsOf (l : List Us) : List Rn := l.foldl stepRun []
theorem step_snoc (out : List Rn) (r : Rn) (u : Us) : stepRun (out ++ [r]) u = if joinR r (x1R u) then out ++ [(r.1, r.2.1, r.2.2 + 1)] else out ++ [r] ++ [x1R u] := by
  unfold stepRun
  have h1 : (out ++ [r]).getLast? = some r := by simp
  have h2 : (out ++ [r]).dropLast = out := by simp
  rw [h1]
  simp only [h2]
theorem fold_exp1 (P : List Rn) (r : Rn) (hp : ∀ p ∈ P, sepR p r) : ∀ k : Nat, ((List.range (k + 1)).map fun (i : Nat) => (r.1, r.2.1 + (i : Int))).foldl stepRun P = P ++ [(r.1, r.2.1, (k : Int) + 1)]
  | 0 => by
    show stepRun P (r.1, r.2.1 + ((0 : Nat) : Int)) = _
    have e : r.2.1 + ((0 : Nat) : Int) = r.2.1 := by omega
    rw [e]
    rcases List.eq_nil_or_concat P with rfl | ⟨P', p, rfl⟩
    · rfl
    · rw [List.concat_eq_append] at *
      have hs := hp p (by simp)
      rw [step_snoc, if_neg]
      · rfl
      · intro k
        have k' : p.1 = r.1 ∧ endR p = r.2.1 := k
        unfold sepR at hs; omega
  | k + 1 => by
    rw [List.range_succ, List.map_append, List.foldl_append, fold_exp1 P r hp k]
    show stepRun (P ++ [(r.1, r.2.1, (k : Int) + 1)]) (r.1, r.2.1 + ((k + 1 : Nat) : Int)) = _
    rw [step_snoc, if_pos]
    · have : (k : Int) + 1 + 1 = ((k + 1 : Nat) : Int) + 1 := by omega
      simp only [this]
    · show r.1 = r.1 ∧ r.2.1 + ((k : Int) + 1) = r.2.1 + ((k + 1 : Nat) : Int)
      omega
theorem fold_exp : ∀ (L P : List Rn), Canon (P ++ L) → (expR L).foldl stepRun P = P ++ L
  | [], P, _ => by simp [expR]
  | r :: t, P, hc => by
    have hr : okR r := hc.1 r (by simp)
    have hpw := List.pairwise_append.1 hc.2
    have hr' : 1 ≤ r.2.2 := hr.2.2.1
    obtain ⟨k, hk⟩ : ∃ k : Nat, r.2.2.toNat = k + 1 := ⟨r.2.2.toNat - 1, by omega⟩
    rw [expR_cons, List.foldl_append]
    have e1 : exp1 r = (List.range (k + 1)).map fun (i : Nat) => (r.1, r.2.1 + (i : Int)) := by unfold exp1; rw [hk]
    rw [e1, fold_exp1 P r (fun p hp => hpw.2.2 p hp r (by simp)) k]
    have e2 : (r.1, r.2.1, (k : Int) + 1) = r := by
      obtain ⟨a, b, c⟩ := r
      simp only [Prod.mk.injEq, true_and]
      simp only [] at hk hr'
      omega
    rw [e2, fold_exp t (P ++ [r]) (by rw [List.append_assoc]; exact hc), List.append_assoc]
    rfl
theorem runs_exp {L : List Rn} (hc : Canon L) : runsOf (expR L) = L := fold_exp L [] hc
/-- A ledger's runs and the document's list: the same uses. -/
def CI (L : List Rn) (l : List Us) : Prop := Canon L ∧ srtU l ∧ ∀ u, u ∈ l ↔ memR L u
theorem CI.eq {L : List Rn} {l : List Us} (h : CI L l) : l = expR L := srt_uniq h.2.1 (exp_srt h.1) fun u => (h.2.2 u).trans mem_exp.symm
theorem CI.runs {L : List Rn} {l : List Us} (h : CI L l) : runsOf l = L := by rw [h.eq, runs_exp h.1]
def sumR (L : List Rn) : Int := (L.map fun r => r.2.2).sum
theorem exp_len {L : List Rn} (hc : ∀ r ∈ L, okR r) : ((expR L).length : Int) = sumR L := by
  induction L with
  | nil => rfl
  | cons r t ih =>
    have hr : 1 ≤ r.2.2 := (hc r (by simp)).2.2.1
    have := ih fun x hx => hc x (by simp [hx])
    have e : (exp1 r).length = r.2.2.toNat := by unfold exp1; rw [List.length_map, List.length_range]
    have es : sumR (r :: t) = r.2.2 + sumR t := by simp [sumR]
    rw [expR_cons, List.length_append, es, e]
    omega
def insU (l : List Us) (u : Us) : List Us := l.filter (fun x => decide (ltU x u)) ++ u :: l.filter (fun x => !decide (ltU x u))
theorem mem_insU {l : List Us} {u x : Us} : x ∈ insU l u ↔ x = u ∨ x ∈ l := by
  unfold insU
  rw [List.mem_append, List.mem_cons, List.mem_filter, List.mem_filter]
  by_cases h : ltU x u <;> simp [h, or_comm]
theorem ins_srtU {l : List Us} (h : srtU l) {u : Us} (hn : u ∉ l) : srtU (insU l u) := by
  unfold srtU insU
  rw [List.pairwise_append]
  refine ⟨List.Pairwise.filter _ h, ?_, ?_⟩
  · rw [List.pairwise_cons]
    refine ⟨fun x hx => ?_, List.Pairwise.filter _ h⟩
    rw [List.mem_filter] at hx
    exact ltU_tot (by simpa using hx.2) (fun e => hn (by rw [← e]; exact hx.1))
  · intro a ha b hb
    rw [List.mem_filter] at ha
    rcases List.mem_cons.1 hb with rfl | hb
    · simpa using ha.2
    · rw [List.mem_filter] at hb
      exact ltU_trans (by simpa using ha.2) (ltU_tot (by simpa using hb.2) (fun e => hn (by rw [← e]; exact hb.1)))
theorem CI.nil : CI [] [] := ⟨canon_nil, List.Pairwise.nil, fun u => ⟨fun h => absurd h List.not_mem_nil, fun ⟨r, hr, _⟩ => absurd hr List.not_mem_nil⟩⟩
theorem CI.add {L : List Rn} {l : List Us} (h : CI L l) {u : Us} (hu : okU u) (h0 : 0 ≤ u.1) (hn : ¬ memR L u) : CI (addL L u) (insU l u) := by
  obtain ⟨a1, a2⟩ := add_spec h.1 hu h0 hn
  exact ⟨a1, ins_srtU h.2.1 (fun k => hn ((h.2.2 u).1 k)), fun v => by rw [mem_insU, a2 v, h.2.2 v]⟩
theorem CI.len {L : List Rn} {l : List Us} (h : CI L l) : (l.length : Int) = sumR L := by rw [h.eq, exp_len h.1.1]
/-- No more runs than uses. -/
theorem run_few {L : List Rn} (hc : ∀ r ∈ L, okR r) : (L.length : Int) ≤ sumR L := by
  induction L with
  | nil => exact Int.le_refl _
  | cons r t ih =>
    have hr : 1 ≤ r.2.2 := (hc r (by simp)).2.2.1
    have := ih fun x hx => hc x (by simp [hx])
    have es : sumR (r :: t) = r.2.2 + sumR t := by simp [sumR]
    rw [es, List.length_cons]
    omega
end Go.Proofs.Ytldfnfpinemedaa
