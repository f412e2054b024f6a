/- ledger, plainly: uses, runs, what a use that is added makes of them. -/
import Derived.Test.YtldfnfpinemedaaXo
import Derived.Test.YtldfnfpinemedaaC8
namespace Go.Proofs.Ytldfnfpinemedaa
open Go Go.RowKit
set_option linter.unusedSimpArgs false
set_option linter.unusedVariables false
set_option maxRecDepth 4000
abbrev Us := Int × Int
abbrev Rn := Int × Int × Int
def usc (u : Us) : List Value := [.int .u32 u.1, .int .i64 u.2]
def ruc (r : Rn) : List Value := [.int .u32 r.1, .int .i64 r.2.1, .int .i64 r.2.2]
abbrev endR (r : Rn) : Int := r.2.1 + r.2.2
theorem ruc_length (x : Rn) : (ruc x).length = 3 := rfl
theorem ruc_cellv (x : Rn) : (ruc x).all cellv = true := rfl
theorem ruc_hl (l : List Rn) : ∀ x ∈ l, (ruc x).length = 3 := fun x _ => rfl
theorem ruc_take (x : Rn) : List.take 3 (ruc x) = ruc x := rfl
theorem ruc_0 (x : Rn) : (ruc x)[0]? = some (.int .u32 x.1) := rfl
theorem ruc_1 (x : Rn) : (ruc x)[1]? = some (.int .i64 x.2.1) := rfl
theorem ruc_2 (x : Rn) : (ruc x)[2]? = some (.int .i64 x.2.2) := rfl
theorem usc_length (x : Us) : (usc x).length = 2 := rfl
theorem usc_cellv (x : Us) : (usc x).all cellv = true := rfl
theorem usc_hl (l : List Us) : ∀ x ∈ l, (usc x).length = 2 := fun x _ => rfl
theorem usc_take (x : Us) : List.take 2 (usc x) = usc x := rfl
theorem usc_0 (x : Us) : (usc x)[0]? = some (.int .u32 x.1) := rfl
theorem usc_1 (x : Us) : (usc x)[1]? = some (.int .i64 x.2) := rfl
abbrev flR (l : List Rn) : List Value := (l.map ruc).flatten
abbrev flU (l : List Us) : List Value := (l.map usc).flatten
theorem flR_length (l : List Rn) : (flR l).length = l.length * 3 := flatS_length 3 ruc l (ruc_hl l)
theorem flU_length (l : List Us) : (flU l).length = l.length * 2 := flatS_length 2 usc l (usc_hl l)
/-- A new slice lies in a new block, or where the old one lay. -/
def Frm (s w : Value) (H : AH) : Prop := ∀ q o n e, w = .slice (some ⟨q, o, none⟩) n e → H.length ≤ q ∨ ∃ o' n' e', s = .slice (some ⟨q, o', none⟩) n' e'
theorem Frm.new {s : Value} {H : AH} {n e : Nat} : Frm s (.slice (some ⟨H.length, 0, none⟩) n e) H := fun q o n e k => by cases k; exact .inl (Nat.le_refl _)
def ltU (a b : Us) : Prop := a.1 < b.1 ∨ a.1 = b.1 ∧ a.2 < b.2
instance (a b : Us) : Decidable (ltU a b) := inferInstanceAs (Decidable (_ ∨ _))
def okU (u : Us) : Prop := u.1 ≠ 0 ∧ 0 ≤ u.2 ∧ u.2 < 65536
instance (u : Us) : Decidable (okU u) := inferInstanceAs (Decidable (_ ∧ _))
def okR (r : Rn) : Prop := 1 ≤ r.1 ∧ 0 ≤ r.2.1 ∧ 1 ≤ r.2.2 ∧ endR r ≤ 65536
def sepR (a b : Rn) : Prop := a.1 < b.1 ∨ a.1 = b.1 ∧ endR a < b.2.1
def Canon (L : List Rn) : Prop := (∀ r ∈ L, okR r) ∧ L.Pairwise sepR
def inR (r : Rn) (u : Us) : Prop := r.1 = u.1 ∧ r.2.1 ≤ u.2 ∧ u.2 < endR r
instance (r : Rn) (u : Us) : Decidable (inR r u) := inferInstanceAs (Decidable (_ ∧ _))
def memR (L : List Rn) (u : Us) : Prop := ∃ r ∈ L, inR r u
instance (L : List Rn) (u : Us) : Decidable (memR L u) := List.decidableBEx _ _
/-- A run ends before a use. -/
def befR (r : Rn) (u : Us) : Prop := r.1 < u.1 ∨ r.1 = u.1 ∧ endR r ≤ u.2
instance (r : Rn) (u : Us) : Decidable (befR r u) := inferInstanceAs (Decidable (_ ∨ _))
def joinR (a b : Rn) : Prop := a.1 = b.1 ∧ endR a = b.2.1
instance (a b : Rn) : Decidable (joinR a b) := inferInstanceAs (Decidable (_ ∧ _))
/-- Where the first run stands that does not end before a use. -/
def plR (L : List Rn) (u : Us) : Nat := (L.filter fun r => decide (befR r u)).length
theorem plR_le (L : List Rn) (u : Us) : plR L u ≤ L.length := List.length_filter_le _ _
theorem pl_eqR {L : List Rn} {u : Us} {i : Nat} (hi : i ≤ L.length) (hl : ∀ x ∈ L.take i, befR x u) (hh : ∀ x ∈ L.drop i, ¬ befR x u) : plR L u = i := by
  unfold plR
  have e : L = L.take i ++ L.drop i := (List.take_append_drop i L).symm
  rw [e, List.filter_append, List.filter_eq_self.2 (fun x hx => decide_eq_true (hl x hx)), List.filter_eq_nil_iff.2 (fun x hx => by simpa using hh x hx), List.append_nil, List.length_take]
  omega
theorem bef_sep {a b : Rn} {u : Us} (hb : okR b) (h : sepR a b) (k : befR b u) : befR a u := by
  unfold sepR befR okR endR at *; omega
theorem mem_takeR {L : List Rn} {i : Nat} {x : Rn} (h : x ∈ L.take i) : ∃ j, ∃ hj : j < L.length, j < i ∧ L[j] = x := by
  obtain ⟨j, hj, e⟩ := List.getElem_of_mem h
  rw [List.length_take] at hj
  rw [List.getElem_take] at e
  exact ⟨j, by omega, by omega, e⟩
theorem mem_dropR {L : List Rn} {i : Nat} {x : Rn} (h : x ∈ L.drop i) : ∃ j, ∃ hj : j < L.length, i ≤ j ∧ L[j] = x := by
  obtain ⟨j, hj, e⟩ := List.getElem_of_mem h
  rw [List.length_drop] at hj
  rw [List.getElem_drop] at e
  exact ⟨i + j, by omega, by omega, e⟩
theorem bef_take {L : List Rn} (hc : Canon L) {u : Us} {h : Nat} (hh : h < L.length) (k : befR L[h] u) : ∀ x ∈ L.take (h + 1), befR x u := by
  intro x hx
  obtain ⟨j, hj, hjh, rfl⟩ := mem_takeR hx
  rcases Nat.lt_or_ge j h with h1 | h1
  · exact bef_sep (hc.1 _ (List.getElem_mem hh)) ((List.pairwise_iff_getElem.1 hc.2) j h hj hh h1) k
  · obtain rfl : j = h := by omega
    exact k
theorem nbef_drop {L : List Rn} (hc : Canon L) {u : Us} {h : Nat} (hh : h < L.length) (k : ¬ befR L[h] u) : ∀ x ∈ L.drop h, ¬ befR x u := by
  intro x hx
  obtain ⟨j, hj, hjh, rfl⟩ := mem_dropR hx
  rcases Nat.lt_or_ge h j with h1 | h1
  · exact fun h2 => k (bef_sep (hc.1 _ (List.getElem_mem hj)) ((List.pairwise_iff_getElem.1 hc.2) h j hh hj h1) h2)
  · obtain rfl : j = h := by omega
    exact k
theorem low_plR : ∀ {L : List Rn} (hc : Canon L) (u : Us), (∀ x ∈ L.take (plR L u), befR x u) ∧ (∀ x ∈ L.drop (plR L u), ¬ befR x u)
  | [], _, u => ⟨fun x hx => by simp at hx, fun x hx => by simp at hx⟩
  | a :: r, hc, u => by
    obtain ⟨h1, h2⟩ := List.pairwise_cons.1 hc.2
    have hcr : Canon r := ⟨fun x hx => hc.1 x (List.mem_cons_of_mem _ hx), h2⟩
    by_cases hk : befR a u
    · obtain ⟨i1, i2⟩ := low_plR (L := r) hcr u
      have hp : plR (a :: r) u = plR r u + 1 := by unfold plR; rw [List.filter_cons_of_pos (p := fun r => decide (befR r u)) (decide_eq_true hk)]; rfl
      rw [hp, List.take_succ_cons, List.drop_succ_cons]
      refine ⟨fun x hx => ?_, i2⟩
      rcases List.mem_cons.1 hx with rfl | hx
      · exact hk
      · exact i1 x hx
    · have hr : ∀ x ∈ r, ¬ befR x u := fun x hx h => hk (bef_sep (hcr.1 x hx) (h1 x hx) h)
      have hp : plR (a :: r) u = 0 := by
        unfold plR
        rw [List.filter_cons_of_neg (by simpa using hk), List.filter_eq_nil_iff.2 (fun x hx => by simpa using hr x hx)]
        rfl
      rw [hp, List.take_zero, List.drop_zero]
      refine ⟨fun x hx => (by cases hx), fun x hx => ?_⟩
      rcases List.mem_cons.1 hx with rfl | hx
      · exact hk
      · exact hr x hx
/-- A use is there just if the run at its place has it. -/
theorem mem_at {L : List Rn} (hc : Canon L) (u : Us) : memR L u ↔ ∃ h : plR L u < L.length, L[plR L u].1 = u.1 ∧ L[plR L u].2.1 ≤ u.2 := by
  obtain ⟨h1, h2⟩ := low_plR hc u
  constructor
  · rintro ⟨r, hr, k⟩
    obtain ⟨j, hj, rfl⟩ := List.getElem_of_mem hr
    have hij : plR L u ≤ j := by
      rcases Nat.lt_or_ge j (plR L u) with h | h
      · have := h1 L[j] (by rw [List.mem_take_iff_getElem]; exact ⟨j, by omega, rfl⟩)
        unfold inR at k; unfold befR at this; unfold endR at *; omega
      · exact h
    have hi : plR L u < L.length := by omega
    refine ⟨hi, ?_⟩
    have hn := h2 L[plR L u] (by rw [List.mem_drop_iff_getElem]; exact ⟨0, by omega, by simp⟩)
    rcases Nat.lt_or_ge (plR L u) j with h | h
    · have h3 := (List.pairwise_iff_getElem.1 hc.2) _ j hi hj h
      exfalso; apply hn
      unfold inR at k; unfold sepR at h3; unfold befR; unfold endR at *
      have := (hc.1 _ (List.getElem_mem hj)).2.2.1
      omega
    · obtain rfl : plR L u = j := by omega
      exact ⟨k.1, k.2.1⟩
  · rintro ⟨hi, k1, k2⟩
    refine ⟨_, List.getElem_mem hi, k1, k2, ?_⟩
    have hn := h2 L[plR L u] (by rw [List.mem_drop_iff_getElem]; exact ⟨0, by omega, by simp⟩)
    unfold befR at hn; omega
/-- What adding makes: a run of one at the place; joined with the next one; joined with the last one. -/
def x1R (u : Us) : Rn := (u.1, u.2, 1)
def hiM (u : Us) : List Rn → Rn × List Rn
  | r :: t => if joinR (x1R u) r then ((u.1, u.2, 1 + r.2.2), t) else (x1R u, r :: t)
  | [] => (x1R u, [])
def loM (x : Rn) (A : List Rn) : List Rn × Rn :=
  match A.getLast? with
  | some p => if joinR p x then (A.dropLast, (p.1, p.2.1, p.2.2 + x.2.2)) else (A, x)
  | none => (A, x)
def addL (L : List Rn) (u : Us) : List Rn := (loM (hiM u (L.drop (plR L u))).1 (L.take (plR L u))).1 ++ (loM (hiM u (L.drop (plR L u))).1 (L.take (plR L u))).2 :: (hiM u (L.drop (plR L u))).2
def aftR (r : Rn) (u : Us) : Prop := u.1 < r.1 ∨ u.1 = r.1 ∧ u.2 < r.2.1
theorem sep_trans {a b c : Rn} (hb : okR b) (h : sepR a b) (k : sepR b c) : sepR a c := by
  unfold sepR okR endR at *; omega
theorem canon_nil : Canon [] := ⟨fun x hx => absurd hx List.not_mem_nil, List.Pairwise.nil⟩
theorem canon_cons {a : Rn} {L : List Rn} : Canon (a :: L) ↔ okR a ∧ (∀ b ∈ L, sepR a b) ∧ Canon L := by
  unfold Canon
  rw [List.pairwise_cons]
  constructor
  · rintro ⟨h1, h2, h3⟩
    exact ⟨h1 a List.mem_cons_self, h2, fun x hx => h1 x (List.mem_cons_of_mem _ hx), h3⟩
  · rintro ⟨h1, h2, h3, h4⟩
    refine ⟨fun x hx => ?_, h2, h4⟩
    rcases List.mem_cons.1 hx with rfl | hx
    · exact h1
    · exact h3 x hx
theorem canon_mid {A B : List Rn} {x : Rn} (hA : Canon A) (hB : Canon B) (hx : okR x) (h1 : ∀ a ∈ A, sepR a x) (h2 : ∀ b ∈ B, sepR x b) : Canon (A ++ x :: B) := by
  refine ⟨fun y hy => ?_, ?_⟩
  · rcases List.mem_append.1 hy with hy | hy
    · exact hA.1 y hy
    · rcases List.mem_cons.1 hy with rfl | hy
      · exact hx
      · exact hB.1 y hy
  · rw [List.pairwise_append]
    refine ⟨hA.2, List.pairwise_cons.2 ⟨h2, hB.2⟩, fun a ha b hb => ?_⟩
    rcases List.mem_cons.1 hb with rfl | hb
    · exact h1 a ha
    · exact sep_trans hx (h1 a ha) (h2 b hb)
theorem memR_cons {r : Rn} {L : List Rn} {v : Us} : memR (r :: L) v ↔ inR r v ∨ memR L v := by
  unfold memR
  constructor
  · rintro ⟨x, hx, k⟩
    rcases List.mem_cons.1 hx with rfl | hx
    · exact .inl k
    · exact .inr ⟨x, hx, k⟩
  · rintro (k | ⟨x, hx, k⟩)
    · exact ⟨r, List.mem_cons_self, k⟩
    · exact ⟨x, List.mem_cons_of_mem _ hx, k⟩
theorem memR_append {A B : List Rn} {v : Us} : memR (A ++ B) v ↔ memR A v ∨ memR B v := by
  unfold memR
  constructor
  · rintro ⟨x, hx, k⟩
    rcases List.mem_append.1 hx with hx | hx
    · exact .inl ⟨x, hx, k⟩
    · exact .inr ⟨x, hx, k⟩
  · rintro (⟨x, hx, k⟩ | ⟨x, hx, k⟩)
    · exact ⟨x, List.mem_append_left _ hx, k⟩
    · exact ⟨x, List.mem_append_right _ hx, k⟩
theorem in_x1 {u v : Us} : inR (x1R u) v ↔ v = u := by
  obtain ⟨a, b⟩ := u
  obtain ⟨c, d⟩ := v
  unfold inR x1R endR
  simp only [Prod.mk.injEq]
  omega
theorem hi_spec {u : Us} {B : List Rn} (hB : Canon B) (hu : okU u) (h0 : 0 ≤ u.1) (ha : ∀ b ∈ B, aftR b u) :
    okR (hiM u B).1 ∧ (hiM u B).1.1 = u.1 ∧ (hiM u B).1.2.1 = u.2 ∧ Canon (hiM u B).2 ∧ (∀ b ∈ (hiM u B).2, sepR (hiM u B).1 b) ∧ ∀ v, inR (hiM u B).1 v ∨ memR (hiM u B).2 v ↔ v = u ∨ memR B v := by
  have hu' : u.1 ≠ 0 ∧ 0 ≤ u.2 ∧ u.2 < 65536 := hu
  have hx : okR (x1R u) := by
    show 1 ≤ u.1 ∧ 0 ≤ u.2 ∧ (1 : Int) ≤ 1 ∧ u.2 + 1 ≤ 65536
    omega
  match B, hB, ha with
  | [], _, _ => exact ⟨hx, rfl, rfl, canon_nil, fun b hb => absurd hb List.not_mem_nil, fun v => or_congr in_x1 Iff.rfl⟩
  | r :: t, hB, ha =>
    obtain ⟨c1, c2, c3⟩ := canon_cons.1 hB
    have c1' : 1 ≤ r.1 ∧ 0 ≤ r.2.1 ∧ 1 ≤ r.2.2 ∧ r.2.1 + r.2.2 ≤ 65536 := c1
    have har : u.1 < r.1 ∨ u.1 = r.1 ∧ u.2 < r.2.1 := ha r List.mem_cons_self
    by_cases hj : joinR (x1R u) r
    · have e : hiM u (r :: t) = ((u.1, u.2, 1 + r.2.2), t) := if_pos hj
      have hj' : u.1 = r.1 ∧ u.2 + 1 = r.2.1 := hj
      rw [e]
      refine ⟨?_, rfl, rfl, c3, fun b hb => ?_, fun v => ?_⟩
      · show 1 ≤ u.1 ∧ 0 ≤ u.2 ∧ 1 ≤ 1 + r.2.2 ∧ u.2 + (1 + r.2.2) ≤ 65536
        omega
      · have k : r.1 < b.1 ∨ r.1 = b.1 ∧ r.2.1 + r.2.2 < b.2.1 := c2 b hb
        show u.1 < b.1 ∨ u.1 = b.1 ∧ u.2 + (1 + r.2.2) < b.2.1
        omega
      · rw [memR_cons]
        have hv : inR (u.1, u.2, 1 + r.2.2) v ↔ v = u ∨ inR r v := by
          rw [← in_x1]
          show (u.1 = v.1 ∧ u.2 ≤ v.2 ∧ v.2 < u.2 + (1 + r.2.2)) ↔ (u.1 = v.1 ∧ u.2 ≤ v.2 ∧ v.2 < u.2 + 1) ∨ (r.1 = v.1 ∧ r.2.1 ≤ v.2 ∧ v.2 < r.2.1 + r.2.2)
          omega
        show inR (u.1, u.2, 1 + r.2.2) v ∨ memR t v ↔ _
        rw [hv, or_assoc]
    · have e : hiM u (r :: t) = (x1R u, r :: t) := if_neg hj
      have hj' : ¬ (u.1 = r.1 ∧ u.2 + 1 = r.2.1) := hj
      rw [e]
      have hs : sepR (x1R u) r := by
        show u.1 < r.1 ∨ u.1 = r.1 ∧ u.2 + 1 < r.2.1
        omega
      refine ⟨hx, rfl, rfl, hB, fun b hb => ?_, fun v => or_congr in_x1 Iff.rfl⟩
      rcases List.mem_cons.1 hb with rfl | hb
      · exact hs
      · exact sep_trans c1 hs (c2 b hb)
theorem lo_spec {u : Us} {x : Rn} {A : List Rn} (hA : Canon A) (hx : okR x) (hx1 : x.1 = u.1) (hx2 : x.2.1 = u.2) (hb : ∀ a ∈ A, befR a u) :
    okR (loM x A).2 ∧ Canon (loM x A).1 ∧ (∀ a ∈ (loM x A).1, sepR a (loM x A).2) ∧ (∀ b, sepR x b → sepR (loM x A).2 b) ∧ ∀ v, memR (loM x A).1 v ∨ inR (loM x A).2 v ↔ memR A v ∨ inR x v := by
  rcases List.eq_nil_or_concat A with rfl | ⟨A', p, rfl⟩
  · exact ⟨hx, canon_nil, fun a ha => absurd ha List.not_mem_nil, fun b h => h, fun v => Iff.rfl⟩
  · rw [List.concat_eq_append] at *
    have hp := hA.1 p (by simp)
    have hp' : 1 ≤ p.1 ∧ 0 ≤ p.2.1 ∧ 1 ≤ p.2.2 ∧ p.2.1 + p.2.2 ≤ 65536 := hp
    have hx' : 1 ≤ x.1 ∧ 0 ≤ x.2.1 ∧ 1 ≤ x.2.2 ∧ x.2.1 + x.2.2 ≤ 65536 := hx
    have hbp : p.1 < u.1 ∨ p.1 = u.1 ∧ p.2.1 + p.2.2 ≤ u.2 := hb p (by simp)
    have hpw := List.pairwise_append.1 hA.2
    have hA' : Canon A' := ⟨fun y hy => hA.1 y (by simp [hy]), hpw.1⟩
    have hsp : ∀ a ∈ A', sepR a p := fun a ha => hpw.2.2 a ha p (by simp)
    have hgl : (A' ++ [p]).getLast? = some p := by simp
    have hdl : (A' ++ [p]).dropLast = A' := by simp
    by_cases hj : joinR p x
    · have e : loM x (A' ++ [p]) = (A', (p.1, p.2.1, p.2.2 + x.2.2)) := by
        unfold loM; rw [hgl]; simp only [if_pos hj, hdl]
      have hj' : p.1 = x.1 ∧ p.2.1 + p.2.2 = x.2.1 := hj
      rw [e]
      refine ⟨?_, hA', fun a ha => ?_, fun b h => ?_, fun v => ?_⟩
      · show 1 ≤ p.1 ∧ 0 ≤ p.2.1 ∧ 1 ≤ p.2.2 + x.2.2 ∧ p.2.1 + (p.2.2 + x.2.2) ≤ 65536
        omega
      · exact hsp a ha
      · have h' : x.1 < b.1 ∨ x.1 = b.1 ∧ x.2.1 + x.2.2 < b.2.1 := h
        show p.1 < b.1 ∨ p.1 = b.1 ∧ p.2.1 + (p.2.2 + x.2.2) < b.2.1
        omega
      · rw [memR_append, or_assoc]
        have h0 : memR [p] v ↔ inR p v := ⟨fun ⟨y, hy, k⟩ => by rwa [List.mem_singleton.1 hy] at k, fun k => ⟨p, List.mem_singleton.2 rfl, k⟩⟩
        have hv : inR (p.1, p.2.1, p.2.2 + x.2.2) v ↔ memR [p] v ∨ inR x v := by
          rw [h0]
          show (p.1 = v.1 ∧ p.2.1 ≤ v.2 ∧ v.2 < p.2.1 + (p.2.2 + x.2.2)) ↔ (p.1 = v.1 ∧ p.2.1 ≤ v.2 ∧ v.2 < p.2.1 + p.2.2) ∨ (x.1 = v.1 ∧ x.2.1 ≤ v.2 ∧ v.2 < x.2.1 + x.2.2)
          omega
        show memR A' v ∨ inR (p.1, p.2.1, p.2.2 + x.2.2) v ↔ _
        rw [hv]
    · have e : loM x (A' ++ [p]) = (A' ++ [p], x) := by
        unfold loM; rw [hgl]; simp only [if_neg hj]
      have hj' : ¬ (p.1 = x.1 ∧ p.2.1 + p.2.2 = x.2.1) := hj
      rw [e]
      have hsx : sepR p x := by
        show p.1 < x.1 ∨ p.1 = x.1 ∧ p.2.1 + p.2.2 < x.2.1
        omega
      refine ⟨hx, hA, fun a ha => ?_, fun b h => h, fun v => Iff.rfl⟩
      rcases List.mem_append.1 ha with ha | ha
      · exact sep_trans hp (hsp a ha) hsx
      · rw [List.mem_singleton.1 ha]; exact hsx
theorem add_spec {L : List Rn} (hc : Canon L) {u : Us} (hu : okU u) (h0 : 0 ≤ u.1) (hn : ¬ memR L u) : Canon (addL L u) ∧ ∀ v, memR (addL L u) v ↔ v = u ∨ memR L v := by
  obtain ⟨h1, h2⟩ := low_plR hc u
  have e : L = L.take (plR L u) ++ L.drop (plR L u) := (List.take_append_drop _ L).symm
  have hA : Canon (L.take (plR L u)) := ⟨fun y hy => hc.1 y (List.mem_of_mem_take hy), List.Pairwise.sublist (List.take_sublist _ _) hc.2⟩
  have hB : Canon (L.drop (plR L u)) := ⟨fun y hy => hc.1 y (List.mem_of_mem_drop hy), List.Pairwise.sublist (List.drop_sublist _ _) hc.2⟩
  have haft : ∀ b ∈ L.drop (plR L u), aftR b u := fun b hb => by
    have k1 := h2 b hb
    have k2 : ¬ inR b u := fun k => hn ⟨b, List.mem_of_mem_drop hb, k⟩
    have k3 := hB.1 b hb
    unfold befR inR okR aftR endR at *; omega
  have hm : ∀ v, memR L v ↔ memR (L.take (plR L u)) v ∨ memR (L.drop (plR L u)) v := fun v => by rw [← memR_append, ← e]
  unfold addL
  generalize L.take (plR L u) = A at *
  generalize L.drop (plR L u) = B at *
  obtain ⟨a1, a2, a3, a4, a5, a6⟩ := hi_spec hB hu h0 haft
  generalize (hiM u B).1 = x at *
  generalize (hiM u B).2 = B' at *
  obtain ⟨b1, b2, b3, b4, b5⟩ := lo_spec hA a1 a2 a3 h1
  refine ⟨canon_mid b2 a4 b1 b3 (fun b hb => b4 b (a5 b hb)), fun v => ?_⟩
  rw [memR_append, memR_cons, ← or_assoc, b5 v, or_assoc, a6 v, hm v]
  constructor
  · rintro (h | h | h)
    · exact .inr (.inl h)
    · exact .inl h
    · exact .inr (.inr h)
  · rintro (h | h | h)
    · exact .inr (.inl h)
    · exact .inl h
    · exact .inr (.inr h)
end Go.Proofs.Ytldfnfpinemedaa
