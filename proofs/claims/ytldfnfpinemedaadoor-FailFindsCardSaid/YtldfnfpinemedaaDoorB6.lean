/- Words of the proofs: a region that draws its order: one law for all orders. Words of the proofs: a region that draws its order, run in one canonical order: right for every order. Words of the proofs: the law of regions that draw their order. -/
import Derived.Test.YtldfnfpinemedaaDoorB3

namespace Go.Proofs.YtldfnfpinemedaaDoor
open Go
set_option linter.unusedSimpArgs false
set_option linter.unusedVariables false

/-! ### what waits for what -/
inductive Before (ops : Array Oper) : Nat → Nat → Prop
  | edge {j : Nat} {o : Oper} {e : Edge} (ho : ops[j]? = some o) (he : e ∈ o.after) (hb : Region.binds .any e = true) : Before ops e.on j
  | trans {i j : Nat} {o : Oper} {e : Edge} (ho : ops[j]? = some o) (he : e ∈ o.after) (hb : Region.binds .any e = true) (h : Before ops i e.on) : Before ops i j

def befRow (acc : Array Nat) (o : Oper) : Nat := o.after.toList.foldl (fun s e => if Region.binds .any e then s ||| 2 ^ e.on ||| acc.getD e.on 0 else s) 0
def befL : List Oper → Array Nat → Array Nat
  | [], acc => acc
  | o :: r, acc => befL r (acc.push (befRow acc o))
theorem befRow_spec (acc : Array Nat) (i : Nat) : ∀ (es : List Edge) (s : Nat), (es.foldl (fun s e => if Region.binds .any e then s ||| 2 ^ e.on ||| acc.getD e.on 0 else s) s).testBit i = true →
    s.testBit i = true ∨ ∃ e ∈ es, Region.binds .any e = true ∧ (e.on = i ∨ (acc.getD e.on 0).testBit i = true)
  | [], s, h => .inl h
  | e :: es, s, h => by
    rw [List.foldl_cons] at h
    rcases befRow_spec acc i es _ h with h | ⟨x, hx, hb, hh⟩
    · split at h
      · rename_i hb
        rw [Nat.testBit_or, Nat.testBit_or, Bool.or_eq_true, Bool.or_eq_true] at h
        rcases h with (h | h) | h
        · exact .inl h
        · refine .inr ⟨e, by simp, hb, .inl ?_⟩
          rw [Nat.testBit_two_pow] at h
          simpa using h
        · exact .inr ⟨e, by simp, hb, .inr h⟩
      · exact .inl h
    · exact .inr ⟨x, by simp [hx], hb, hh⟩
theorem befL_spec {ops : Array Oper} : ∀ (l : List Oper) (acc : Array Nat), (∀ k, l[k]? = ops[acc.size + k]?) → (∀ k i, k < acc.size → (acc.getD k 0).testBit i = true → Before ops i k) → ∀ k i, ((befL l acc).getD k 0).testBit i = true → k < (befL l acc).size → Before ops i k
  | [], acc, _, h, k, i, hb, hk => h k i hk hb
  | o :: r, acc, hl, h, k, i, hb, hk => by
    refine befL_spec r (acc.push (befRow acc o)) (fun j => ?_) (fun j i hj hb => ?_) k i hb hk
    · have := hl (j + 1)
      simp only [Array.size_push]
      rw [show acc.size + 1 + j = acc.size + (j + 1) by omega, ← this]; rfl
    · by_cases hj' : j < acc.size
      · have e : (acc.push (befRow acc o)).getD j 0 = acc.getD j 0 := by
          simp only [Array.getD_eq_getD_getElem?, Array.getElem?_push, if_neg (Nat.ne_of_lt hj')]
        rw [e] at hb
        exact h j i hj' hb
      · have hjs : j = acc.size := by simp at hj; omega
        subst hjs
        have e : (acc.push (befRow acc o)).getD acc.size 0 = befRow acc o := by simp
        rw [e] at hb
        have ho : ops[acc.size]? = some o := by have := hl 0; simpa using this.symm
        rcases befRow_spec acc i _ _ hb with hz | ⟨x, hx, hbx, hh⟩
        · simp at hz
        · rcases hh with rfl | hh
          · exact .edge ho (by simpa using hx) hbx
          · by_cases hxs : x.on < acc.size
            · exact .trans ho (by simpa using hx) hbx (h x.on i hxs hh)
            · simp [Array.getElem?_eq_none (Nat.not_lt.1 hxs)] at hh
def befs (ops : Array Oper) : Array Nat := befL ops.toList #[]
def bfr (bs : Array Nat) (i j : Nat) : Bool := decide (j < bs.size) && (bs.getD j 0).testBit i
theorem bfr_spec {ops : Array Oper} {i j : Nat} (h : bfr (befs ops) i j = true) : Before ops i j := by
  unfold bfr at h
  rw [Bool.and_eq_true, decide_eq_true_eq] at h
  exact befL_spec ops.toList #[] (fun k => by simp) (fun k i hk => by simp at hk) j i h.2 h.1

def readsMem (op : Op) : Bool := match op with | .load .. | .convert .. => true | _ => false
/-- l: the canonical order; beside a heavy operation the reads ahead of it that do not wait with it. -/
def chkLin (ops : Array Oper) : List Nat → Nat → Bool
  | [], _ => true
  | i :: B, done => (!done.testBit i && (match ops[i]? with | some o => o.after.all (fun e => !Region.binds .any e || (decide (e.on < ops.size) && done.testBit e.on)) | none => false)) && chkLin ops B (done ||| 2 ^ i)
def chkHv (ops : Array Oper) (bs : Array Nat) : List Nat → Bool
  | [] => true
  | i :: B => (match ops[i]? with | some o => Qi o.op || B.all (fun j => bfr bs i j) | none => false) && chkHv ops bs B
def chkHeld (ops : Array Oper) (bs : Array Nat) : List Nat → List (Nat × List Nat) → Bool
  | _, [] => true
  | A, (i, hl) :: B => (match ops[i]? with | some o => Qi o.op || A.all (fun j => bfr bs j i || hl.contains j || (match ops[j]? with | some oj => !readsMem oj.op | none => true)) | none => false) && chkHeld ops bs (i :: A) B
def chkDst (ops : Array Oper) : List Oper → Bool
  | [] => true
  | o :: r => (match o.dst with | none => true | some d => r.all (fun x => x.dst != some d)) && chkDst ops r
def chkRd (ops : Array Oper) (bs : Array Nat) (l : List Nat) : Bool :=
  (List.range ops.size).all fun i => (match ops[i]? with
    | some oi => (Oper.looksAt ops oi).all (fun s => (List.range ops.size).all (fun j => (match ops[j]? with
      | some oj => oj.dst != some s || (decide (j ≠ i) && (bfr bs j i || (l.dropWhile (fun k => k != j)).all (fun k => bfr bs i k)))
      | none => true)))
    | none => true)
def regOk (n : Nat) (ops : Array Oper) (l : List (Nat × List Nat)) : Bool :=
  let bs := befs ops
  decide (l.length = ops.size) && (List.range ops.size).all (fun i => (l.map (·.1)).contains i) && chkLin ops (l.map (·.1)) 0 && chkHv ops bs (l.map (·.1)) && chkHeld ops bs [] l && chkDst ops ops.toList && chkRd ops bs (l.map (·.1)) && opsOk n ops

structure RS (n : Nat) (ops : Array Oper) (l : List (Nat × List Nat)) : Prop where
  perm : ∀ i, i < ops.size → i ∈ l.map (·.1)
  nodup : (l.map (·.1)).Nodup
  rng : ∀ i ∈ l.map (·.1), i < ops.size
  lin : ∀ A (i : Nat) B, l.map (·.1) = A ++ i :: B → ∀ o, ops[i]? = some o → ∀ e ∈ o.after, Region.binds .any e = true → e.on ∈ A
  hv : ∀ A (i : Nat) B, l.map (·.1) = A ++ i :: B → ∀ o, ops[i]? = some o → Qi o.op = false → ∀ j ∈ B, Before ops i j
  held : ∀ A (i : Nat) hl B, l = A ++ (i, hl) :: B → ∀ o, ops[i]? = some o → Qi o.op = false → ∀ j ∈ A.map (·.1), Before ops j i ∨ j ∈ hl ∨ ∀ (oj : Oper), ops[j]? = some oj → readsMem oj.op = false
  dst : ∀ (i j : Nat) (oi oj : Oper) d, ops[i]? = some oi → ops[j]? = some oj → oi.dst = some d → oj.dst = some d → i = j
  rd : ∀ (i j : Nat) (oi oj : Oper) s, ops[i]? = some oi → s ∈ Oper.looksAt ops oi → ops[j]? = some oj → oj.dst = some s → j ≠ i ∧ (Before ops j i ∨ ∀ A B, l.map (·.1) = A ++ j :: B → ∀ k ∈ j :: B, Before ops i k)
  ok : ∀ (i : Nat) (o : Oper), ops[i]? = some o → (∀ x ∈ o.op.operands, operandOk x = true) ∧ dstOk n o.dst = true

theorem chkLin_spec {ops : Array Oper} : ∀ (l : List Nat) (done : Nat) (D : List Nat), (∀ i, done.testBit i = true → i ∈ D) → chkLin ops l done = true → ∀ A i B, l = A ++ i :: B → ∀ o, ops[i]? = some o → ∀ e ∈ o.after, Region.binds .any e = true → e.on ∈ A ∨ e.on ∈ D
  | [], done, D, _, _, A, i, B, hl => by simp at hl
  | x :: r, done, D, hD, h, A, i, B, hl => by
    intro o ho e he hb
    simp only [chkLin, Bool.and_eq_true] at h
    obtain ⟨⟨_, h1⟩, h2⟩ := h
    cases A with
    | nil =>
      simp only [List.nil_append, List.cons.injEq] at hl
      obtain ⟨rfl, rfl⟩ := hl
      rw [ho] at h1
      have := Array.all_eq_true_iff_forall_mem.1 h1 e he
      simp only [hb, Bool.not_true, Bool.false_or, Bool.and_eq_true] at this
      exact .inr (hD _ this.2)
    | cons a A =>
      simp only [List.cons_append, List.cons.injEq] at hl
      obtain ⟨rfl, rfl⟩ := hl
      rcases chkLin_spec _ (done ||| 2 ^ x) (x :: D) (fun i hi => by
        rw [Nat.testBit_or, Bool.or_eq_true] at hi
        rcases hi with hi | hi
        · exact List.mem_cons_of_mem _ (hD i hi)
        · rw [Nat.testBit_two_pow] at hi
          simp at hi; simp [hi]) h2 A i B rfl o ho e he hb with h | h
      · exact .inl (List.mem_cons_of_mem _ h)
      · rcases List.mem_cons.1 h with h | h
        · exact .inl (by rw [h]; simp)
        · exact .inr h
theorem chkLin_nodup {ops : Array Oper} : ∀ (l : List Nat) (done : Nat), chkLin ops l done = true → l.Nodup ∧ (∀ i ∈ l, done.testBit i = false) ∧ ∀ i ∈ l, i < ops.size
  | [], _, _ => by simp
  | x :: r, done, h => by
    simp only [chkLin, Bool.and_eq_true, Bool.not_eq_true'] at h
    obtain ⟨⟨h0, h1⟩, h2⟩ := h
    obtain ⟨k1, k2, k3⟩ := chkLin_nodup r _ h2
    have hx : x < ops.size := by
      cases ho : ops[x]? with
      | none => rw [ho] at h1; cases h1
      | some o => exact (Array.getElem?_eq_some_iff.1 ho).1
    refine ⟨List.nodup_cons.2 ⟨fun hm => ?_, k1⟩, fun i hi => ?_, fun i hi => ?_⟩
    · have := k2 x hm
      rw [Nat.testBit_or, Nat.testBit_two_pow_self] at this
      simp at this
    · rcases List.mem_cons.1 hi with rfl | hi
      · exact h0
      · have := k2 i hi
        rw [Nat.testBit_or, Bool.or_eq_false_iff] at this
        exact this.1
    · rcases List.mem_cons.1 hi with rfl | hi
      · exact hx
      · exact k3 i hi
theorem chkHv_spec {ops : Array Oper} : ∀ (l : List Nat), chkHv ops (befs ops) l = true → ∀ A i B, l = A ++ i :: B → ∀ o, ops[i]? = some o → Qi o.op = false → ∀ j ∈ B, Before ops i j
  | [], _, A, i, B, hl => by simp at hl
  | x :: r, h, A, i, B, hl => by
    intro o ho hlt j hj
    simp only [chkHv, Bool.and_eq_true] at h
    cases A with
    | nil =>
      simp only [List.nil_append, List.cons.injEq] at hl
      obtain ⟨rfl, rfl⟩ := hl
      have h1 := h.1
      rw [ho] at h1
      simp only [hlt, Bool.false_or] at h1
      exact bfr_spec (List.all_eq_true.1 h1 j hj)
    | cons a A =>
      simp only [List.cons_append, List.cons.injEq] at hl
      obtain ⟨rfl, rfl⟩ := hl
      exact chkHv_spec _ h.2 A i B rfl o ho hlt j hj
theorem chkHeld_spec {ops : Array Oper} : ∀ (l : List (Nat × List Nat)) (D : List Nat), chkHeld ops (befs ops) D l = true → ∀ A i hl B, l = A ++ (i, hl) :: B → ∀ o, ops[i]? = some o → Qi o.op = false →
    ∀ j, j ∈ A.map (·.1) ∨ j ∈ D → Before ops j i ∨ j ∈ hl ∨ ∀ oj, ops[j]? = some oj → readsMem oj.op = false
  | [], D, _, A, i, hl, B, he => by simp at he
  | (x, xl) :: r, D, h, A, i, hl, B, he => by
    intro o ho hlt j hj
    simp only [chkHeld, Bool.and_eq_true] at h
    cases A with
    | nil =>
      simp only [List.nil_append, List.cons.injEq, Prod.mk.injEq] at he
      obtain ⟨⟨rfl, rfl⟩, rfl⟩ := he
      have h1 := h.1
      rw [ho] at h1
      simp only [hlt, Bool.false_or] at h1
      have hjD : j ∈ D := by simpa using hj
      have := List.all_eq_true.1 h1 j hjD
      simp only [Bool.or_eq_true] at this
      rcases this with (h | h) | h
      · exact .inl (bfr_spec h)
      · exact .inr (.inl (by simpa using h))
      · refine .inr (.inr fun oj hoj => ?_)
        rw [hoj] at h
        simpa using h
    | cons a A =>
      simp only [List.cons_append, List.cons.injEq] at he
      obtain ⟨rfl, rfl⟩ := he
      refine chkHeld_spec _ (x :: D) h.2 A i hl B rfl o ho hlt j ?_
      simp only [List.map_cons, List.mem_cons] at hj ⊢
      rcases hj with (h | h) | h
      · exact .inr (.inl h)
      · exact .inl h
      · exact .inr (.inr h)
theorem chkDst_spec {ops : Array Oper} : ∀ (l : List Oper), chkDst ops l = true → ∀ (i j : Nat) (oi oj : Oper) d, l[i]? = some oi → l[j]? = some oj → oi.dst = some d → oj.dst = some d → i = j
  | [], _, i, j, oi, oj, d, h1, _, _, _ => by simp at h1
  | x :: r, h, i, j, oi, oj, d, h1, h2, h3, h4 => by
    simp only [chkDst, Bool.and_eq_true] at h
    have key : ∀ (k : Nat) (ok : Oper), r[k]? = some ok → x.dst = some d → ok.dst = some d → False := by
      intro k ok hk hx hok
      have h1 := h.1
      rw [hx] at h1
      have := List.all_eq_true.1 h1 ok (List.mem_iff_getElem?.2 ⟨k, hk⟩)
      simp [hok] at this
    cases i with
    | zero =>
      cases j with
      | zero => rfl
      | succ j => simp at h1 h2; subst h1; exact (key j oj h2 h3 h4).elim
    | succ i =>
      cases j with
      | zero => simp at h1 h2; subst h2; exact (key i oi h1 h4 h3).elim
      | succ j => simp at h1 h2; rw [chkDst_spec r h.2 i j oi oj d h1 h2 h3 h4]
theorem dropWhile_to {j : Nat} : ∀ (A B : List Nat), j ∉ A → (A ++ j :: B).dropWhile (fun k => k != j) = j :: B
  | [], B, _ => by simp [List.dropWhile_cons]
  | a :: A, B, h => by
    have ha : a ≠ j := fun e => h (by simp [e])
    rw [List.cons_append, List.dropWhile_cons, if_pos (by simpa using ha)]
    exact dropWhile_to A B (fun hm => h (by simp [hm]))
theorem split_uniq {j : Nat} : ∀ (P Q A B : List Nat), (P ++ j :: Q).Nodup → P ++ j :: Q = A ++ j :: B → Q = B
  | [], Q, [], B, _, e => by simpa using e
  | [], Q, a :: A, B, h, e => by
    simp only [List.nil_append, List.cons_append, List.cons.injEq] at e
    obtain ⟨rfl, rfl⟩ := e
    simp at h
  | p :: P, Q, [], B, h, e => by
    simp only [List.nil_append, List.cons_append, List.cons.injEq] at e
    obtain ⟨rfl, rfl⟩ := e
    simp at h
  | p :: P, Q, a :: A, B, h, e => by
    simp only [List.cons_append, List.cons.injEq] at e
    exact split_uniq P Q A B (by simp only [List.cons_append, List.nodup_cons] at h; exact h.2) e.2
theorem regOk_spec {n : Nat} {ops : Array Oper} {l : List (Nat × List Nat)} (h : regOk n ops l = true) : RS n ops l := by
  simp only [regOk, Bool.and_eq_true, decide_eq_true_eq] at h
  obtain ⟨⟨⟨⟨⟨⟨⟨h1, h2⟩, h3⟩, h4⟩, h5⟩, h6⟩, h7⟩, h8⟩ := h
  have perm : ∀ i, i < ops.size → i ∈ l.map (·.1) := fun i hi => by
    have := List.all_eq_true.1 h2 i (List.mem_range.2 hi)
    simpa using this
  obtain ⟨hnd, _, hrg⟩ := chkLin_nodup _ _ h3
  refine ⟨perm, hnd, hrg, fun A i B hl o ho e he hb => ?_, fun A i B hl o ho hlt => chkHv_spec _ h4 A i B hl o ho hlt, fun A i hl B he o ho hlt j hj => chkHeld_spec l [] h5 A i hl B he o ho hlt j (.inl hj), fun i j oi oj d h1 h2 h3 h4 => chkDst_spec _ h6 i j oi oj d (by simpa using h1) (by simpa using h2) h3 h4, fun i j oi oj s hi hs hj hd => ?_, fun i o ho => ?_⟩
  · rcases chkLin_spec _ 0 [] (fun i hi => by simp at hi) h3 A i B hl o ho e he hb with h | h
    · exact h
    · simp at h
  · have hi' : i < ops.size := (Array.getElem?_eq_some_iff.1 hi).1
    have hj' : j < ops.size := (Array.getElem?_eq_some_iff.1 hj).1
    have k1 := List.all_eq_true.1 h7 i (List.mem_range.2 hi')
    rw [hi] at k1
    have k2 := List.all_eq_true.1 k1 s hs
    have k3 := List.all_eq_true.1 k2 j (List.mem_range.2 hj')
    rw [hj] at k3
    simp only [hd, bne_self_eq_false, Bool.false_or, Bool.and_eq_true, decide_eq_true_eq, Bool.or_eq_true] at k3
    refine ⟨k3.1, k3.2.imp bfr_spec fun k4 A B hl k hk => ?_⟩
    have hjA : j ∉ A := fun hm => by
      rw [hl] at hnd
      exact (List.nodup_append.1 hnd).2.2 j hm j (by simp) rfl
    rw [hl, dropWhile_to A B hjA] at k4
    exact bfr_spec (List.all_eq_true.1 k4 k hk)
  · have := Array.all_eq_true_iff_forall_mem.1 h8 o (Array.mem_of_getElem? ho)
    rw [Bool.and_eq_true] at this
    exact ⟨fun x hx => Array.all_eq_true_iff_forall_mem.1 this.1 x hx, this.2⟩

theorem before_in {n : Nat} {ops : Array Oper} {l : List (Nat × List Nat)} (R : RS n ops l) {i j : Nat} (h : Before ops j i) : ∀ A B, l.map (·.1) = A ++ i :: B → j ∈ A := by
  induction h with
  | edge ho he hb => intro A B hl; exact R.lin A _ B hl _ ho _ he hb
  | @trans i' j' o e ho he hb h ih =>
    intro A B hl
    have hm := R.lin A _ B hl _ ho _ he hb
    obtain ⟨A1, A2, rfl⟩ := List.append_of_mem hm
    have := ih A1 (A2 ++ j' :: B) (by rw [hl]; simp)
    simp [this]
theorem before_irrefl {n : Nat} {ops : Array Oper} {l : List (Nat × List Nat)} (R : RS n ops l) {i : Nat} (hi : i ∈ l.map (·.1)) (h : Before ops i i) : False := by
  obtain ⟨A, B, hAB⟩ := List.append_of_mem hi
  have hm := before_in R h A B hAB
  have hnd := R.nodup
  rw [hAB] at hnd
  exact (List.nodup_append.1 hnd).2.2 i hm i (by simp) rfl
theorem before_closed {ops : Array Oper} {S : Nat → Prop} (hc : ∀ j o, ops[j]? = some o → S j → ∀ e ∈ o.after, Region.binds .any e = true → S e.on) {i j : Nat} (h : Before ops i j) : S j → S i := by
  induction h with
  | edge ho he hb => intro hj; exact hc _ _ ho hj _ he hb
  | trans ho he hb _ ih => intro hj; exact ih (hc _ _ ho hj _ he hb)
/-- All that a ready operation waits for has been run. -/
theorem before_ready {ops : Array Oper} {S : Nat → Prop} (hc : ∀ j o, ops[j]? = some o → S j → ∀ e ∈ o.after, Region.binds .any e = true → S e.on) {i j : Nat} {o : Oper} (ho : ops[j]? = some o)
    (hr : ∀ e ∈ o.after, Region.binds .any e = true → S e.on) (h : Before ops i j) : S i := by
  cases h with
  | edge ho' he hb => rw [ho] at ho'; cases ho'; exact hr _ he hb
  | trans ho' he hb h => rw [ho] at ho'; cases ho'; exact before_closed hc h (hr _ he hb)
end Go.Proofs.YtldfnfpinemedaaDoor

namespace Go.Proofs.YtldfnfpinemedaaDoor
open Go
set_option linter.unusedSimpArgs false
set_option linter.unusedVariables false

/-- What the reads named in 'is' read is the same in both. -/
def Held (P : Program) (ops : Array Oper) (t : ATmps) (H H' : AH) (is : List Nat) : Prop :=
  ∀ i ∈ is, ∀ o, ops[i]? = some o → ∀ v, Qz P (aeval t) H o.op = some v → Qz P (aeval t) H' o.op = some v
noncomputable def aRun (P : Program) (ops : Array Oper) : List (Nat × List Nat) → (ATmps → AH → Prop) → ATmps → AH → Prop
  | [], K, t, H => K t H
  | (i, hl) :: rest, K, t, H => match ops[i]? with
    | none => False
    | some o => match Qj ops t o with
      | some true => if Qi o.op = true then andK (Qq P (aeval t) H o.op) (fun v H' => aRun P ops rest K (aput t o.dst v) H')
        else Qm P (aeval t) H o.op (fun v H' => Held P ops t H H' hl ∧ aRun P ops rest K (aput t o.dst v) H')
      | some false => aRun P ops rest K (aput t o.dst Qk) H
      | none => False

theorem aread_congr {P : Program} {ρ ρ' : Operand → Value} {H : AH} {op : Op} {v : Value} (h : Qz P ρ H op = some v) (hr : ∀ x ∈ op.operands, ρ' x = ρ x) : Qz P ρ' H op = some v := by
  cases op <;> simp only [Qz, reduceCtorEq] at h ⊢
  case load t x => rw [hr x (by simp [Op.operands])]; exact h
  case convert s d x => rw [hr x (by simp [Op.operands])]; exact h
theorem aread_push {P : Program} {ρ : Operand → Value} {H : AH} {op : Op} {v : Value} (b : ABlk) (h : Qz P ρ H op = some v) : Qz P ρ (H ++ [b]) op = some v := by
  have key : ∀ g cs, H.cells g = some cs → AH.cells (H ++ [b]) g = some cs := by
    intro g cs hg
    have hlt : g < H.length := by
      rcases AH.cells_cases hg with h | h <;> exact (List.getElem?_eq_some_iff.1 h).1
    unfold AH.cells at hg ⊢
    rw [get_push_lt hlt]; exact hg
  cases op <;> simp only [Qz, reduceCtorEq] at h ⊢
  case load t x =>
    unfold QF at h ⊢
    split at h
    · rename_i g o hx
      split at h
      · rename_i cs n hg ha; rw [key _ _ hg, ha]; exact h
      · rename_i cs hg ha; rw [key _ _ hg, ha]; exact h
      · cases h
    · cases h
  case convert s d x =>
    split at h
    · rename_i hc
      rw [if_pos hc]
      split at h
      · exact h
      · rename_i g o n c hx
        split at h
        · rename_i hn; rw [if_pos hn]; exact h
        · rename_i hn
          rw [if_neg hn]
          split at h
          · rename_i cs hg; rw [key _ _ hg]; exact h
          · cases h
      · cases h
    · cases h
theorem readsMem_of_aread {P : Program} {ρ : Operand → Value} {H : AH} {op : Op} {v : Value} (h : Qz P ρ H op = some v) : readsMem op = true := by
  cases op <;> simp only [Qz, reduceCtorEq] at h <;> rfl

/-- What is told of an operation that has been run over abstract memory alone. -/
def Rec (P : Program) (ops : Array Oper) (φ : Phi) (H : AH) (t : ATmps) (h0 : Nat) (g : Option Nat) (o : Oper) : Prop :=
  ∃ ti : ATmps, (∀ s ∈ Oper.looksAt ops o, look ti s = look t s) ∧
  ((Qj ops ti o = some false ∧ ∀ d, o.dst = some d → look t d = Qk) ∨
   (Qj ops ti o = some true ∧ Qi o.op = true ∧
    ((∃ v, QC P (aeval ti) o.op = some v ∧ ∀ d, o.dst = some d → look t d = v) ∨
     (∃ v, Qz P (aeval ti) H o.op = some v ∧ ∀ d, o.dst = some d → look t d = v) ∨
     (∃ cs vf x, anew P (aeval ti) o.op = some (cs, vf) ∧ g = some x ∧ φ x = none ∧ h0 ≤ x ∧ H[x]? = some (.own cs) ∧ ∀ d, o.dst = some d → look t d = vf x))))

structure DInv (P : Program) (n : Nat) (ds : List Deferred) (ops : Array Oper) (φ0 : Phi) (H0 : AH) (W0 : World) (S : Nat → Prop) (X : List Nat) (φ : Phi) (t : ATmps) (H : AH) (a : Act) (W : World) (G : Nat → Option Nat) : Prop where
  sim : Sim φ H W
  ev : Ev φ0 H0 W0 φ H W
  sub : ∀ i, S i → i ∈ X
  defers : a.defers = ds
  size : a.tmps.size = n
  slots : ∀ s, (∀ i o, i ∈ X → ¬ S i → ops[i]? = some o → o.dst ≠ some s) → VR φ (look t s) (a.tmps.getD s undef)
  recs : ∀ i o, i ∈ X → ¬ S i → ops[i]? = some o → Rec P ops φ H t H0.length (G i) o
  glt : ∀ i g, i ∈ X → ¬ S i → G i = some g → g < H.length
  ginj : ∀ i j g, i ∈ X → ¬ S i → j ∈ X → ¬ S j → G i = some g → G j = some g → i = j

theorem look_put {t : ATmps} {dst : Option Tmp} {v : Value} {s : Nat} (h : dst ≠ some s) : look (aput t dst v) s = look t s := by
  cases dst with
  | none => rfl
  | some d =>
    show (if s = d then v else look t s) = look t s
    rw [if_neg]
    rintro rfl
    exact h rfl
theorem look_put_self {t : ATmps} {d : Nat} {v : Value} : look (aput t (some d) v) d = v := by
  show (if d = d then v else look t d) = v
  rw [if_pos rfl]

/-- The operands of an operation, all of whose writers have been run. -/
theorem operand_rel {ops : Array Oper} {φ : Phi} {t ti : ATmps} {a : Act} {o : Oper} (hs : ∀ s ∈ Oper.looksAt ops o, look ti s = look t s) (hv : ∀ s ∈ Oper.looksAt ops o, VR φ (look t s) (a.tmps.getD s undef)) (hk : ∀ x ∈ o.op.operands, operandOk x = true) :
    (∀ x ∈ o.op.operands, VR φ (aeval ti x) (a.eval x)) ∧ ∀ d, (∃ j want, o.guard = some (j, want) ∧ (ops[j]?).bind (·.dst) = some d) → VR φ (look ti d) (a.tmps.getD d undef) := by
  constructor
  · intro x hx
    cases x with
    | tmp s =>
      have hm : s ∈ Oper.looksAt ops o := by
        unfold Oper.looksAt
        refine List.mem_append_left _ (List.mem_filterMap.2 ⟨.tmp s, by simpa using hx, rfl⟩)
      show VR φ (look ti s) (a.tmps.getD s undef)
      rw [hs s hm]; exact hv s hm
    | const v => exact VR.plain (hk _ hx)
    | global g => exact .any _
    | func f => exact .func _ rfl rfl (fun i h1 _ => by simp at h1) (fun i h1 _ => by simp at h1)
  · rintro d ⟨j, want, hg, hd⟩
    have hm : d ∈ Oper.looksAt ops o := by
      unfold Oper.looksAt
      refine List.mem_append_right _ ?_
      rw [hg]
      simp only
      rw [hd]; simp
    rw [hs d hm]; exact hv d hm

section
variable {P : Program} {n : Nat} {ds : List Deferred} {ops : Array Oper} {φ0 : Phi} {H0 : AH} {W0 : World} {l : List (Nat × List Nat)}

/-- A record stands when another operation is run over abstract memory. -/
theorem Rec.put {φ : Phi} {H H' : AH} {t : ATmps} {h0 : Nat} {g : Option Nat} {o : Oper} {dst : Option Tmp} {v : Value} (h : Rec P ops φ H t h0 g o) (h1 : ∀ s ∈ Oper.looksAt ops o, dst ≠ some s) (h2 : ∀ d, o.dst = some d → dst ≠ some d)
    (hH : ∀ ρ w, Qz P ρ H o.op = some w → Qz P ρ H' o.op = some w) (hg : ∀ x b, g = some x → φ x = none → H[x]? = some b → H'[x]? = some b) : Rec P ops φ H' (aput t dst v) h0 g o := by
  obtain ⟨ti, hti, hh⟩ := h
  refine ⟨ti, fun s hs => by rw [hti s hs, look_put (h1 s hs)], ?_⟩
  rcases hh with ⟨k1, k2⟩ | ⟨k1, k2, hh⟩
  · exact .inl ⟨k1, fun d hd => by rw [look_put (h2 d hd)]; exact k2 d hd⟩
  · refine .inr ⟨k1, k2, ?_⟩
    rcases hh with ⟨w, m1, m2⟩ | ⟨w, m1, m2⟩ | ⟨cs, vf, x, m1, m0, m2, m3, m4, m5⟩
    · exact .inl ⟨w, m1, fun d hd => by rw [look_put (h2 d hd)]; exact m2 d hd⟩
    · exact .inr (.inl ⟨w, hH _ _ m1, fun d hd => by rw [look_put (h2 d hd)]; exact m2 d hd⟩)
    · exact .inr (.inr ⟨cs, vf, x, m1, m0, m2, m3, hg x _ m0 m2 m4, fun d hd => by rw [look_put (h2 d hd)]; exact m5 d hd⟩)

/-- Light operations are run ahead over abstract memory. -/
theorem anticipate (R : RS n ops l) {S : Nat → Prop} {φ : Phi} {a : Act} {W : World} {K : ATmps → AH → Prop} (e : Nat) (hbe : ∀ p, Before ops p e → S p) : ∀ (L1 L2 : List (Nat × List Nat)) (X : List Nat) (t : ATmps) (H : AH) (G : Nat → Option Nat), l.map (·.1) = X ++ (L1.map (·.1) ++ L2.map (·.1)) →
    (∀ A i B, L1.map (·.1) = A ++ i :: B → e ∈ i :: (B ++ L2.map (·.1))) →
    (∀ i ∈ L1.map (·.1), ∀ o, ops[i]? = some o → Qi o.op = true) → DInv P n ds ops φ0 H0 W0 S X φ t H a W G → aRun P ops (L1 ++ L2) K t H →
    ∃ t' H' G', DInv P n ds ops φ0 H0 W0 S (X ++ L1.map (·.1)) φ t' H' a W G' ∧ aRun P ops L2 K t' H'
  | [], L2, X, t, H, G, _, _, _, I, h => ⟨t, H, G, by simpa using I, h⟩
  | (i, hl) :: L1, L2, X, t, H, G, hX, he, hlt, I, h => by
    simp only [List.map_cons, List.cons_append] at hX
    have hnd := R.nodup
    rw [hX] at hnd
    have hiX : i ∉ X := fun hm => by
      have := List.nodup_append.1 hnd
      exact this.2.2 i hm i (by simp) rfl
    have hiS : ¬ S i := fun hs => hiX (I.sub i hs)
    simp only [List.cons_append, aRun] at h
    cases ho : ops[i]? with
    | none => rw [ho] at h; exact h.elim
    | some o =>
      rw [ho] at h
      simp only at h
      -- a slot that an operation run ahead looks at, or writes, is not i's
      have hfree : ∀ j oj, j ∈ X → ¬ S j → ops[j]? = some oj → (∀ s ∈ Oper.looksAt ops oj, o.dst ≠ some s) ∧ ∀ d, oj.dst = some d → o.dst ≠ some d := by
        intro j oj hj hjS hoj
        refine ⟨fun s hs hd => ?_, fun d hd hd' => ?_⟩
        · rcases (R.rd j i oj o s hoj hs ho hd).2 with hb | hb
          case inr => exact hjS (hbe j (hb X _ hX e (he [] i (L1.map (·.1)) rfl)))
          obtain ⟨A, B, rfl⟩ := List.append_of_mem hj
          have := before_in R hb A (B ++ i :: (L1.map (·.1) ++ L2.map (·.1))) (by rw [hX]; simp)
          exact hiX (by simp [this])
        · have := R.dst j i oj o d hoj ho hd hd'
          subst this; exact hiX hj
      have hown : ∀ s ∈ Oper.looksAt ops o, o.dst ≠ some s := fun s hs hd => (R.rd i i o o s ho hs ho hd).1 rfl
      have step : ∀ (v : Value) (H' : AH) (g : Option Nat), Sim φ H' W → Ev φ H W φ H' W → (∀ ρ (op : Op) w, Qz P ρ H op = some w → Qz P ρ H' op = some w) → (∀ (x : Nat) b, H[x]? = some b → H'[x]? = some b) → (∀ y, g = some y → H.length ≤ y ∧ y < H'.length) →
          Rec P ops φ H' (aput t o.dst v) H0.length g o → aRun P ops (L1 ++ L2) K (aput t o.dst v) H' → ∃ t' H'' G', DInv P n ds ops φ0 H0 W0 S (X ++ (i :: L1.map (·.1))) φ t' H'' a W G' ∧ aRun P ops L2 K t' H'' := by
        intro v H' g hS' hE' hrd hget hgl hrec hrun
        have hlen : H.length ≤ H'.length := hE'.len
        have I' : DInv P n ds ops φ0 H0 W0 S (X ++ [i]) φ (aput t o.dst v) H' a W (fun x => if x = i then g else G x) := by
          refine ⟨hS', I.ev.trans hE', fun j hj => by simp [I.sub j hj], I.defers, I.size, fun s hs => ?_, fun j oj hj hjS hoj => ?_, fun j y hj hjS hy => ?_, fun j k y hj hjS hk hkS hy hy' => ?_⟩
          · have hd : o.dst ≠ some s := hs i o (by simp) hiS ho
            rw [look_put hd]
            exact I.slots s fun j oj hj hjS hoj => hs j oj (by simp [hj]) hjS hoj
          · by_cases e : j = i
            · subst e
              rw [ho] at hoj; cases hoj
              simpa using hrec
            · have hjX : j ∈ X := by simpa [e] using hj
              simp only [if_neg e]
              have := I.recs j oj hjX hjS hoj
              exact this.put (hfree j oj hjX hjS hoj).1 (hfree j oj hjX hjS hoj).2 (fun ρ w => hrd ρ oj.op w) (fun x b _ _ hx => hget _ _ hx)
          · by_cases e : j = i
            · simp only [if_pos e] at hy; exact (hgl y hy).2
            · have hjX : j ∈ X := by simpa [e] using hj
              simp only [if_neg e] at hy
              exact Nat.lt_of_lt_of_le (I.glt j y hjX hjS hy) hlen
          · by_cases e : j = i
            · by_cases e' : k = i
              · rw [e, e']
              · have hkX : k ∈ X := by simpa [e'] using hk
                simp only [if_pos e] at hy
                simp only [if_neg e'] at hy'
                have h1 := (hgl y hy).1
                have h2 := I.glt k y hkX hkS hy'
                omega
            · have hjX : j ∈ X := by simpa [e] using hj
              simp only [if_neg e] at hy
              by_cases e' : k = i
              · simp only [if_pos e'] at hy'
                have h1 := (hgl y hy').1
                have h2 := I.glt j y hjX hjS hy
                omega
              · have hkX : k ∈ X := by simpa [e'] using hk
                simp only [if_neg e'] at hy'
                exact I.ginj j k y hjX hjS hkX hkS hy hy'
        have := anticipate R (S := S) (φ := φ) (a := a) (W := W) (K := K) e hbe L1 L2 (X ++ [i]) _ H' _ (by rw [hX]; simp) (fun A k B hk => he (i :: A) k B (by rw [List.map_cons, hk]; rfl)) (fun j hj => hlt j (by simp [hj])) I' hrun
        simpa using this
      split at h
      · rename_i hw
        have hl' := hlt i (by simp) o ho
        rw [if_pos hl'] at h
        obtain ⟨v, H', hL, hrun⟩ := andK_spec h
        rcases aLight_cases hL with ⟨hp, rfl⟩ | ⟨hp, rfl⟩ | ⟨cs, vf, hp, rfl, rfl⟩
        · refine step v _ none I.sim (Ev.refl _ _ _) (fun _ _ _ h => h) (fun _ _ h => h) (fun y hy => by cases hy) ?_ hrun
          exact ⟨t, fun s hs => (look_put (hown s hs)).symm, .inr ⟨hw, hl', .inl ⟨v, hp, fun d hd => by rw [hd, look_put_self]⟩⟩⟩
        · refine step v _ none I.sim (Ev.refl _ _ _) (fun _ _ _ h => h) (fun _ _ h => h) (fun y hy => by cases hy) ?_ hrun
          exact ⟨t, fun s hs => (look_put (hown s hs)).symm, .inr ⟨hw, hl', .inr (.inl ⟨v, hp, fun d hd => by rw [hd, look_put_self]⟩)⟩⟩
        · refine step _ _ (some H.length) (I.sim.push _) (Ev.push I.sim _) (fun ρ op w => aread_push _) (fun x b hx => by rw [get_push_lt (own_lt hx)]; exact hx) (fun y hy => by cases hy; simp) ?_ hrun
          exact ⟨t, fun s hs => (look_put (hown s hs)).symm, .inr ⟨hw, hl', .inr (.inr ⟨cs, vf, H.length, hp, rfl, I.sim.fresh_none (Nat.le_refl _), I.ev.len, get_push_eq, fun d hd => by rw [hd, look_put_self]⟩)⟩⟩
      · rename_i hw
        refine step Qk H none I.sim (Ev.refl _ _ _) (fun _ _ _ h => h) (fun _ _ h => h) (fun y hy => by cases hy) ?_ h
        exact ⟨t, fun s hs => (look_put (hown s hs)).symm, .inl ⟨hw, fun d hd => by rw [hd, look_put_self]⟩⟩
      · exact h.elim
end
end Go.Proofs.YtldfnfpinemedaaDoor

namespace Go.Proofs.YtldfnfpinemedaaDoor
open Go
set_option linter.unusedSimpArgs false
set_option linter.unusedVariables false

theorem countP_lt {p q : Nat → Bool} : ∀ l : List Nat, (∀ x ∈ l, q x = true → p x = true) → (∃ x ∈ l, p x = true ∧ q x = false) → l.countP q < l.countP p
  | [], _, ⟨x, hx, _⟩ => by simp at hx
  | y :: l, h, ⟨x, hx, h1, h2⟩ => by
    have hle : l.countP q ≤ l.countP p := List.countP_mono_left fun x hx => h x (by simp [hx])
    rcases List.mem_cons.1 hx with rfl | hx
    · rw [List.countP_cons_of_pos h1, List.countP_cons_of_neg (by simp [h2])]; omega
    · have ih := countP_lt l (fun x hx => h x (by simp [hx])) ⟨x, hx, h1, h2⟩
      have := h y (by simp)
      simp only [List.countP_cons]
      by_cases hq : q y = true
      · simp [hq, this hq]; exact ih
      · simp [hq]; split <;> omega
def unl (ops : Array Oper) (listed : Array Bool) : Nat := (List.range ops.size).countP fun i => !listed.getD i false
theorem getD_of_true {listed : Array Bool} {i : Nat} (h : listed.getD i true = false) : i < listed.size ∧ listed.getD i false = false := by
  rcases Nat.lt_or_ge i listed.size with h' | h'
  · simp [h'] at h ⊢; exact h
  · simp [Array.getElem?_eq_none h'] at h
theorem getD_setT {listed : Array Bool} {i j : Nat} (hi : i < listed.size) : (listed.setIfInBounds i true).getD j false = true ↔ j = i ∨ listed.getD j false = true := by
  by_cases e : i = j
  · subst e; simp [hi]
  · simp [Array.getElem?_setIfInBounds_ne e, Ne.symm e]
theorem unl_lt {ops : Array Oper} {listed : Array Bool} {i : Nat} (hi : i < listed.size) (hs : i < ops.size) (h : listed.getD i false = false) : unl ops (listed.setIfInBounds i true) < unl ops listed := by
  refine countP_lt _ (fun x _ hx => ?_) ⟨i, List.mem_range.2 hs, by simp only [h, Bool.not_false], by
    have := (getD_setT (listed := listed) (i := i) (j := i) hi).2 (.inl rfl)
    simp only [this, Bool.not_true]⟩
  simp only [Bool.not_eq_true'] at hx ⊢
  cases hl : listed.getD x false with
  | false => rfl
  | true =>
    have := (getD_setT (listed := listed) (i := i) (j := x) hi).2 (.inr hl)
    rw [this] at hx; cases hx

section
variable {P : Program} {n : Nat} {ds : List Deferred} {ops : Array Oper} {φ0 : Phi} {H0 : AH} {W0 : World} {l : List (Nat × List Nat)} {Q : APost} {r : Option Nat}

/-- An operation that was run ahead is run by the machine. -/
theorem DInv.done {S S' : Nat → Prop} {X : List Nat} {φ φ' : Phi} {t : ATmps} {H : AH} {a : Act} {W W' : World} {G : Nat → Option Nat} {i : Nat} {o : Oper} {v' : Value} (I : DInv P n ds ops φ0 H0 W0 S X φ t H a W G) (hS' : ∀ j, S' j ↔ j = i ∨ S j) (hiX : i ∈ X) (hiS : ¬ S i) (ho : ops[i]? = some o)
    (hd : dstOk n o.dst = true) (hφ : ∀ g bi, φ g = some bi → φ' g = some bi) (sim : Sim φ' H W') (ev : Ev φ0 H0 W0 φ' H W') (hv : ∀ d, o.dst = some d → VR φ' (look t d) v') (hG : ∀ j x, j ≠ i → j ∈ X → ¬ S j → G j = some x → φ x = none → φ' x = none) :
    DInv P n ds ops φ0 H0 W0 S' X φ' t H (a.put o.dst v') W' G := by
  have hno : ∀ j, ¬ S' j → j ≠ i ∧ ¬ S j := fun j hj => ⟨fun e => hj ((hS' j).2 (.inl e)), fun e => hj ((hS' j).2 (.inr e))⟩
  refine ⟨sim, ev, fun j hj => ?_, ?_, ?_, fun s hs => ?_, fun j oj hj hjS hoj => ?_, fun j g hj hjS => I.glt j g hj (hno j hjS).2, fun j k g hj hjS hk hkS => I.ginj j k g hj (hno j hjS).2 hk (hno k hkS).2⟩
  · rcases (hS' j).1 hj with rfl | h
    · exact hiX
    · exact I.sub j h
  · cases hdd : o.dst <;> exact I.defers
  · cases hdd : o.dst with
    | none => exact I.size
    | some d => simp [Act.put, I.size]
  · cases hdd : o.dst with
    | none =>
      refine (I.slots s fun j oj hj hjS hoj => ?_).mono hφ
      by_cases e : j = i
      · subst e; rw [ho] at hoj; cases hoj; rw [hdd]; simp
      · exact hs j oj hj (fun h => ((hS' j).1 h).elim e hjS) hoj
    | some d =>
      have hd' : d < a.tmps.size := by rw [I.size]; rw [hdd] at hd; simpa [dstOk] using hd
      show VR φ' (look t s) ((a.tmps.setIfInBounds d v').getD s undef)
      rw [getD_set hd']
      split
      · rename_i e; subst e; exact hv s hdd
      · rename_i e
        refine (I.slots s fun j oj hj hjS hoj => ?_).mono hφ
        by_cases e' : j = i
        · subst e'; rw [ho] at hoj; cases hoj; rw [hdd]; intro h; cases h; exact e rfl
        · exact hs j oj hj (fun h => ((hS' j).1 h).elim e' hjS) hoj
  · obtain ⟨hji, hjS'⟩ := hno j hjS
    obtain ⟨ti, h1, h2⟩ := I.recs j oj hj hjS' hoj
    refine ⟨ti, h1, ?_⟩
    rcases h2 with h2 | ⟨k1, k2, h2⟩
    · exact .inl h2
    · refine .inr ⟨k1, k2, ?_⟩
      rcases h2 with h2 | h2 | ⟨cs, vf, x, m1, m2, m3, m4⟩
      · exact .inl h2
      · exact .inr (.inl h2)
      · exact .inr (.inr ⟨cs, vf, x, m1, m2, hG j x hji hj hjS' m2 m3, m4⟩)

theorem aRun_sound (R : RS n ops l) : ∀ (fuel : Nat) (LX L : List (Nat × List Nat)) (t : ATmps) (H : AH) (φ : Phi) (a : Act) (W : World) (G : Nat → Option Nat) (listed : Array Bool), l = LX ++ L → listed.size = ops.size → unl ops listed ≤ fuel →
    (∀ j o, ops[j]? = some o → listed.getD j false = true → ∀ e ∈ o.after, Region.binds .any e = true → listed.getD e.on false = true) →
    (∀ j ∈ LX.map (·.1), ∀ A B, l.map (·.1) = A ++ j :: B → ∃ k ∈ j :: B, listed.getD k false = true) →
    DInv P n ds ops φ0 H0 W0 (fun i => listed.getD i false = true) (LX.map (·.1)) φ t H a W G → aRun P ops L (Q .normal) t H → wpAnyIn (Fr r) 0 P .any ops (Lift n ds φ0 H0 W0 Q) fuel listed a W := by
  intro fuel
  induction fuel with
  | zero =>
    intro LX L t H φ a W G listed hl hsz hu hc hlast I h
    have hall : ∀ i, i < ops.size → listed.getD i false = true := fun i hi => by
      have h0 : unl ops listed = 0 := by omega
      unfold unl at h0
      rw [List.countP_eq_zero] at h0
      have := h0 i (List.mem_range.2 hi)
      simpa using this
    refine ⟨?_, ?_⟩
    · rw [List.eq_nil_iff_forall_not_mem]
      intro i hi
      obtain ⟨h1, o, ho, _⟩ := mem_ready.1 hi
      have := hall i (Array.getElem?_eq_some_iff.1 ho).1
      rw [(getD_of_true h1).2] at this; cases this
    · have hL : L = [] := by
        cases L with
        | nil => rfl
        | cons x L =>
          have hx : x.1 ∈ LX.map (·.1) := I.sub _ (hall _ (R.rng _ (by rw [hl]; simp)))
          have hnd := R.nodup
          rw [hl, List.map_append] at hnd
          exact ((List.nodup_append.1 hnd).2.2 x.1 hx x.1 (by simp) rfl).elim
      subst hL
      refine ⟨φ, t, H, h, I.sim, ⟨I.defers, I.size, fun s => I.slots s fun i o hi hiS ho => ?_⟩, I.ev⟩
      exact absurd (hall i (Array.getElem?_eq_some_iff.1 ho).1) hiS
  | succ fuel ih =>
    intro LX L t H φ a W G listed hl hsz hu hc hlast I h
    -- all have been run, or one is ready
    have hend : Region.ready .any ops listed = [] → Lift n ds φ0 H0 W0 Q .normal a W := by
      intro hr
      have hall : ∀ k, ∀ i ∈ (l.map (·.1)).take k, listed.getD i false = true := by
        intro k
        induction k with
        | zero => intro i hi; simp at hi
        | succ k ihk =>
          intro i hi
          rcases Nat.lt_or_ge k (l.map (·.1)).length with hk | hk
          · have hsplit : l.map (·.1) = (l.map (·.1)).take k ++ (l.map (·.1))[k] :: (l.map (·.1)).drop (k + 1) := by
              rw [← List.drop_eq_getElem_cons hk, List.take_append_drop]
            rw [List.take_succ_eq_append_getElem hk] at hi
            rcases List.mem_append.1 hi with hi | hi
            · exact ihk i hi
            · have hix : i = (l.map (·.1))[k] := by simpa using hi
              by_cases hx : listed.getD i false = true
              · exact hx
              · exfalso
                have hlt : i < ops.size := R.rng i (by rw [hix]; exact List.getElem_mem _)
                have ho : ops[i]? = some ops[i] := Array.getElem?_eq_getElem hlt
                have hm : i ∈ Region.ready .any ops listed := by
                  rw [mem_ready]
                  refine ⟨?_, ops[i], ho, fun e he hb => ihk _ (R.lin _ i _ (by rw [hix]; exact hsplit) _ ho e he hb)⟩
                  have hlt' : i < listed.size := by rw [hsz]; exact hlt
                  simp [hlt'] at hx ⊢; exact hx
                rw [hr] at hm; simp at hm
          · rw [List.take_of_length_le (by omega)] at hi
            exact ihk i (by rw [List.take_of_length_le hk]; exact hi)
      have hall' : ∀ i, i < ops.size → listed.getD i false = true := fun i hi => hall (l.map (·.1)).length i (by rw [List.take_of_length_le (Nat.le_refl _)]; exact R.perm i hi)
      have hL : L = [] := by
        cases L with
        | nil => rfl
        | cons x L =>
          have hx : x.1 ∈ LX.map (·.1) := I.sub _ (hall' _ (R.rng _ (by rw [hl]; simp)))
          have hnd := R.nodup
          rw [hl, List.map_append] at hnd
          exact ((List.nodup_append.1 hnd).2.2 x.1 hx x.1 (by simp) rfl).elim
      subst hL
      refine ⟨φ, t, H, h, I.sim, ⟨I.defers, I.size, fun s => I.slots s fun i o hi hiS ho => ?_⟩, I.ev⟩
      exact absurd (hall' i (Array.getElem?_eq_some_iff.1 ho).1) hiS
    refine ⟨hend, fun i hi => ?_⟩
    obtain ⟨hi0, o, ho, hpre⟩ := mem_ready.1 hi
    obtain ⟨hil, hif⟩ := getD_of_true hi0
    have hios : i < ops.size := (Array.getElem?_eq_some_iff.1 ho).1
    have hu' : unl ops (listed.setIfInBounds i true) ≤ fuel := by have := unl_lt hil hios hif; omega
    have hS' : ∀ j, (listed.setIfInBounds i true).getD j false = true ↔ j = i ∨ listed.getD j false = true := fun j => getD_setT hil
    have hc' : ∀ j o, ops[j]? = some o → (listed.setIfInBounds i true).getD j false = true → ∀ e ∈ o.after, Region.binds .any e = true → (listed.setIfInBounds i true).getD e.on false = true := by
      intro j oj hoj hj e he hb
      refine (hS' _).2 (.inr ?_)
      rcases (hS' j).1 hj with rfl | hj
      · rw [ho] at hoj; cases hoj; exact hpre e he hb
      · exact hc j oj hoj hj e he hb
    have hbr : ∀ j, Before ops j i → listed.getD j false = true := fun j hb => before_ready hc ho hpre hb
    have hok := R.ok i o ho
    -- what i looks at has been written
    have hrel : ∀ {X : List Nat} {t : ATmps} {H : AH} {G : Nat → Option Nat}, DInv P n ds ops φ0 H0 W0 (fun i => listed.getD i false = true) X φ t H a W G → (∀ j ∈ X, ∀ A B, l.map (·.1) = A ++ j :: B → ∃ k ∈ j :: B, listed.getD k false = true ∨ k = i) → ∀ s ∈ Oper.looksAt ops o, VR φ (look t s) (a.tmps.getD s undef) := by
      intro X t H G I hq s hs
      refine I.slots s fun j oj hj hjS hoj hd => ?_
      rcases (R.rd i j o oj s ho hs hoj hd).2 with hb | hb
      · exact hjS (hbr j hb)
      · obtain ⟨A, B, hAB⟩ := List.append_of_mem (R.perm j (Array.getElem?_eq_some_iff.1 hoj).1)
        obtain ⟨k, hk, hk'⟩ := hq j hj A B hAB
        have hbk := hb A B hAB k hk
        rcases hk' with hk' | rfl
        · have : listed.getD i false = true := before_closed (S := fun i => listed.getD i false = true) hc hbk hk'
          rw [hif] at this; cases this
        · exact before_irrefl R (R.perm k hios) hbk
    unfold wpOpIn
    rw [ho]
    simp only
    -- the step of an operation that was run ahead
    have stepB : ∀ (LX' L' : List (Nat × List Nat)) (t' : ATmps) (H' : AH) (G' : Nat → Option Nat), l = LX' ++ L' → i ∈ LX'.map (·.1) → (∀ j ∈ LX'.map (·.1), ∀ A B, l.map (·.1) = A ++ j :: B → ∃ k ∈ j :: B, listed.getD k false = true ∨ k = i) → DInv P n ds ops φ0 H0 W0 (fun i => listed.getD i false = true) (LX'.map (·.1)) φ t' H' a W G' → aRun P ops L' (Q .normal) t' H' →
        if Region.wanted o (yielded ops a.tmps) = true then o.wpIn (Fr r) 0 P a W (wpAnyIn (Fr r) 0 P .any ops (Lift n ds φ0 H0 W0 Q) fuel (listed.setIfInBounds i true)) (Lift n ds φ0 H0 W0 Q)
        else (∀ f, o.about P W a.eval = some f → (Fr r).fn f) ∧ wpAnyIn (Fr r) 0 P .any ops (Lift n ds φ0 H0 W0 Q) fuel (listed.setIfInBounds i true) (a.put o.dst undef) W := by
      intro LX' L' t' H' G' hl' hiX hq I' h'
      have hq' : ∀ j ∈ LX'.map (·.1), ∀ A B, l.map (·.1) = A ++ j :: B → ∃ k ∈ j :: B, (listed.setIfInBounds i true).getD k false = true := fun j hj A B hAB => by
        obtain ⟨k, hk, hk'⟩ := hq j hj A B hAB
        exact ⟨k, hk, (hS' k).2 (hk'.symm)⟩
      have hiS : ¬ (listed.getD i false = true) := by rw [hif]; simp
      obtain ⟨ti, ht1, ht2⟩ := I'.recs i o hiX hiS ho
      obtain ⟨hopr, hgrd⟩ := operand_rel (φ := φ) (a := a) ht1 (hrel I' hq) hok.1
      rcases ht2 with ⟨hw, hsk⟩ | ⟨hw, hlt, ht2⟩
      · rw [aWanted_sound (n := n) hgrd hw]
        simp only [Bool.false_eq_true, if_false]
        refine ⟨fun _ _ => trivial, ih LX' L' t' H' φ _ W G' _ hl' (by simpa using hsz) hu' hc' hq' ?_ h'⟩
        exact I'.done (v' := undef) hS' hiX hiS ho hok.2 (fun _ _ h => h) I'.sim I'.ev (fun d hd => by rw [hsk d hd]; exact .skip) (fun _ _ _ _ _ _ h => h)
      · rw [aWanted_sound (n := n) hgrd hw]
        simp only [if_true]
        refine wp_to_wpIn (light_nodefer hlt) ?_
        rcases ht2 with ⟨v, hp, hd⟩ | ⟨v, hp, hd⟩ | ⟨cs, vf, x, hp, hGx, hφx, hx0, hHx, hd⟩
        · obtain ⟨v', k1, k2⟩ := apure_sound hp hopr
          unfold Oper.wp
          rw [k2 W]
          refine ih LX' L' t' H' φ _ W G' _ hl' (by simpa using hsz) hu' hc' hq' ?_ h'
          exact I'.done hS' hiX hiS ho hok.2 (fun _ _ h => h) I'.sim I'.ev (fun d hdd => by rw [hd d hdd]; exact k1) (fun _ _ _ _ _ _ h => h)
        · obtain ⟨v', k1, k2⟩ := aread_sound I'.sim hp hopr
          unfold Oper.wp
          rw [k2]
          refine ih LX' L' t' H' φ _ W G' _ hl' (by simpa using hsz) hu' hc' hq' ?_ h'
          exact I'.done hS' hiX hiS ho hok.2 (fun _ _ h => h) I'.sim I'.ev (fun d hdd => by rw [hd d hdd]; exact k1) (fun _ _ _ _ _ _ h => h)
        · obtain ⟨C, ty, fr, mk, v', W1, j1, j2, j3, j4, j5, j6, j7, j8, j9⟩ := anew_sound hp hopr W
          unfold Oper.wp
          rw [j1]
          have hle := Phi.upd_le (bi := ⟨W.heap.size, 0, C.size, mk⟩) hφx
          have hsz1 : W1.heap.size = W.heap.size + 1 := by rw [j2]; simp
          refine ih LX' L' t' H' (φ.upd x ⟨W.heap.size, 0, C.size, mk⟩) _ W1 G' _ hl' (by simpa using hsz) hu' hc' hq' ?_ h'
          refine I'.done hS' hiX hiS ho hok.2 hle (news_concretize I'.sim hHx hφx j2 j6 j7 j8) ?_ (fun d hdd => by rw [hd d hdd]; exact j9 _ _ Phi.upd_self) (fun j y hji hj hjS hGj hy => ?_)
          · have E := I'.ev
            refine ⟨j3.trans E.os, j4.trans E.tape, j5.trans E.output, by have := E.size; omega, E.len, fun g hg => by rw [Phi.upd_ne (by omega)]; exact E.phi g hg, E.absf, fun b hb ho => ?_, fun g cs' bi h1 hm h2 h3 => ?_⟩
            · rw [j2, Array.getElem?_push, if_neg (by have := E.size; omega)]
              exact E.fr b hb ho
            · by_cases e : g = x
              · subst e
                rw [Phi.upd_self] at h2; cases h2
                have := E.size
                simp only at h3
                omega
              · rw [Phi.upd_ne e] at h2
                exact E.fresh g cs' bi h1 hm h2 h3
          · rw [Phi.upd_ne]
            · exact hy
            · rintro rfl
              exact hji (I'.ginj j i y hj hjS hiX hiS hGj hGx)
    by_cases hiX : i ∈ LX.map (·.1)
    · exact stepB LX L t H G hl hiX (fun j hj A B hAB => by obtain ⟨k, hk, hk'⟩ := hlast j hj A B hAB; exact ⟨k, hk, .inl hk'⟩) I h
    · -- i lies ahead: what stands before it is light
      have himem : i ∈ L.map (·.1) := by
        have := R.perm i hios
        rw [hl, List.map_append, List.mem_append] at this
        exact this.resolve_left hiX
      obtain ⟨p, hp, hpi⟩ := List.mem_map.1 himem
      obtain ⟨L1, L2, rfl⟩ := List.append_of_mem hp
      obtain ⟨i', hls⟩ := p
      simp only at hpi
      subst hpi
      have hlight : ∀ j ∈ L1.map (·.1), ∀ oj, ops[j]? = some oj → Qi oj.op = true := by
        intro j hj oj hoj
        cases hlj : Qi oj.op with
        | true => rfl
        | false =>
          exfalso
          obtain ⟨A, B, hAB⟩ := List.append_of_mem hj
          have hb := R.hv (LX.map (·.1) ++ A) j (B ++ i' :: L2.map (·.1)) (by rw [hl]; simp [hAB]) oj hoj hlj i' (by simp)
          have hS := hbr j hb
          have hjX := I.sub j hS
          have hnd := R.nodup
          rw [hl, List.map_append] at hnd
          exact (List.nodup_append.1 hnd).2.2 j hjX j (by rw [List.map_append]; simp [hj]) rfl
      have hlX : l = (LX ++ L1) ++ (i', hls) :: L2 := by rw [hl]; simp
      have hqn : ∀ j ∈ (LX ++ L1 ++ [(i', hls)]).map (·.1), ∀ A B, l.map (·.1) = A ++ j :: B → ∃ k ∈ j :: B, listed.getD k false = true ∨ k = i' := by
        intro j hj A B hAB
        rw [List.append_assoc, List.map_append, List.mem_append] at hj
        rcases hj with hj | hj
        · obtain ⟨k, hk, hk'⟩ := hlast j hj A B hAB
          exact ⟨k, hk, .inl hk'⟩
        · obtain ⟨C, D, hCD⟩ := List.append_of_mem hj
          have hnd := R.nodup
          have e1 : l.map (·.1) = (LX.map (·.1) ++ C) ++ j :: (D ++ L2.map (·.1)) := by
            have : (L1 ++ [(i', hls)]).map (·.1) ++ L2.map (·.1) = (C ++ j :: D) ++ L2.map (·.1) := by rw [hCD]
            rw [hlX]
            simp only [List.map_append, List.map_cons, List.append_assoc, List.cons_append, List.map_nil, List.nil_append] at this ⊢
            rw [this]
          rw [e1] at hnd
          have hB := split_uniq _ _ _ _ hnd (e1.symm.trans hAB)
          subst hB
          refine ⟨i', ?_, .inr rfl⟩
          have hm : i' ∈ j :: D := by
            rw [List.map_append] at hCD
            by_cases hji : j = i'
            · simp [hji]
            · have hlst : (C ++ j :: D).getLast? = some i' := by rw [← hCD]; simp
              cases D with
              | nil => rw [List.getLast?_append] at hlst; simp at hlst; exact absurd hlst hji
              | cons d D =>
                have : (d :: D).getLast? = some i' := by
                  rw [List.getLast?_append, List.getLast?_cons_cons] at hlst
                  cases hg : (d :: D).getLast? with
                  | none => simp at hg
                  | some x => rw [hg] at hlst; simpa using hlst
                exact List.mem_cons_of_mem _ (List.mem_of_getLast? this)
          rcases List.mem_cons.1 hm with h | h
          · simp [h]
          · simp [h]
      have hqn1 : ∀ j ∈ (LX ++ L1).map (·.1), ∀ A B, l.map (·.1) = A ++ j :: B → ∃ k ∈ j :: B, listed.getD k false = true ∨ k = i' := fun j hj => hqn j (by rw [List.map_append]; exact List.mem_append_left _ hj)
      obtain ⟨t1, H1, G1, I1, h1⟩ := anticipate (K := Q .normal) R i' hbr L1 ((i', hls) :: L2) (LX.map (·.1)) t H G (by rw [hl]; simp) (fun A k B _ => by simp) hlight I h
      have hX1 : LX.map (·.1) ++ L1.map (·.1) = (LX ++ L1).map (·.1) := by simp
      rw [hX1] at I1
      by_cases hlt : Qi o.op = true
      · obtain ⟨t2, H2, G2, I2, h2⟩ := anticipate (K := Q .normal) R i' hbr [(i', hls)] L2 ((LX ++ L1).map (·.1)) t1 H1 G1 (by rw [hlX]; simp) (fun A k B hk => by
          cases A with
          | nil => simp only [List.map_cons, List.map_nil, List.nil_append, List.cons.injEq] at hk; simp [hk.1]
          | cons a A => simp at hk) (fun j hj oj hoj => by
          have : j = i' := by simpa using hj
          subst this; rw [ho] at hoj; cases hoj; exact hlt) I1 h1
        have hX2 : (LX ++ L1).map (·.1) ++ [(i', hls)].map (·.1) = (LX ++ L1 ++ [(i', hls)]).map (·.1) := by simp
        rw [hX2] at I2
        exact stepB (LX ++ L1 ++ [(i', hls)]) L2 t2 H2 G2 (by rw [hlX]; simp) (by simp) hqn I2 h2
      · have hlt' : Qi o.op = false := by simpa using hlt
        have hiX1 : i' ∉ (LX ++ L1).map (·.1) := by
          have hnd := R.nodup
          rw [hlX, List.map_append] at hnd
          exact fun hm => (List.nodup_append.1 hnd).2.2 i' hm i' (by simp) rfl
        have hiS : ¬ (listed.getD i' false = true) := by rw [hif]; simp
        have hrelI := hrel I1 hqn1
        obtain ⟨hopr, hgrd⟩ := operand_rel (φ := φ) (ti := t1) (a := a) (fun _ _ => rfl) hrelI hok.1
        simp only [aRun] at h1
        rw [ho] at h1
        simp only at h1
        -- the slots and the records of those that were run ahead, when i is run on both sides
        have both : ∀ (φ' : Phi) (H' : AH) (W' : World) (v v' : Value), VR φ' v v' → Sim φ' H' W' → Ev φ H1 W φ' H' W' → (∀ j ∈ (LX ++ L1).map (·.1), ¬ (listed.getD j false = true) → ∀ oj, ops[j]? = some oj → ∀ ti : ATmps, (∀ s ∈ Oper.looksAt ops oj, look ti s = look t1 s) → ∀ w, Qz P (aeval ti) H1 oj.op = some w → Qz P (aeval ti) H' oj.op = some w) →
            aRun P ops L2 (Q .normal) (aput t1 o.dst v) H' → wpAnyIn (Fr r) 0 P .any ops (Lift n ds φ0 H0 W0 Q) fuel (listed.setIfInBounds i' true) (a.put o.dst v') W' := by
          intro φ' H' W' v v' hv hS hE hrd hrun
          have hφ := hE.mono I1.sim
          have hno : ∀ j, ¬ ((listed.setIfInBounds i' true).getD j false = true) → j ≠ i' ∧ ¬ (listed.getD j false = true) := fun j hj => ⟨fun e => hj ((hS' j).2 (.inl e)), fun e => hj ((hS' j).2 (.inr e))⟩
          refine ih (LX ++ L1 ++ [(i', hls)]) L2 _ H' φ' _ W' G1 _ (by rw [hlX]; simp) (by simpa using hsz) hu' hc' (fun j hj A B hAB => by obtain ⟨k, hk, hk'⟩ := hqn j hj A B hAB; exact ⟨k, hk, (hS' k).2 hk'.symm⟩) ?_ hrun
          have hmem : ∀ j, j ∈ (LX ++ L1 ++ [(i', hls)]).map (·.1) → j ≠ i' → j ∈ (LX ++ L1).map (·.1) := by
            intro j hj hne
            rw [List.map_append, List.mem_append] at hj
            rcases hj with hj | hj
            · exact hj
            · simp at hj; exact absurd hj hne
          refine ⟨hS, I1.ev.trans hE, fun j hj => ?_, ?_, ?_, fun s hs => ?_, fun j oj hj hjS hoj => ?_, fun j g hj hjS hg => ?_, fun j k g hj hjS hk hkS => ?_⟩
          · rcases (hS' j).1 hj with rfl | hj
            · simp
            · have := I1.sub j hj
              rw [List.map_append]; exact List.mem_append_left _ this
          · cases hdd : o.dst <;> exact I1.defers
          · cases hdd : o.dst with
            | none => exact I1.size
            | some d => simp [Act.put, I1.size]
          · have hold : (∀ d, o.dst = some d → s ≠ d) → VR φ' (look t1 s) (a.tmps.getD s undef) := by
              intro hd
              refine (I1.slots s fun j oj hj hjS hoj => ?_).mono hφ
              have hne : j ≠ i' := fun e => hiX1 (e ▸ hj)
              exact hs j oj (by rw [List.map_append]; exact List.mem_append_left _ hj) (fun h => ((hS' j).1 h).elim hne hjS) hoj
            cases hdd : o.dst with
            | none => exact hold (fun d hd => by rw [hdd] at hd; cases hd)
            | some d =>
              have hd' : d < a.tmps.size := by rw [I1.size]; have := hok.2; rw [hdd] at this; simpa [dstOk] using this
              show VR φ' (if s = d then v else look t1 s) ((a.tmps.setIfInBounds d v').getD s undef)
              rw [getD_set hd']
              split
              · exact hv
              · rename_i e
                exact hold (fun d' hd => by rw [hdd] at hd; cases hd; exact e)
          · obtain ⟨hji, hjS'⟩ := hno j hjS
            have hjX := hmem j hj hji
            have hrec := I1.recs j oj hjX hjS' hoj
            have hfree : (∀ s ∈ Oper.looksAt ops oj, o.dst ≠ some s) ∧ ∀ d, oj.dst = some d → o.dst ≠ some d := by
              refine ⟨fun s hs hd => ?_, fun d hd hd' => ?_⟩
              · rcases (R.rd j i' oj o s hoj hs ho hd).2 with hb | hb
                case inr => exact hjS' (hbr j (hb ((LX ++ L1).map (·.1)) (L2.map (·.1)) (by rw [hlX]; simp) i' (by simp)))
                obtain ⟨A, B, hAB⟩ := List.append_of_mem hjX
                have := before_in R hb A (B ++ i' :: L2.map (·.1)) (by rw [hlX, List.map_append, hAB]; simp)
                exact hiX1 (by rw [hAB]; simp [this])
              · have := R.dst j i' oj o d hoj ho hd hd'
                exact hji this
            obtain ⟨ti, ht1, ht2⟩ := hrec
            refine ⟨ti, fun s hs => by rw [ht1 s hs, look_put (hfree.1 s hs)], ?_⟩
            rcases ht2 with ⟨k1, k2⟩ | ⟨k1, k2, hh⟩
            · exact .inl ⟨k1, fun d hd => by rw [look_put (hfree.2 d hd)]; exact k2 d hd⟩
            · refine .inr ⟨k1, k2, ?_⟩
              rcases hh with ⟨w, m1, m2⟩ | ⟨w, m1, m2⟩ | ⟨cs, vf, x, m1, m0, m2, m3, m4, m5⟩
              · exact .inl ⟨w, m1, fun d hd => by rw [look_put (hfree.2 d hd)]; exact m2 d hd⟩
              · exact .inr (.inl ⟨w, hrd j hjX hjS' oj hoj ti ht1 w m1, fun d hd => by rw [look_put (hfree.2 d hd)]; exact m2 d hd⟩)
              · have hxl := own_lt m4
                exact .inr (.inr ⟨cs, vf, x, m1, m0, (hE.phi x hxl).trans m2, m3, (hE.absf x hxl m2).trans m4, fun d hd => by rw [look_put (hfree.2 d hd)]; exact m5 d hd⟩)
          · obtain ⟨hji, hjS'⟩ := hno j hjS
            exact Nat.lt_of_lt_of_le (I1.glt j g (hmem j hj hji) hjS' hg) hE.len
          · obtain ⟨hji, hjS'⟩ := hno j hjS
            obtain ⟨hki, hkS'⟩ := hno k hkS
            exact I1.ginj j k g (hmem j hj hji) hjS' (hmem k hk hki) hkS'
        split at h1
        · rename_i hw
          rw [aWanted_sound (n := n) hgrd hw]
          simp only [if_true]
          rw [if_neg (by rw [hlt']; simp)] at h1
          refine heavy_sound I1.sim hopr h1 fun v v' φ' H' W' k1 k2 k3 k4 => ?_
          obtain ⟨hheld, hrun⟩ := k2
          refine both φ' H' W' v v' k1 k3 k4 (fun j hj hjS oj hoj ti hti w hw => ?_) hrun
          have hre : ∀ x ∈ oj.op.operands, aeval t1 x = aeval ti x := by
            intro x hx
            cases x with
            | tmp s =>
              have hm : s ∈ Oper.looksAt ops oj := by
                unfold Oper.looksAt
                exact List.mem_append_left _ (List.mem_filterMap.2 ⟨.tmp s, by simpa using hx, rfl⟩)
              exact (hti s hm).symm
            | _ => rfl
          have hw1 := aread_congr hw hre
          rcases R.held (LX ++ L1) i' hls L2 hlX o ho hlt' j hj with hb | hm | hnr
          · exact absurd (hbr j hb) hjS
          · exact aread_congr (hheld j hm oj hoj w hw1) (fun x hx => (hre x hx).symm)
          · have := readsMem_of_aread hw
            rw [hnr oj hoj] at this; cases this
        · rename_i hw
          rw [aWanted_sound (n := n) hgrd hw]
          simp only [Bool.false_eq_true, if_false]
          exact ⟨fun _ _ => trivial, both φ H1 W Qk undef .skip I1.sim (Ev.refl _ _ _) (fun _ _ _ _ _ _ _ _ h => h) h1⟩
        · exact h1.elim
end

/-- THE LAW OF A REGION THAT DRAWS ITS ORDER. -/
theorem awp_region_draw {P : Program} {n id : Nat} {ops : Array Oper} {Q : APost} {t : ATmps} {H : AH} (l : List (Nat × List Nat)) (hm : P.follows .mixedOrders = true) (hk : regOk n ops l = true) (h : aRun P ops l (Q .normal) t H) :
    AWp P n (.region id ops true) Q t H := by
  intro r ds φ W a hS hT
  have R := regOk_spec hk
  refine wpIn_region_any hm ?_
  have hS' : Sim φ H { W with drawn := W.drawn + 1 } := hS.heap rfl
  have hfalse : ∀ j, (Array.replicate ops.size false).getD j false = false := fun j => by
    rcases Nat.lt_or_ge j ops.size with h | h
    · simp [h]
    · simp [h]
  refine aRun_sound (P := P) (n := n) (ops := ops) (φ0 := φ) (H0 := H) (W0 := W) (Q := Q) R ops.size [] l t H φ a { W with drawn := W.drawn + 1 } (fun _ => none) (Array.replicate ops.size false) rfl (by simp)
    (by unfold unl; exact Nat.le_trans List.countP_le_length (by simp)) (fun j o _ hj => (by rw [hfalse] at hj; cases hj)) (fun j hj => (by simp at hj)) ?_ h
  exact ⟨hS', Ev.heap rfl rfl rfl rfl, fun i hi => (by simp only [hfalse] at hi; cases hi), hT.defers, hT.size, fun s _ => hT.rel s, fun i o hi => (by simp at hi), fun i g hi => (by simp at hi), fun i j g hi => (by simp at hi)⟩
end Go.Proofs.YtldfnfpinemedaaDoor
