/- Words of the proofs: a region that draws its order: one law for all orders. -/
import Derived.Test.YtelpdppdhimfoaaB3
namespace Go.Proofs.Ytelpdppdhimfoaa
open Go
set_option linter.unusedSimpArgs false
set_option linter.unusedVariables false

/-! ### what waits for what -/
inductive Before (ops : Array Oper) : Nat → Nat → Prop
  | edge {j : Nat} {o : Oper} {e : Edge} (ho : ops[j]? = some o) (he : e ∈ o.after) (hb : Region.binds .any e = true) : Before ops e.on j
  | trans {i j : Nat} {o : Oper} {e : Edge} (ho : ops[j]? = some o) (he : e ∈ o.after) (hb : Region.binds .any e = true) (h : Before ops i e.on) : Before ops i j

def befRow (acc : Array Nat) (o : Oper) : Nat := o.after.toList.foldl (fun s e => if Region.binds .any e then s ||| 2 ^ e.on ||| acc.getD e.on 0 else s) 0
def befL : List Oper → Array Nat → Array Nat
  | [], acc => acc
  | o :: r, acc => befL r (acc.push (befRow acc o))
theorem befRow_spec (acc : Array Nat) (i : Nat) : ∀ (es : List Edge) (s : Nat), (es.foldl (fun s e => if Region.binds .any e then s ||| 2 ^ e.on ||| acc.getD e.on 0 else s) s).testBit i = true →
    s.testBit i = true ∨ ∃ e ∈ es, Region.binds .any e = true ∧ (e.on = i ∨ (acc.getD e.on 0).testBit i = true)
  | [], s, h => .inl h
  | e :: es, s, h => by
    rw [List.foldl_cons] at h
    rcases befRow_spec acc i es _ h with h | ⟨x, hx, hb, hh⟩
    · split at h
      · rename_i hb
        rw [Nat.testBit_or, Nat.testBit_or, Bool.or_eq_true, Bool.or_eq_true] at h
        rcases h with (h | h) | h
        · exact .inl h
        · refine .inr ⟨e, by simp, hb, .inl ?_⟩
          rw [Nat.testBit_two_pow] at h
          simpa using h
        · exact .inr ⟨e, by simp, hb, .inr h⟩
      · exact .inl h
    · exact .inr ⟨x, by simp [hx], hb, hh⟩
theorem befL_spec {ops : Array Oper} : ∀ (l : List Oper) (acc : Array Nat), (∀ k, l[k]? = ops[acc.size + k]?) → (∀ k i, k < acc.size → (acc.getD k 0).testBit i = true → Before ops i k) → ∀ k i, ((befL l acc).getD k 0).testBit i = true → k < (befL l acc).size → Before ops i k
  | [], acc, _, h, k, i, hb, hk => h k i hk hb
  | o :: r, acc, hl, h, k, i, hb, hk => by
    refine befL_spec r (acc.push (befRow acc o)) (fun j => ?_) (fun j i hj hb => ?_) k i hb hk
    · have := hl (j + 1)
      simp only [Array.size_push]
      rw [show acc.size + 1 + j = acc.size + (j + 1) by omega, ← this]; rfl
    · by_cases hj' : j < acc.size
      · have e : (acc.push (befRow acc o)).getD j 0 = acc.getD j 0 := by
          simp only [Array.getD_eq_getD_getElem?, Array.getElem?_push, if_neg (Nat.ne_of_lt hj')]
        rw [e] at hb
        exact h j i hj' hb
      · have hjs : j = acc.size := by simp at hj; omega
        subst hjs
        have e : (acc.push (befRow acc o)).getD acc.size 0 = befRow acc o := by simp
        rw [e] at hb
        have ho : ops[acc.size]? = some o := by have := hl 0; simpa using this.symm
        rcases befRow_spec acc i _ _ hb with hz | ⟨x, hx, hbx, hh⟩
        · simp at hz
        · rcases hh with rfl | hh
          · exact .edge ho (by simpa using hx) hbx
          · by_cases hxs : x.on < acc.size
            · exact .trans ho (by simpa using hx) hbx (h x.on i hxs hh)
            · simp [Array.getElem?_eq_none (Nat.not_lt.1 hxs)] at hh
def befs (ops : Array Oper) : Array Nat := befL ops.toList #[]
def bfr (bs : Array Nat) (i j : Nat) : Bool := decide (j < bs.size) && (bs.getD j 0).testBit i
theorem bfr_spec {ops : Array Oper} {i j : Nat} (h : bfr (befs ops) i j = true) : Before ops i j := by
  unfold bfr at h
  rw [Bool.and_eq_true, decide_eq_true_eq] at h
  exact befL_spec ops.toList #[] (fun k => by simp) (fun k i hk => by simp at hk) j i h.2 h.1

def readsMem (op : Op) : Bool := match op with | .load .. | .convert .. => true | _ => false
/-- l: the canonical order; beside a heavy operation the reads ahead of it that do not wait with it. -/
def chkLin (ops : Array Oper) : List Nat → Nat → Bool
  | [], _ => true
  | i :: B, done => (!done.testBit i && (match ops[i]? with | some o => o.after.all (fun e => !Region.binds .any e || (decide (e.on < ops.size) && done.testBit e.on)) | none => false)) && chkLin ops B (done ||| 2 ^ i)
def chkHv (ops : Array Oper) (bs : Array Nat) : List Nat → Bool
  | [] => true
  | i :: B => (match ops[i]? with | some o => isLight o.op || B.all (fun j => bfr bs i j) | none => false) && chkHv ops bs B
def chkHeld (ops : Array Oper) (bs : Array Nat) : List Nat → List (Nat × List Nat) → Bool
  | _, [] => true
  | A, (i, hl) :: B => (match ops[i]? with | some o => isLight o.op || A.all (fun j => bfr bs j i || hl.contains j || (match ops[j]? with | some oj => !readsMem oj.op | none => true)) | none => false) && chkHeld ops bs (i :: A) B
def chkDst (ops : Array Oper) : List Oper → Bool
  | [] => true
  | o :: r => (match o.dst with | none => true | some d => r.all (fun x => x.dst != some d)) && chkDst ops r
def chkRd (ops : Array Oper) (bs : Array Nat) (l : List Nat) : Bool :=
  (List.range ops.size).all fun i => (match ops[i]? with
    | some oi => (Oper.looksAt ops oi).all (fun s => (List.range ops.size).all (fun j => (match ops[j]? with
      | some oj => oj.dst != some s || (decide (j ≠ i) && (bfr bs j i || (l.dropWhile (fun k => k != j)).all (fun k => bfr bs i k)))
      | none => true)))
    | none => true)
def regOk (n : Nat) (ops : Array Oper) (l : List (Nat × List Nat)) : Bool :=
  let bs := befs ops
  decide (l.length = ops.size) && (List.range ops.size).all (fun i => (l.map (·.1)).contains i) && chkLin ops (l.map (·.1)) 0 && chkHv ops bs (l.map (·.1)) && chkHeld ops bs [] l && chkDst ops ops.toList && chkRd ops bs (l.map (·.1)) && opsOk n ops

structure RS (n : Nat) (ops : Array Oper) (l : List (Nat × List Nat)) : Prop where
  perm : ∀ i, i < ops.size → i ∈ l.map (·.1)
  nodup : (l.map (·.1)).Nodup
  rng : ∀ i ∈ l.map (·.1), i < ops.size
  lin : ∀ A (i : Nat) B, l.map (·.1) = A ++ i :: B → ∀ o, ops[i]? = some o → ∀ e ∈ o.after, Region.binds .any e = true → e.on ∈ A
  hv : ∀ A (i : Nat) B, l.map (·.1) = A ++ i :: B → ∀ o, ops[i]? = some o → isLight o.op = false → ∀ j ∈ B, Before ops i j
  held : ∀ A (i : Nat) hl B, l = A ++ (i, hl) :: B → ∀ o, ops[i]? = some o → isLight o.op = false → ∀ j ∈ A.map (·.1), Before ops j i ∨ j ∈ hl ∨ ∀ (oj : Oper), ops[j]? = some oj → readsMem oj.op = false
  dst : ∀ (i j : Nat) (oi oj : Oper) d, ops[i]? = some oi → ops[j]? = some oj → oi.dst = some d → oj.dst = some d → i = j
  rd : ∀ (i j : Nat) (oi oj : Oper) s, ops[i]? = some oi → s ∈ Oper.looksAt ops oi → ops[j]? = some oj → oj.dst = some s → j ≠ i ∧ (Before ops j i ∨ ∀ A B, l.map (·.1) = A ++ j :: B → ∀ k ∈ j :: B, Before ops i k)
  ok : ∀ (i : Nat) (o : Oper), ops[i]? = some o → (∀ x ∈ o.op.operands, operandOk x = true) ∧ dstOk n o.dst = true

theorem chkLin_spec {ops : Array Oper} : ∀ (l : List Nat) (done : Nat) (D : List Nat), (∀ i, done.testBit i = true → i ∈ D) → chkLin ops l done = true → ∀ A i B, l = A ++ i :: B → ∀ o, ops[i]? = some o → ∀ e ∈ o.after, Region.binds .any e = true → e.on ∈ A ∨ e.on ∈ D
  | [], done, D, _, _, A, i, B, hl => by simp at hl
  | x :: r, done, D, hD, h, A, i, B, hl => by
    intro o ho e he hb
    simp only [chkLin, Bool.and_eq_true] at h
    obtain ⟨⟨_, h1⟩, h2⟩ := h
    cases A with
    | nil =>
      simp only [List.nil_append, List.cons.injEq] at hl
      obtain ⟨rfl, rfl⟩ := hl
      rw [ho] at h1
      have := Array.all_eq_true_iff_forall_mem.1 h1 e he
      simp only [hb, Bool.not_true, Bool.false_or, Bool.and_eq_true] at this
      exact .inr (hD _ this.2)
    | cons a A =>
      simp only [List.cons_append, List.cons.injEq] at hl
      obtain ⟨rfl, rfl⟩ := hl
      rcases chkLin_spec _ (done ||| 2 ^ x) (x :: D) (fun i hi => by
        rw [Nat.testBit_or, Bool.or_eq_true] at hi
        rcases hi with hi | hi
        · exact List.mem_cons_of_mem _ (hD i hi)
        · rw [Nat.testBit_two_pow] at hi
          simp at hi; simp [hi]) h2 A i B rfl o ho e he hb with h | h
      · exact .inl (List.mem_cons_of_mem _ h)
      · rcases List.mem_cons.1 h with h | h
        · exact .inl (by rw [h]; simp)
        · exact .inr h
theorem chkLin_nodup {ops : Array Oper} : ∀ (l : List Nat) (done : Nat), chkLin ops l done = true → l.Nodup ∧ (∀ i ∈ l, done.testBit i = false) ∧ ∀ i ∈ l, i < ops.size
  | [], _, _ => by simp
  | x :: r, done, h => by
    simp only [chkLin, Bool.and_eq_true, Bool.not_eq_true'] at h
    obtain ⟨⟨h0, h1⟩, h2⟩ := h
    obtain ⟨k1, k2, k3⟩ := chkLin_nodup r _ h2
    have hx : x < ops.size := by
      cases ho : ops[x]? with
      | none => rw [ho] at h1; cases h1
      | some o => exact (Array.getElem?_eq_some_iff.1 ho).1
    refine ⟨List.nodup_cons.2 ⟨fun hm => ?_, k1⟩, fun i hi => ?_, fun i hi => ?_⟩
    · have := k2 x hm
      rw [Nat.testBit_or, Nat.testBit_two_pow_self] at this
      simp at this
    · rcases List.mem_cons.1 hi with rfl | hi
      · exact h0
      · have := k2 i hi
        rw [Nat.testBit_or, Bool.or_eq_false_iff] at this
        exact this.1
    · rcases List.mem_cons.1 hi with rfl | hi
      · exact hx
      · exact k3 i hi
theorem chkHv_spec {ops : Array Oper} : ∀ (l : List Nat), chkHv ops (befs ops) l = true → ∀ A i B, l = A ++ i :: B → ∀ o, ops[i]? = some o → isLight o.op = false → ∀ j ∈ B, Before ops i j
  | [], _, A, i, B, hl => by simp at hl
  | x :: r, h, A, i, B, hl => by
    intro o ho hlt j hj
    simp only [chkHv, Bool.and_eq_true] at h
    cases A with
    | nil =>
      simp only [List.nil_append, List.cons.injEq] at hl
      obtain ⟨rfl, rfl⟩ := hl
      have h1 := h.1
      rw [ho] at h1
      simp only [hlt, Bool.false_or] at h1
      exact bfr_spec (List.all_eq_true.1 h1 j hj)
    | cons a A =>
      simp only [List.cons_append, List.cons.injEq] at hl
      obtain ⟨rfl, rfl⟩ := hl
      exact chkHv_spec _ h.2 A i B rfl o ho hlt j hj
theorem chkHeld_spec {ops : Array Oper} : ∀ (l : List (Nat × List Nat)) (D : List Nat), chkHeld ops (befs ops) D l = true → ∀ A i hl B, l = A ++ (i, hl) :: B → ∀ o, ops[i]? = some o → isLight o.op = false →
    ∀ j, j ∈ A.map (·.1) ∨ j ∈ D → Before ops j i ∨ j ∈ hl ∨ ∀ oj, ops[j]? = some oj → readsMem oj.op = false
  | [], D, _, A, i, hl, B, he => by simp at he
  | (x, xl) :: r, D, h, A, i, hl, B, he => by
    intro o ho hlt j hj
    simp only [chkHeld, Bool.and_eq_true] at h
    cases A with
    | nil =>
      simp only [List.nil_append, List.cons.injEq, Prod.mk.injEq] at he
      obtain ⟨⟨rfl, rfl⟩, rfl⟩ := he
      have h1 := h.1
      rw [ho] at h1
      simp only [hlt, Bool.false_or] at h1
      have hjD : j ∈ D := by simpa using hj
      have := List.all_eq_true.1 h1 j hjD
      simp only [Bool.or_eq_true] at this
      rcases this with (h | h) | h
      · exact .inl (bfr_spec h)
      · exact .inr (.inl (by simpa using h))
      · refine .inr (.inr fun oj hoj => ?_)
        rw [hoj] at h
        simpa using h
    | cons a A =>
      simp only [List.cons_append, List.cons.injEq] at he
      obtain ⟨rfl, rfl⟩ := he
      refine chkHeld_spec _ (x :: D) h.2 A i hl B rfl o ho hlt j ?_
      simp only [List.map_cons, List.mem_cons] at hj ⊢
      rcases hj with (h | h) | h
      · exact .inr (.inl h)
      · exact .inl h
      · exact .inr (.inr h)
theorem chkDst_spec {ops : Array Oper} : ∀ (l : List Oper), chkDst ops l = true → ∀ (i j : Nat) (oi oj : Oper) d, l[i]? = some oi → l[j]? = some oj → oi.dst = some d → oj.dst = some d → i = j
  | [], _, i, j, oi, oj, d, h1, _, _, _ => by simp at h1
  | x :: r, h, i, j, oi, oj, d, h1, h2, h3, h4 => by
    simp only [chkDst, Bool.and_eq_true] at h
    have key : ∀ (k : Nat) (ok : Oper), r[k]? = some ok → x.dst = some d → ok.dst = some d → False := by
      intro k ok hk hx hok
      have h1 := h.1
      rw [hx] at h1
      have := List.all_eq_true.1 h1 ok (List.mem_iff_getElem?.2 ⟨k, hk⟩)
      simp [hok] at this
    cases i with
    | zero =>
      cases j with
      | zero => rfl
      | succ j => simp at h1 h2; subst h1; exact (key j oj h2 h3 h4).elim
    | succ i =>
      cases j with
      | zero => simp at h1 h2; subst h2; exact (key i oi h1 h4 h3).elim
      | succ j => simp at h1 h2; rw [chkDst_spec r h.2 i j oi oj d h1 h2 h3 h4]
theorem dropWhile_to {j : Nat} : ∀ (A B : List Nat), j ∉ A → (A ++ j :: B).dropWhile (fun k => k != j) = j :: B
  | [], B, _ => by simp [List.dropWhile_cons]
  | a :: A, B, h => by
    have ha : a ≠ j := fun e => h (by simp [e])
    rw [List.cons_append, List.dropWhile_cons, if_pos (by simpa using ha)]
    exact dropWhile_to A B (fun hm => h (by simp [hm]))
theorem split_uniq {j : Nat} : ∀ (P Q A B : List Nat), (P ++ j :: Q).Nodup → P ++ j :: Q = A ++ j :: B → Q = B
  | [], Q, [], B, _, e => by simpa using e
  | [], Q, a :: A, B, h, e => by
    simp only [List.nil_append, List.cons_append, List.cons.injEq] at e
    obtain ⟨rfl, rfl⟩ := e
    simp at h
  | p :: P, Q, [], B, h, e => by
    simp only [List.nil_append, List.cons_append, List.cons.injEq] at e
    obtain ⟨rfl, rfl⟩ := e
    simp at h
  | p :: P, Q, a :: A, B, h, e => by
    simp only [List.cons_append, List.cons.injEq] at e
    exact split_uniq P Q A B (by simp only [List.cons_append, List.nodup_cons] at h; exact h.2) e.2
theorem regOk_spec {n : Nat} {ops : Array Oper} {l : List (Nat × List Nat)} (h : regOk n ops l = true) : RS n ops l := by
  simp only [regOk, Bool.and_eq_true, decide_eq_true_eq] at h
  obtain ⟨⟨⟨⟨⟨⟨⟨h1, h2⟩, h3⟩, h4⟩, h5⟩, h6⟩, h7⟩, h8⟩ := h
  have perm : ∀ i, i < ops.size → i ∈ l.map (·.1) := fun i hi => by
    have := List.all_eq_true.1 h2 i (List.mem_range.2 hi)
    simpa using this
  obtain ⟨hnd, _, hrg⟩ := chkLin_nodup _ _ h3
  refine ⟨perm, hnd, hrg, fun A i B hl o ho e he hb => ?_, fun A i B hl o ho hlt => chkHv_spec _ h4 A i B hl o ho hlt, fun A i hl B he o ho hlt j hj => chkHeld_spec l [] h5 A i hl B he o ho hlt j (.inl hj), fun i j oi oj d h1 h2 h3 h4 => chkDst_spec _ h6 i j oi oj d (by simpa using h1) (by simpa using h2) h3 h4, fun i j oi oj s hi hs hj hd => ?_, fun i o ho => ?_⟩
  · rcases chkLin_spec _ 0 [] (fun i hi => by simp at hi) h3 A i B hl o ho e he hb with h | h
    · exact h
    · simp at h
  · have hi' : i < ops.size := (Array.getElem?_eq_some_iff.1 hi).1
    have hj' : j < ops.size := (Array.getElem?_eq_some_iff.1 hj).1
    have k1 := List.all_eq_true.1 h7 i (List.mem_range.2 hi')
    rw [hi] at k1
    have k2 := List.all_eq_true.1 k1 s hs
    have k3 := List.all_eq_true.1 k2 j (List.mem_range.2 hj')
    rw [hj] at k3
    simp only [hd, bne_self_eq_false, Bool.false_or, Bool.and_eq_true, decide_eq_true_eq, Bool.or_eq_true] at k3
    refine ⟨k3.1, k3.2.imp bfr_spec fun k4 A B hl k hk => ?_⟩
    have hjA : j ∉ A := fun hm => by
      rw [hl] at hnd
      exact (List.nodup_append.1 hnd).2.2 j hm j (by simp) rfl
    rw [hl, dropWhile_to A B hjA] at k4
    exact bfr_spec (List.all_eq_true.1 k4 k hk)
  · have := Array.all_eq_true_iff_forall_mem.1 h8 o (Array.mem_of_getElem? ho)
    rw [Bool.and_eq_true] at this
    exact ⟨fun x hx => Array.all_eq_true_iff_forall_mem.1 this.1 x hx, this.2⟩

theorem before_in {n : Nat} {ops : Array Oper} {l : List (Nat × List Nat)} (R : RS n ops l) {i j : Nat} (h : Before ops j i) : ∀ A B, l.map (·.1) = A ++ i :: B → j ∈ A := by
  induction h with
  | edge ho he hb => intro A B hl; exact R.lin A _ B hl _ ho _ he hb
  | @trans i' j' o e ho he hb h ih =>
    intro A B hl
    have hm := R.lin A _ B hl _ ho _ he hb
    obtain ⟨A1, A2, rfl⟩ := List.append_of_mem hm
    have := ih A1 (A2 ++ j' :: B) (by rw [hl]; simp)
    simp [this]
theorem before_irrefl {n : Nat} {ops : Array Oper} {l : List (Nat × List Nat)} (R : RS n ops l) {i : Nat} (hi : i ∈ l.map (·.1)) (h : Before ops i i) : False := by
  obtain ⟨A, B, hAB⟩ := List.append_of_mem hi
  have hm := before_in R h A B hAB
  have hnd := R.nodup
  rw [hAB] at hnd
  exact (List.nodup_append.1 hnd).2.2 i hm i (by simp) rfl
theorem before_closed {ops : Array Oper} {S : Nat → Prop} (hc : ∀ j o, ops[j]? = some o → S j → ∀ e ∈ o.after, Region.binds .any e = true → S e.on) {i j : Nat} (h : Before ops i j) : S j → S i := by
  induction h with
  | edge ho he hb => intro hj; exact hc _ _ ho hj _ he hb
  | trans ho he hb _ ih => intro hj; exact ih (hc _ _ ho hj _ he hb)
/-- All that a ready operation waits for has been run. -/
theorem before_ready {ops : Array Oper} {S : Nat → Prop} (hc : ∀ j o, ops[j]? = some o → S j → ∀ e ∈ o.after, Region.binds .any e = true → S e.on) {i j : Nat} {o : Oper} (ho : ops[j]? = some o)
    (hr : ∀ e ∈ o.after, Region.binds .any e = true → S e.on) (h : Before ops i j) : S i := by
  cases h with
  | edge ho' he hb => rw [ho] at ho'; cases ho'; exact hr _ he hb
  | trans ho' he hb h => rw [ho] at ho'; cases ho'; exact before_closed hc h (hr _ he hb)
end Go.Proofs.Ytelpdppdhimfoaa
