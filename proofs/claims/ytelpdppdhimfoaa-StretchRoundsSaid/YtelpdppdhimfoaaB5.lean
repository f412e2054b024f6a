/- Words of the proofs: a region that draws its order, run in one canonical order: right for every order. -/
import Derived.Test.YtelpdppdhimfoaaB4
namespace Go.Proofs.Ytelpdppdhimfoaa
open Go
set_option linter.unusedSimpArgs false
set_option linter.unusedVariables false

/-- What the reads named in 'is' read is the same in both. -/
def Held (P : Program) (ops : Array Oper) (t : ATmps) (H H' : AH) (is : List Nat) : Prop :=
  ∀ i ∈ is, ∀ o, ops[i]? = some o → ∀ v, aread P (aeval t) H o.op = some v → aread P (aeval t) H' o.op = some v
noncomputable def aRun (P : Program) (ops : Array Oper) : List (Nat × List Nat) → (ATmps → AH → Prop) → ATmps → AH → Prop
  | [], K, t, H => K t H
  | (i, hl) :: rest, K, t, H => match ops[i]? with
    | none => False
    | some o => match aWanted ops t o with
      | some true => if isLight o.op = true then andK (aLight P (aeval t) H o.op) (fun v H' => aRun P ops rest K (aput t o.dst v) H')
        else aHeavy P (aeval t) H o.op (fun v H' => Held P ops t H H' hl ∧ aRun P ops rest K (aput t o.dst v) H')
      | some false => aRun P ops rest K (aput t o.dst skipped) H
      | none => False

theorem aread_congr {P : Program} {ρ ρ' : Operand → Value} {H : AH} {op : Op} {v : Value} (h : aread P ρ H op = some v) (hr : ∀ x ∈ op.operands, ρ' x = ρ x) : aread P ρ' H op = some v := by
  cases op <;> simp only [aread, reduceCtorEq] at h ⊢
  case load t x => rw [hr x (by simp [Op.operands])]; exact h
  case convert s d x => rw [hr x (by simp [Op.operands])]; exact h
theorem aread_push {P : Program} {ρ : Operand → Value} {H : AH} {op : Op} {v : Value} (b : ABlk) (h : aread P ρ H op = some v) : aread P ρ (H ++ [b]) op = some v := by
  have key : ∀ g cs, H.cells g = some cs → AH.cells (H ++ [b]) g = some cs := by
    intro g cs hg
    have hlt : g < H.length := by
      rcases AH.cells_cases hg with h | h <;> exact (List.getElem?_eq_some_iff.1 h).1
    unfold AH.cells at hg ⊢
    rw [get_push_lt hlt]; exact hg
  cases op <;> simp only [aread, reduceCtorEq] at h ⊢
  case load t x =>
    unfold aload at h ⊢
    split at h
    · rename_i g o hx
      split at h
      · rename_i cs n hg ha; rw [key _ _ hg, ha]; exact h
      · rename_i cs hg ha; rw [key _ _ hg, ha]; exact h
      · cases h
    · cases h
  case convert s d x =>
    split at h
    · rename_i hc
      rw [if_pos hc]
      split at h
      · exact h
      · rename_i g o n c hx
        split at h
        · rename_i hn; rw [if_pos hn]; exact h
        · rename_i hn
          rw [if_neg hn]
          split at h
          · rename_i cs hg; rw [key _ _ hg]; exact h
          · cases h
      · cases h
    · cases h
theorem readsMem_of_aread {P : Program} {ρ : Operand → Value} {H : AH} {op : Op} {v : Value} (h : aread P ρ H op = some v) : readsMem op = true := by
  cases op <;> simp only [aread, reduceCtorEq] at h <;> rfl

/-- What is told of an operation that has been run over abstract memory alone. -/
def Rec (P : Program) (ops : Array Oper) (φ : Phi) (H : AH) (t : ATmps) (h0 : Nat) (g : Option Nat) (o : Oper) : Prop :=
  ∃ ti : ATmps, (∀ s ∈ Oper.looksAt ops o, look ti s = look t s) ∧
  ((aWanted ops ti o = some false ∧ ∀ d, o.dst = some d → look t d = skipped) ∨
   (aWanted ops ti o = some true ∧ isLight o.op = true ∧
    ((∃ v, apure P (aeval ti) o.op = some v ∧ ∀ d, o.dst = some d → look t d = v) ∨
     (∃ v, aread P (aeval ti) H o.op = some v ∧ ∀ d, o.dst = some d → look t d = v) ∨
     (∃ cs vf x, anew P (aeval ti) o.op = some (cs, vf) ∧ g = some x ∧ φ x = none ∧ h0 ≤ x ∧ H[x]? = some (.own cs) ∧ ∀ d, o.dst = some d → look t d = vf x))))

structure DInv (P : Program) (n : Nat) (ops : Array Oper) (φ0 : Phi) (H0 : AH) (W0 : World) (S : Nat → Prop) (X : List Nat) (φ : Phi) (t : ATmps) (H : AH) (a : Act) (W : World) (G : Nat → Option Nat) : Prop where
  sim : Sim φ H W
  ev : Ev φ0 H0 W0 φ H W
  sub : ∀ i, S i → i ∈ X
  defers : a.defers = []
  size : a.tmps.size = n
  slots : ∀ s, (∀ i o, i ∈ X → ¬ S i → ops[i]? = some o → o.dst ≠ some s) → VR φ (look t s) (a.tmps.getD s undef)
  recs : ∀ i o, i ∈ X → ¬ S i → ops[i]? = some o → Rec P ops φ H t H0.length (G i) o
  glt : ∀ i g, i ∈ X → ¬ S i → G i = some g → g < H.length
  ginj : ∀ i j g, i ∈ X → ¬ S i → j ∈ X → ¬ S j → G i = some g → G j = some g → i = j

theorem look_put {t : ATmps} {dst : Option Tmp} {v : Value} {s : Nat} (h : dst ≠ some s) : look (aput t dst v) s = look t s := by
  cases dst with
  | none => rfl
  | some d =>
    show (if s = d then v else look t s) = look t s
    rw [if_neg]
    rintro rfl
    exact h rfl
theorem look_put_self {t : ATmps} {d : Nat} {v : Value} : look (aput t (some d) v) d = v := by
  show (if d = d then v else look t d) = v
  rw [if_pos rfl]

/-- The operands of an operation, all of whose writers have been run. -/
theorem operand_rel {ops : Array Oper} {φ : Phi} {t ti : ATmps} {a : Act} {o : Oper} (hs : ∀ s ∈ Oper.looksAt ops o, look ti s = look t s) (hv : ∀ s ∈ Oper.looksAt ops o, VR φ (look t s) (a.tmps.getD s undef)) (hk : ∀ x ∈ o.op.operands, operandOk x = true) :
    (∀ x ∈ o.op.operands, VR φ (aeval ti x) (a.eval x)) ∧ ∀ d, (∃ j want, o.guard = some (j, want) ∧ (ops[j]?).bind (·.dst) = some d) → VR φ (look ti d) (a.tmps.getD d undef) := by
  constructor
  · intro x hx
    cases x with
    | tmp s =>
      have hm : s ∈ Oper.looksAt ops o := by
        unfold Oper.looksAt
        refine List.mem_append_left _ (List.mem_filterMap.2 ⟨.tmp s, by simpa using hx, rfl⟩)
      show VR φ (look ti s) (a.tmps.getD s undef)
      rw [hs s hm]; exact hv s hm
    | const v => exact VR.plain (hk _ hx)
    | global g => exact .any _
    | func f => exact .func _ rfl rfl (fun i h1 _ => by simp at h1) (fun i h1 _ => by simp at h1)
  · rintro d ⟨j, want, hg, hd⟩
    have hm : d ∈ Oper.looksAt ops o := by
      unfold Oper.looksAt
      refine List.mem_append_right _ ?_
      rw [hg]
      simp only
      rw [hd]; simp
    rw [hs d hm]; exact hv d hm

section
variable {P : Program} {n : Nat} {ops : Array Oper} {φ0 : Phi} {H0 : AH} {W0 : World} {l : List (Nat × List Nat)}

/-- A record stands when another operation is run over abstract memory. -/
theorem Rec.put {φ : Phi} {H H' : AH} {t : ATmps} {h0 : Nat} {g : Option Nat} {o : Oper} {dst : Option Tmp} {v : Value} (h : Rec P ops φ H t h0 g o) (h1 : ∀ s ∈ Oper.looksAt ops o, dst ≠ some s) (h2 : ∀ d, o.dst = some d → dst ≠ some d)
    (hH : ∀ ρ w, aread P ρ H o.op = some w → aread P ρ H' o.op = some w) (hg : ∀ x b, g = some x → φ x = none → H[x]? = some b → H'[x]? = some b) : Rec P ops φ H' (aput t dst v) h0 g o := by
  obtain ⟨ti, hti, hh⟩ := h
  refine ⟨ti, fun s hs => by rw [hti s hs, look_put (h1 s hs)], ?_⟩
  rcases hh with ⟨k1, k2⟩ | ⟨k1, k2, hh⟩
  · exact .inl ⟨k1, fun d hd => by rw [look_put (h2 d hd)]; exact k2 d hd⟩
  · refine .inr ⟨k1, k2, ?_⟩
    rcases hh with ⟨w, m1, m2⟩ | ⟨w, m1, m2⟩ | ⟨cs, vf, x, m1, m0, m2, m3, m4, m5⟩
    · exact .inl ⟨w, m1, fun d hd => by rw [look_put (h2 d hd)]; exact m2 d hd⟩
    · exact .inr (.inl ⟨w, hH _ _ m1, fun d hd => by rw [look_put (h2 d hd)]; exact m2 d hd⟩)
    · exact .inr (.inr ⟨cs, vf, x, m1, m0, m2, m3, hg x _ m0 m2 m4, fun d hd => by rw [look_put (h2 d hd)]; exact m5 d hd⟩)

/-- Light operations are run ahead over abstract memory. -/
theorem anticipate (R : RS n ops l) {S : Nat → Prop} {φ : Phi} {a : Act} {W : World} {K : ATmps → AH → Prop} (e : Nat) (hbe : ∀ p, Before ops p e → S p) : ∀ (L1 L2 : List (Nat × List Nat)) (X : List Nat) (t : ATmps) (H : AH) (G : Nat → Option Nat), l.map (·.1) = X ++ (L1.map (·.1) ++ L2.map (·.1)) →
    (∀ A i B, L1.map (·.1) = A ++ i :: B → e ∈ i :: (B ++ L2.map (·.1))) →
    (∀ i ∈ L1.map (·.1), ∀ o, ops[i]? = some o → isLight o.op = true) → DInv P n ops φ0 H0 W0 S X φ t H a W G → aRun P ops (L1 ++ L2) K t H →
    ∃ t' H' G', DInv P n ops φ0 H0 W0 S (X ++ L1.map (·.1)) φ t' H' a W G' ∧ aRun P ops L2 K t' H'
  | [], L2, X, t, H, G, _, _, _, I, h => ⟨t, H, G, by simpa using I, h⟩
  | (i, hl) :: L1, L2, X, t, H, G, hX, he, hlt, I, h => by
    simp only [List.map_cons, List.cons_append] at hX
    have hnd := R.nodup
    rw [hX] at hnd
    have hiX : i ∉ X := fun hm => by
      have := List.nodup_append.1 hnd
      exact this.2.2 i hm i (by simp) rfl
    have hiS : ¬ S i := fun hs => hiX (I.sub i hs)
    simp only [List.cons_append, aRun] at h
    cases ho : ops[i]? with
    | none => rw [ho] at h; exact h.elim
    | some o =>
      rw [ho] at h
      simp only at h
      -- a slot that an operation run ahead looks at, or writes, is not i's
      have hfree : ∀ j oj, j ∈ X → ¬ S j → ops[j]? = some oj → (∀ s ∈ Oper.looksAt ops oj, o.dst ≠ some s) ∧ ∀ d, oj.dst = some d → o.dst ≠ some d := by
        intro j oj hj hjS hoj
        refine ⟨fun s hs hd => ?_, fun d hd hd' => ?_⟩
        · rcases (R.rd j i oj o s hoj hs ho hd).2 with hb | hb
          case inr => exact hjS (hbe j (hb X _ hX e (he [] i (L1.map (·.1)) rfl)))
          obtain ⟨A, B, rfl⟩ := List.append_of_mem hj
          have := before_in R hb A (B ++ i :: (L1.map (·.1) ++ L2.map (·.1))) (by rw [hX]; simp)
          exact hiX (by simp [this])
        · have := R.dst j i oj o d hoj ho hd hd'
          subst this; exact hiX hj
      have hown : ∀ s ∈ Oper.looksAt ops o, o.dst ≠ some s := fun s hs hd => (R.rd i i o o s ho hs ho hd).1 rfl
      have step : ∀ (v : Value) (H' : AH) (g : Option Nat), Sim φ H' W → Ev φ H W φ H' W → (∀ ρ (op : Op) w, aread P ρ H op = some w → aread P ρ H' op = some w) → (∀ (x : Nat) b, H[x]? = some b → H'[x]? = some b) → (∀ y, g = some y → H.length ≤ y ∧ y < H'.length) →
          Rec P ops φ H' (aput t o.dst v) H0.length g o → aRun P ops (L1 ++ L2) K (aput t o.dst v) H' → ∃ t' H'' G', DInv P n ops φ0 H0 W0 S (X ++ (i :: L1.map (·.1))) φ t' H'' a W G' ∧ aRun P ops L2 K t' H'' := by
        intro v H' g hS' hE' hrd hget hgl hrec hrun
        have hlen : H.length ≤ H'.length := hE'.len
        have I' : DInv P n ops φ0 H0 W0 S (X ++ [i]) φ (aput t o.dst v) H' a W (fun x => if x = i then g else G x) := by
          refine ⟨hS', I.ev.trans hE', fun j hj => by simp [I.sub j hj], I.defers, I.size, fun s hs => ?_, fun j oj hj hjS hoj => ?_, fun j y hj hjS hy => ?_, fun j k y hj hjS hk hkS hy hy' => ?_⟩
          · have hd : o.dst ≠ some s := hs i o (by simp) hiS ho
            rw [look_put hd]
            exact I.slots s fun j oj hj hjS hoj => hs j oj (by simp [hj]) hjS hoj
          · by_cases e : j = i
            · subst e
              rw [ho] at hoj; cases hoj
              simpa using hrec
            · have hjX : j ∈ X := by simpa [e] using hj
              simp only [if_neg e]
              have := I.recs j oj hjX hjS hoj
              exact this.put (hfree j oj hjX hjS hoj).1 (hfree j oj hjX hjS hoj).2 (fun ρ w => hrd ρ oj.op w) (fun x b _ _ hx => hget _ _ hx)
          · by_cases e : j = i
            · simp only [if_pos e] at hy; exact (hgl y hy).2
            · have hjX : j ∈ X := by simpa [e] using hj
              simp only [if_neg e] at hy
              exact Nat.lt_of_lt_of_le (I.glt j y hjX hjS hy) hlen
          · by_cases e : j = i
            · by_cases e' : k = i
              · rw [e, e']
              · have hkX : k ∈ X := by simpa [e'] using hk
                simp only [if_pos e] at hy
                simp only [if_neg e'] at hy'
                have h1 := (hgl y hy).1
                have h2 := I.glt k y hkX hkS hy'
                omega
            · have hjX : j ∈ X := by simpa [e] using hj
              simp only [if_neg e] at hy
              by_cases e' : k = i
              · simp only [if_pos e'] at hy'
                have h1 := (hgl y hy').1
                have h2 := I.glt j y hjX hjS hy
                omega
              · have hkX : k ∈ X := by simpa [e'] using hk
                simp only [if_neg e'] at hy'
                exact I.ginj j k y hjX hjS hkX hkS hy hy'
        have := anticipate R (S := S) (φ := φ) (a := a) (W := W) (K := K) e hbe L1 L2 (X ++ [i]) _ H' _ (by rw [hX]; simp) (fun A k B hk => he (i :: A) k B (by rw [List.map_cons, hk]; rfl)) (fun j hj => hlt j (by simp [hj])) I' hrun
        simpa using this
      split at h
      · rename_i hw
        have hl' := hlt i (by simp) o ho
        rw [if_pos hl'] at h
        obtain ⟨v, H', hL, hrun⟩ := andK_spec h
        rcases aLight_cases hL with ⟨hp, rfl⟩ | ⟨hp, rfl⟩ | ⟨cs, vf, hp, rfl, rfl⟩
        · refine step v _ none I.sim (Ev.refl _ _ _) (fun _ _ _ h => h) (fun _ _ h => h) (fun y hy => by cases hy) ?_ hrun
          exact ⟨t, fun s hs => (look_put (hown s hs)).symm, .inr ⟨hw, hl', .inl ⟨v, hp, fun d hd => by rw [hd, look_put_self]⟩⟩⟩
        · refine step v _ none I.sim (Ev.refl _ _ _) (fun _ _ _ h => h) (fun _ _ h => h) (fun y hy => by cases hy) ?_ hrun
          exact ⟨t, fun s hs => (look_put (hown s hs)).symm, .inr ⟨hw, hl', .inr (.inl ⟨v, hp, fun d hd => by rw [hd, look_put_self]⟩)⟩⟩
        · refine step _ _ (some H.length) (I.sim.push _) (Ev.push I.sim _) (fun ρ op w => aread_push _) (fun x b hx => by rw [get_push_lt (own_lt hx)]; exact hx) (fun y hy => by cases hy; simp) ?_ hrun
          exact ⟨t, fun s hs => (look_put (hown s hs)).symm, .inr ⟨hw, hl', .inr (.inr ⟨cs, vf, H.length, hp, rfl, I.sim.fresh_none (Nat.le_refl _), I.ev.len, get_push_eq, fun d hd => by rw [hd, look_put_self]⟩)⟩⟩
      · rename_i hw
        refine step skipped H none I.sim (Ev.refl _ _ _) (fun _ _ _ h => h) (fun _ _ h => h) (fun y hy => by cases hy) ?_ h
        exact ⟨t, fun s hs => (look_put (hown s hs)).symm, .inl ⟨hw, fun d hd => by rw [hd, look_put_self]⟩⟩
      · exact h.elim
end
end Go.Proofs.Ytelpdppdhimfoaa
