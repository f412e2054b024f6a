/- Words of the proofs: code over abstract memory: regions in the text's order, sequences, branches, loops, a function's body. -/
import Derived.Test.YtelpdppdhimfoaaB2
namespace Go.Proofs.Ytelpdppdhimfoaa
open Go
set_option linter.unusedSimpArgs false
set_option linter.unusedVariables false

abbrev APost := Exit → ATmps → AH → Prop
/-- A post over abstract memory, as one over the machine's. -/
def Lift (n : Nat) (φ : Phi) (H : AH) (W : World) (Q : APost) : Exit → Act → World → Prop := fun e a' W' =>
  ∃ φ' t' H', Q e t' H' ∧ Sim φ' H' W' ∧ TR n φ' t' a' ∧ Ev φ H W φ' H' W'
def AWp (P : Program) (n : Nat) (c : Code) (Q : APost) (t : ATmps) (H : AH) : Prop :=
  ∀ (φ : Phi) (W : World) (a : Act), Sim φ H W → TR n φ t a → c.wp P (Lift n φ H W Q) a W
theorem Lift.mono {n : Nat} {φ : Phi} {H : AH} {W : World} {Q Q' : APost} (h : ∀ e t H, Q e t H → Q' e t H) {e : Exit} {a : Act} {W' : World} (k : Lift n φ H W Q e a W') : Lift n φ H W Q' e a W' :=
  let ⟨φ', t', H', k1, k2⟩ := k; ⟨φ', t', H', h _ _ _ k1, k2⟩
theorem Lift.trans {n : Nat} {φ φ1 : Phi} {H H1 : AH} {W W1 : World} {Q : APost} (hE : Ev φ H W φ1 H1 W1) {e : Exit} {a : Act} {W' : World} (k : Lift n φ1 H1 W1 Q e a W') : Lift n φ H W Q e a W' :=
  let ⟨φ', t', H', k1, k2, k3, k4⟩ := k; ⟨φ', t', H', k1, k2, k3, hE.trans k4⟩
theorem AWp.mono {P : Program} {n : Nat} {c : Code} {Q Q' : APost} {t : ATmps} {H : AH} (h : AWp P n c Q t H) (hq : ∀ e t H, Q e t H → Q' e t H) : AWp P n c Q' t H :=
  fun φ W a hS hT => wp_mono (h φ W a hS hT) fun _ _ _ k => k.mono hq

/-- Slots whose value is let go. -/
def Forgets (t0 t : ATmps) : Prop := ∀ i, look t0 i = undef ∨ look t0 i = look t i
theorem Forgets.nil {t : ATmps} : Forgets [] t := fun _ => .inl rfl
theorem Forgets.cons {t0 t : ATmps} {i : Nat} {v : Value} (h : look t i = v) (k : Forgets t0 t) : Forgets ((i, v) :: t0) t := by
  intro x
  simp only [look]
  split
  · rename_i e; subst e; exact .inr h.symm
  · exact k x
theorem TR.forget {n : Nat} {φ : Phi} {t0 t : ATmps} {a : Act} (h : TR n φ t a) (hf : Forgets t0 t) : TR n φ t0 a :=
  ⟨h.defers, h.size, fun i => by
    rcases hf i with e | e
    · rw [e]; exact .any _
    · rw [e]; exact h.rel i⟩
theorem AWp.forget {P : Program} {n : Nat} {c : Code} {Q : APost} {t0 t : ATmps} {H : AH} (h : AWp P n c Q t0 H) (hf : Forgets t0 t) : AWp P n c Q t H :=
  fun φ W a hS hT => h φ W a hS (hT.forget hf)

theorem awp_skip {P : Program} {n : Nat} {Q : APost} {t : ATmps} {H : AH} (h : Q .normal t H) : AWp P n .skip Q t H :=
  fun φ W a hS hT => wp_skip ⟨φ, t, H, h, hS, hT, Ev.refl _ _ _⟩
theorem awp_exit {P : Program} {n : Nat} {Q : APost} {t : ATmps} {H : AH} {id : Nat} (h : Q (.exit id) t H) : AWp P n (.exit id) Q t H :=
  fun φ W a hS hT => wp_exit ⟨φ, t, H, h, hS, hT, Ev.refl _ _ _⟩
theorem awp_ret {P : Program} {n : Nat} {Q : APost} {t : ATmps} {H : AH} (h : Q .ret t H) : AWp P n .ret Q t H :=
  fun φ W a hS hT => wp_ret ⟨φ, t, H, h, hS, hT, Ev.refl _ _ _⟩
def aThen (K : ATmps → AH → Prop) (Q : APost) : APost
  | .normal, t, H => K t H
  | e, t, H => Q e t H
def aInBlock (id : Nat) (Q : APost) : APost
  | .exit id', t, H => if id' = id then Q .normal t H else Q (.exit id') t H
  | e, t, H => Q e t H
theorem awp_seq {P : Program} {n : Nat} {x y : Code} {Q : APost} {t : ATmps} {H : AH} (h : AWp P n x (aThen (AWp P n y Q) Q) t H) : AWp P n (.seq x y) Q t H := by
  intro φ W a hS hT
  refine wp_seq (wp_mono (h φ W a hS hT) fun e a' W' ⟨φ', t', H', k1, k2, k3, k4⟩ => ?_)
  cases e with
  | normal => exact wp_mono (k1 φ' W' a' k2 k3) fun _ _ _ k => k.trans k4
  | _ => exact ⟨φ', t', H', k1, k2, k3, k4⟩
theorem awp_block {P : Program} {n : Nat} {c : Code} {Q : APost} {t : ATmps} {H : AH} {id : Nat} (h : AWp P n c (aInBlock id Q) t H) : AWp P n (.block id c) Q t H := by
  intro φ W a hS hT
  refine wp_block (wp_mono (h φ W a hS hT) fun e a' W' ⟨φ', t', H', k1, k2, k3, k4⟩ => ?_)
  cases e with
  | exit id' =>
    simp only [Exit.inBlock]
    simp only [aInBlock] at k1
    split
    · rename_i he; rw [if_pos he] at k1; exact ⟨φ', t', H', k1, k2, k3, k4⟩
    · rename_i he; rw [if_neg he] at k1; exact ⟨φ', t', H', k1, k2, k3, k4⟩
  | _ => exact ⟨φ', t', H', k1, k2, k3, k4⟩
theorem awp_cond {P : Program} {n : Nat} {c : Operand} {x y : Code} {Q : APost} {t : ATmps} {H : AH} {b : Bool} (hx : operandOk c = true) (hc : aeval t c = .bool b) (h : AWp P n (if b then x else y) Q t H) : AWp P n (.cond c x y) Q t H := by
  intro φ W a hS hT
  have he := hT.eval hx
  rw [hc] at he
  have he' : a.eval c = .bool b := he.scalar rfl
  exact wp_cond he' (h φ W a hS hT)

/-- A loop: each round leads to a state that is told again, the measure lower. -/
theorem awp_loop {P : Program} {n : Nat} {c : Code} {Q : APost} {ι : Type} (T : ι → ATmps) (G : ι → AH) (I : ι → Prop) (μ : ι → Nat) (i0 : ι) (h0 : I i0)
    (round : ∀ i, I i → AWp P n c (aThen (fun t' H' => ∃ j, I j ∧ Forgets (T j) t' ∧ G j = H' ∧ μ j < μ i) Q) (T i) (G i)) : AWp P n (.loop c) Q (T i0) (G i0) := by
  intro φ W a hS hT
  intro b k cs
  have key : ∀ (m : Nat) (i : ι), μ i = m → I i → ∀ (φ' : Phi) (W' : World) (a' : Act), Sim φ' (G i) W' → TR n φ' (T i) a' → Ev φ (G i0) W φ' (G i) W' →
      ∃ e a2 w2, Lift n φ (G i0) W Q e a2 w2 ∧ Arrives P (lone (b.at a' (.code c :: .inLoop c :: k)) cs W') b k cs e a2 w2 := by
    intro m
    induction m using Nat.strongRecOn with
    | _ m ih =>
      intro i hn hI φ' W' a' hS' hT' hE
      obtain ⟨e, a1, w1, hq, harr⟩ := round i hI φ' W' a' hS' hT' b (.inLoop c :: k) cs
      obtain ⟨φ1, t1, H1, k1, k2, k3, k4⟩ := hq
      cases e with
      | normal =>
        obtain ⟨j, hj, hf, rfl, hlt⟩ := k1
        have hT1 : TR n φ1 (T j) a1 := k3.forget hf
        obtain ⟨e2, a2, w2, hq2, harr2⟩ := ih (μ j) (hn ▸ hlt) j rfl hj φ1 w1 a1 k2 hT1 (hE.trans k4)
        exact ⟨e2, a2, w2, hq2, .of_steps (Steps.trans harr (.one step_inLoop)) harr2⟩
      | exit id => exact ⟨_, a1, w1, ⟨φ1, t1, H1, k1, k2, k3, hE.trans k4⟩, .pass (x := .inLoop c) rfl (fun _ _ => .inl (by simp)) harr⟩
      | goto l => exact ⟨_, a1, w1, ⟨φ1, t1, H1, k1, k2, k3, hE.trans k4⟩, .pass (x := .inLoop c) rfl (fun _ _ => .inl (by simp)) harr⟩
      | ret => exact ⟨_, a1, w1, ⟨φ1, t1, H1, k1, k2, k3, hE.trans k4⟩, .pass (x := .inLoop c) rfl (fun _ _ => .inl (by simp)) harr⟩
      | panic ch => exact ⟨_, a1, w1, ⟨φ1, t1, H1, k1, k2, k3, hE.trans k4⟩, .pass (x := .inLoop c) rfl (fun _ _ => .inl (by simp)) harr⟩
      | outgrown => exact ⟨_, a1, w1, ⟨φ1, t1, H1, k1, k2, k3, hE.trans k4⟩, .pass (x := .inLoop c) rfl (fun _ _ => .inl (by simp)) harr⟩
  obtain ⟨e, a', w', hq, harr⟩ := key _ i0 rfl h0 φ W a hS hT (Ev.refl _ _ _)
  exact ⟨e, a', w', hq, .of_steps (.one step_loop) harr⟩

/-! ### regions -/
def aWanted (ops : Array Oper) (t : ATmps) (o : Oper) : Option Bool :=
  match o.guard with
  | none => some true
  | some (j, want) => match (ops[j]?).bind (·.dst) with
    | some d => match look t d with
      | .bool b => some (b == want)
      | .tuple a => if a.size = 1 then some false else none
      | _ => none
    | none => some false
theorem aWanted_sound {n : Nat} {φ : Phi} {ops : Array Oper} {t : ATmps} {a : Act} {o : Oper} {b : Bool} (hT : ∀ d, (∃ j want, o.guard = some (j, want) ∧ (ops[j]?).bind (·.dst) = some d) → VR φ (look t d) (a.tmps.getD d undef)) (h : aWanted ops t o = some b) : Region.wanted o (yielded ops a.tmps) = b := by
  unfold aWanted at h
  unfold Region.wanted
  split at h
  · rename_i hg; cases h; rw [hg]
  · rename_i j want hg
    rw [hg]
    simp only [yielded]
    split at h
    · rename_i d hd
      rw [hd]
      simp only [Option.bind_some]
      have hv := hT d ⟨j, want, hg, hd⟩
      simp only [Array.getD_eq_getD_getElem?] at hv
      split at h
      · rename_i b' hb
        cases h
        rw [hb] at hv
        have hq := hv.scalar rfl
        cases hx : a.tmps[d]? with
        | none => rw [hx] at hq; simp [undef] at hq
        | some u =>
          rw [hx] at hq
          simp only [Option.getD_some] at hq
          subst hq
          cases b' <;> cases want <;> rfl
      · rename_i arr hb
        split at h
        · rename_i hs
          cases h
          rw [hb] at hv
          cases hx : a.tmps[d]? with
          | none => rfl
          | some u =>
            rw [hx] at hv
            simp only [Option.getD_some] at hv
            cases hv with
            | any => simp at hs
            | skip => rfl
            | tuple => rfl
        · cases h
      · cases h
    · rename_i hd
      cases h
      rw [hd]; rfl

/-- A region's operations in the text's order. -/
noncomputable def aOps (P : Program) (ops : Array Oper) : List Oper → (ATmps → AH → Prop) → ATmps → AH → Prop
  | [], K, t, H => K t H
  | o :: rest, K, t, H => match aWanted ops t o with
    | some true => if isLight o.op = true then andK (aLight P (aeval t) H o.op) (fun v H' => aOps P ops rest K (aput t o.dst v) H')
      else aHeavy P (aeval t) H o.op (fun v H' => aOps P ops rest K (aput t o.dst v) H')
    | some false => aOps P ops rest K (aput t o.dst skipped) H
    | none => False
def opsOk (n : Nat) (ops : Array Oper) : Bool := ops.all fun o => o.op.operands.all operandOk && dstOk n o.dst

theorem aOps_sound {P : Program} {n : Nat} {ops : Array Oper} {Q : APost} {φ0 : Phi} {H0 : AH} {W0 : World} : ∀ (l : List Oper) (t : ATmps) (H : AH) (φ : Phi) (W : World) (a : Act), (∀ o ∈ l, (o.op.operands.all operandOk && dstOk n o.dst) = true) → aOps P ops l (Q .normal) t H → Sim φ H W → TR n φ t a → Ev φ0 H0 W0 φ H W →
    wpList P ops (Lift n φ0 H0 W0 Q) l a W
  | [], t, H, φ, W, a, _, h, hS, hT, hE => ⟨φ, t, H, h, hS, hT, hE⟩
  | o :: rest, t, H, φ, W, a, hk, h, hS, hT, hE => by
    have hk' : ∀ x ∈ rest, (x.op.operands.all operandOk && dstOk n x.dst) = true := fun x hx => hk x (by simp [hx])
    obtain ⟨hk1, hk2⟩ := Bool.and_eq_true_iff.1 (hk o (by simp))
    have hr : ∀ x ∈ o.op.operands, VR φ (aeval t x) (a.eval x) := fun x hx => hT.eval (Array.all_eq_true_iff_forall_mem.1 hk1 x hx)
    refine wpList_step fun K hK => ?_
    simp only [aOps] at h
    split at h
    · rename_i hw
      rw [aWanted_sound (n := n) (fun d _ => hT.rel d) hw]
      simp only [if_true]
      split at h
      · obtain ⟨v, H', h1, h2⟩ := andK_spec h
        obtain ⟨φ', W', v', k1, k2, k3, k4⟩ := light_sound hS h1 hr
        unfold Oper.wp
        rw [k1]
        exact hK _ _ (aOps_sound rest _ H' φ' W' _ hk' h2 k3 ((hT.mono (k4.mono hS)).put hk2 k2) (hE.trans k4))
      · exact heavy_sound hS hr h fun v v' φ' H' W' k1 k2 k3 k4 => hK _ _ (aOps_sound rest _ H' φ' W' _ hk' k2 k3 ((hT.mono (k4.mono hS)).put hk2 k1) (hE.trans k4))
    · rename_i hw
      rw [aWanted_sound (n := n) (fun d _ => hT.rel d) hw]
      simp only [Bool.false_eq_true, if_false]
      exact hK _ _ (aOps_sound rest _ H φ W _ hk' h hS (hT.put hk2 .skip) hE)
    · exact h.elim

theorem awp_region {P : Program} {n : Nat} {id : Nat} {l : List Oper} {Q : APost} {t : ATmps} {H : AH} (hk : opsOk n l.toArray = true) (h : aOps P l.toArray l (Q .normal) t H) : AWp P n (.region id l.toArray false) Q t H := by
  intro φ W a hS hT
  refine wp_region_lit (aOps_sound l t H φ W a (fun o ho => ?_) h hS hT (Ev.refl _ _ _))
  exact Array.all_eq_true_iff_forall_mem.1 hk o (by simpa using ho)

/-! ### a function's body -/
noncomputable def aresult (P : Program) (H : AH) (t : ATmps) : ResultVar → Option Value
  | .tmp i => some (look t i)
  | .cell p ty => aload P H ty (look t p)
noncomputable def aresults (P : Program) (fn : Func) (t : ATmps) (H : AH) : Option Value :=
  match fn.results.toList with
  | [] => some (.tuple #[])
  | [r] => aresult P H t r
  | [r, s] => match aresult P H t r, aresult P H t s with
    | some a, some b => some (.tuple #[a, b])
    | _, _ => none
  | [r, s, u] => match aresult P H t r, aresult P H t s, aresult P H t u with
    | some a, some b, some c => some (.tuple #[a, b, c])
    | _, _, _ => none
  | _ => none
def resultSem (tmps : Array Value) : ResultVar → Sem Value
  | .tmp t => pure (tmps.getD t undef)
  | .cell a t => do loadVar t (← asAddr (tmps.getD a undef))
theorem aresult_sound {P : Program} {φ : Phi} {H : AH} {W : World} {t : ATmps} {t' : Array Value} {r : ResultVar} {v : Value} (hS : Sim φ H W) (hT : ∀ i, VR φ (look t i) (t'.getD i undef)) (h : aresult P H t r = some v) : ∃ v', VR φ v v' ∧ (resultSem t' r).run P W = .ok v' W := by
  cases r with
  | tmp i => cases h; exact ⟨_, hT i, rfl⟩
  | cell p ty =>
    obtain ⟨v', a, h1, h2, h3⟩ := aload_sound hS h (hT p)
    refine ⟨v', h2, ?_⟩
    have h1' : t'[p]?.getD undef = .pointer (some a) := by simpa using h1
    simp [resultSem, h1', asAddr, h3]
theorem aresults_sound {P : Program} {φ : Phi} {H : AH} {W : World} {fn : Func} {t : ATmps} {t' : Array Value} {v : Value} (hS : Sim φ H W) (hT : ∀ i, VR φ (look t i) (t'.getD i undef)) (h : aresults P fn t H = some v) : ∃ v', VR φ v v' ∧ (results fn t').run P W = .ok v' W := by
  have hres : results fn t' = (do
      let vs ← fn.results.mapM (resultSem t')
      pure (if h : vs.size = 1 then vs[0] else .tuple vs)) := by
    unfold results
    congr 1
  rw [hres]
  obtain ⟨l, hl⟩ : ∃ l, fn.results = List.toArray l := ⟨fn.results.toList, by simp⟩
  unfold aresults at h
  rw [hl] at h ⊢
  simp only [Array.mapM_eq_mapM_toList] at h ⊢
  split at h
  · cases h
    exact ⟨.tuple #[], .any _, by simp⟩
  · rename_i r
    obtain ⟨v', k1, k2⟩ := aresult_sound hS hT h
    exact ⟨v', k1, by simp [k2]⟩
  · rename_i r s
    split at h
    · rename_i x y hx hy
      cases h
      obtain ⟨x', k1, k2⟩ := aresult_sound hS hT hx
      obtain ⟨y', m1, m2⟩ := aresult_sound hS hT hy
      refine ⟨.tuple #[x', y'], .tuple rfl fun i h1 _ => ?_, by simp [k2, m2]⟩
      have : i = 0 ∨ i = 1 := by simp at h1; omega
      rcases this with rfl | rfl
      · exact k1
      · exact m1
    · cases h
  · rename_i r s u
    split at h
    · rename_i x y z hx hy hz
      cases h
      obtain ⟨x', k1, k2⟩ := aresult_sound hS hT hx
      obtain ⟨y', m1, m2⟩ := aresult_sound hS hT hy
      obtain ⟨z', n1, n2⟩ := aresult_sound hS hT hz
      refine ⟨.tuple #[x', y', z'], .tuple rfl fun i h1 _ => ?_, by simp [k2, m2, n2]⟩
      have : i = 0 ∨ i = 1 ∨ i = 2 := by simp at h1; omega
      rcases this with rfl | rfl | rfl
      · exact k1
      · exact m1
      · exact n1
    · cases h
  · cases h

/-- The post of a body. -/
def aBody (P : Program) (fn : Func) (R : Value → AH → Prop) : APost
  | .normal, t, H | .ret, t, H => ∃ v, aresults P fn t H = some v ∧ R v H
  | _, _, _ => False
/-- The arguments in their slots. -/
def argsT : Nat → List Value → ATmps
  | _, [] => []
  | k, v :: r => (k, v) :: argsT (k + 1) r
theorem look_argsT : ∀ (l : List Value) (k i : Nat), look (argsT k l) i = if k ≤ i then l.getD (i - k) undef else undef
  | [], k, i => by simp [argsT, look]
  | v :: r, k, i => by
    simp only [argsT, look, look_argsT r (k + 1) i]
    by_cases h : i = k
    · subst h; simp
    · rw [if_neg h]
      by_cases h2 : k + 1 ≤ i
      · rw [if_pos h2, if_pos (by omega), show i - k = (i - (k + 1)) + 1 by omega]; simp
      · rw [if_neg h2, if_neg (by omega)]
theorem acalls_of_body {P : Program} {f : FuncId} {fn : Func} {c : Code} {n : Nat} {args : Array Value} {H : AH} {R : Value → AH → Prop} (hf : P.funcs[f]? = some fn) (hb : fn.body = some c) (hn : fn.ntmps = n) (ha : args.size ≤ n)
    (h : AWp P n c (aBody P fn R) (argsT 0 args.toList) H) : ACalls P f args H R := by
  intro φ W args' hS hA
  refine calls_of_wp hf hb ?_
  have hs : args'.size ≤ n := by rw [← hA.1]; exact ha
  have hT : TR n φ (argsT 0 args.toList) { tmps := args' ++ Array.replicate (fn.ntmps - args'.size) undef, defers := [] } := by
    refine ⟨rfl, by simp [hn]; omega, fun i => ?_⟩
    rw [look_argsT, if_pos (Nat.zero_le _), Nat.sub_zero]
    simp only [Array.getD_eq_getD_getElem?, List.getD_eq_getElem?_getD, Array.getElem?_toList, Array.getElem?_append]
    by_cases hi : i < args'.size
    · have hi' : i < args.size := by rw [hA.1]; exact hi
      rw [if_pos hi, Array.getElem?_eq_getElem hi', Array.getElem?_eq_getElem hi]
      exact hA.2 i hi' hi
    · have hi' : ¬ i < args.size := by rw [hA.1]; exact hi
      rw [Array.getElem?_eq_none (by omega)]
      exact .any _
  refine wp_mono (h φ W _ hS hT) ?_
  rintro e a' W' ⟨φ', t', H', k1, k2, k3, k4⟩
  have fin : (∃ v, aresults P fn t' H' = some v ∧ R v H') → a'.defers = [] ∧ ∃ v, (results fn a'.tmps).run P W' = .ok v W' ∧ ∃ v2 v' H' φ', Ending.returned v = .returned v' ∧ VR φ' v2 v' ∧ R v2 H' ∧ Sim φ' H' W' ∧ Ev φ H W φ' H' W' := by
    rintro ⟨v, hv, hR⟩
    obtain ⟨v', m1, m2⟩ := aresults_sound k2 k3.rel hv
    exact ⟨k3.defers, v', m2, v, v', H', φ', rfl, m1, hR, k2, k4⟩
  cases e with
  | normal => exact fin k1
  | ret => exact fin k1
  | _ => exact k1.elim
end Go.Proofs.Ytelpdppdhimfoaa
