/- Words of the proofs: the law of regions that draw their order. -/
import Derived.Test.YtelpdppdhimfoaaB5
namespace Go.Proofs.Ytelpdppdhimfoaa
open Go
set_option linter.unusedSimpArgs false
set_option linter.unusedVariables false

theorem countP_lt {p q : Nat → Bool} : ∀ l : List Nat, (∀ x ∈ l, q x = true → p x = true) → (∃ x ∈ l, p x = true ∧ q x = false) → l.countP q < l.countP p
  | [], _, ⟨x, hx, _⟩ => by simp at hx
  | y :: l, h, ⟨x, hx, h1, h2⟩ => by
    have hle : l.countP q ≤ l.countP p := List.countP_mono_left fun x hx => h x (by simp [hx])
    rcases List.mem_cons.1 hx with rfl | hx
    · rw [List.countP_cons_of_pos h1, List.countP_cons_of_neg (by simp [h2])]; omega
    · have ih := countP_lt l (fun x hx => h x (by simp [hx])) ⟨x, hx, h1, h2⟩
      have := h y (by simp)
      simp only [List.countP_cons]
      by_cases hq : q y = true
      · simp [hq, this hq]; exact ih
      · simp [hq]; split <;> omega
def unl (ops : Array Oper) (listed : Array Bool) : Nat := (List.range ops.size).countP fun i => !listed.getD i false
theorem getD_of_true {listed : Array Bool} {i : Nat} (h : listed.getD i true = false) : i < listed.size ∧ listed.getD i false = false := by
  rcases Nat.lt_or_ge i listed.size with h' | h'
  · simp [h'] at h ⊢; exact h
  · simp [Array.getElem?_eq_none h'] at h
theorem getD_setT {listed : Array Bool} {i j : Nat} (hi : i < listed.size) : (listed.setIfInBounds i true).getD j false = true ↔ j = i ∨ listed.getD j false = true := by
  by_cases e : i = j
  · subst e; simp [hi]
  · simp [Array.getElem?_setIfInBounds_ne e, Ne.symm e]
theorem unl_lt {ops : Array Oper} {listed : Array Bool} {i : Nat} (hi : i < listed.size) (hs : i < ops.size) (h : listed.getD i false = false) : unl ops (listed.setIfInBounds i true) < unl ops listed := by
  refine countP_lt _ (fun x _ hx => ?_) ⟨i, List.mem_range.2 hs, by simp only [h, Bool.not_false], by
    have := (getD_setT (listed := listed) (i := i) (j := i) hi).2 (.inl rfl)
    simp only [this, Bool.not_true]⟩
  simp only [Bool.not_eq_true'] at hx ⊢
  cases hl : listed.getD x false with
  | false => rfl
  | true =>
    have := (getD_setT (listed := listed) (i := i) (j := x) hi).2 (.inr hl)
    rw [this] at hx; cases hx

section
variable {P : Program} {n : Nat} {ops : Array Oper} {φ0 : Phi} {H0 : AH} {W0 : World} {l : List (Nat × List Nat)} {Q : APost}

/-- An operation that was run ahead is run by the machine. -/
theorem DInv.done {S S' : Nat → Prop} {X : List Nat} {φ φ' : Phi} {t : ATmps} {H : AH} {a : Act} {W W' : World} {G : Nat → Option Nat} {i : Nat} {o : Oper} {v' : Value} (I : DInv P n ops φ0 H0 W0 S X φ t H a W G) (hS' : ∀ j, S' j ↔ j = i ∨ S j) (hiX : i ∈ X) (hiS : ¬ S i) (ho : ops[i]? = some o)
    (hd : dstOk n o.dst = true) (hφ : ∀ g bi, φ g = some bi → φ' g = some bi) (sim : Sim φ' H W') (ev : Ev φ0 H0 W0 φ' H W') (hv : ∀ d, o.dst = some d → VR φ' (look t d) v') (hG : ∀ j x, j ≠ i → j ∈ X → ¬ S j → G j = some x → φ x = none → φ' x = none) :
    DInv P n ops φ0 H0 W0 S' X φ' t H (a.put o.dst v') W' G := by
  have hno : ∀ j, ¬ S' j → j ≠ i ∧ ¬ S j := fun j hj => ⟨fun e => hj ((hS' j).2 (.inl e)), fun e => hj ((hS' j).2 (.inr e))⟩
  refine ⟨sim, ev, fun j hj => ?_, ?_, ?_, fun s hs => ?_, fun j oj hj hjS hoj => ?_, fun j g hj hjS => I.glt j g hj (hno j hjS).2, fun j k g hj hjS hk hkS => I.ginj j k g hj (hno j hjS).2 hk (hno k hkS).2⟩
  · rcases (hS' j).1 hj with rfl | h
    · exact hiX
    · exact I.sub j h
  · cases hdd : o.dst <;> exact I.defers
  · cases hdd : o.dst with
    | none => exact I.size
    | some d => simp [Act.put, I.size]
  · cases hdd : o.dst with
    | none =>
      refine (I.slots s fun j oj hj hjS hoj => ?_).mono hφ
      by_cases e : j = i
      · subst e; rw [ho] at hoj; cases hoj; rw [hdd]; simp
      · exact hs j oj hj (fun h => ((hS' j).1 h).elim e hjS) hoj
    | some d =>
      have hd' : d < a.tmps.size := by rw [I.size]; rw [hdd] at hd; simpa [dstOk] using hd
      show VR φ' (look t s) ((a.tmps.setIfInBounds d v').getD s undef)
      rw [getD_set hd']
      split
      · rename_i e; subst e; exact hv s hdd
      · rename_i e
        refine (I.slots s fun j oj hj hjS hoj => ?_).mono hφ
        by_cases e' : j = i
        · subst e'; rw [ho] at hoj; cases hoj; rw [hdd]; intro h; cases h; exact e rfl
        · exact hs j oj hj (fun h => ((hS' j).1 h).elim e' hjS) hoj
  · obtain ⟨hji, hjS'⟩ := hno j hjS
    obtain ⟨ti, h1, h2⟩ := I.recs j oj hj hjS' hoj
    refine ⟨ti, h1, ?_⟩
    rcases h2 with h2 | ⟨k1, k2, h2⟩
    · exact .inl h2
    · refine .inr ⟨k1, k2, ?_⟩
      rcases h2 with h2 | h2 | ⟨cs, vf, x, m1, m2, m3, m4⟩
      · exact .inl h2
      · exact .inr (.inl h2)
      · exact .inr (.inr ⟨cs, vf, x, m1, m2, hG j x hji hj hjS' m2 m3, m4⟩)

theorem aRun_sound (R : RS n ops l) : ∀ (fuel : Nat) (LX L : List (Nat × List Nat)) (t : ATmps) (H : AH) (φ : Phi) (a : Act) (W : World) (G : Nat → Option Nat) (listed : Array Bool), l = LX ++ L → listed.size = ops.size → unl ops listed ≤ fuel →
    (∀ j o, ops[j]? = some o → listed.getD j false = true → ∀ e ∈ o.after, Region.binds .any e = true → listed.getD e.on false = true) →
    (∀ j ∈ LX.map (·.1), ∀ A B, l.map (·.1) = A ++ j :: B → ∃ k ∈ j :: B, listed.getD k false = true) →
    DInv P n ops φ0 H0 W0 (fun i => listed.getD i false = true) (LX.map (·.1)) φ t H a W G → aRun P ops L (Q .normal) t H → wpAny P .any ops (Lift n φ0 H0 W0 Q) fuel listed a W := by
  intro fuel
  induction fuel with
  | zero =>
    intro LX L t H φ a W G listed hl hsz hu hc hlast I h
    have hall : ∀ i, i < ops.size → listed.getD i false = true := fun i hi => by
      have h0 : unl ops listed = 0 := by omega
      unfold unl at h0
      rw [List.countP_eq_zero] at h0
      have := h0 i (List.mem_range.2 hi)
      simpa using this
    refine ⟨?_, ?_⟩
    · rw [List.eq_nil_iff_forall_not_mem]
      intro i hi
      obtain ⟨h1, o, ho, _⟩ := mem_ready.1 hi
      have := hall i (Array.getElem?_eq_some_iff.1 ho).1
      rw [(getD_of_true h1).2] at this; cases this
    · have hL : L = [] := by
        cases L with
        | nil => rfl
        | cons x L =>
          have hx : x.1 ∈ LX.map (·.1) := I.sub _ (hall _ (R.rng _ (by rw [hl]; simp)))
          have hnd := R.nodup
          rw [hl, List.map_append] at hnd
          exact ((List.nodup_append.1 hnd).2.2 x.1 hx x.1 (by simp) rfl).elim
      subst hL
      refine ⟨φ, t, H, h, I.sim, ⟨I.defers, I.size, fun s => I.slots s fun i o hi hiS ho => ?_⟩, I.ev⟩
      exact absurd (hall i (Array.getElem?_eq_some_iff.1 ho).1) hiS
  | succ fuel ih =>
    intro LX L t H φ a W G listed hl hsz hu hc hlast I h
    -- all have been run, or one is ready
    have hend : Region.ready .any ops listed = [] → Lift n φ0 H0 W0 Q .normal a W := by
      intro hr
      have hall : ∀ k, ∀ i ∈ (l.map (·.1)).take k, listed.getD i false = true := by
        intro k
        induction k with
        | zero => intro i hi; simp at hi
        | succ k ihk =>
          intro i hi
          rcases Nat.lt_or_ge k (l.map (·.1)).length with hk | hk
          · have hsplit : l.map (·.1) = (l.map (·.1)).take k ++ (l.map (·.1))[k] :: (l.map (·.1)).drop (k + 1) := by
              rw [← List.drop_eq_getElem_cons hk, List.take_append_drop]
            rw [List.take_succ_eq_append_getElem hk] at hi
            rcases List.mem_append.1 hi with hi | hi
            · exact ihk i hi
            · have hix : i = (l.map (·.1))[k] := by simpa using hi
              by_cases hx : listed.getD i false = true
              · exact hx
              · exfalso
                have hlt : i < ops.size := R.rng i (by rw [hix]; exact List.getElem_mem _)
                have ho : ops[i]? = some ops[i] := Array.getElem?_eq_getElem hlt
                have hm : i ∈ Region.ready .any ops listed := by
                  rw [mem_ready]
                  refine ⟨?_, ops[i], ho, fun e he hb => ihk _ (R.lin _ i _ (by rw [hix]; exact hsplit) _ ho e he hb)⟩
                  have hlt' : i < listed.size := by rw [hsz]; exact hlt
                  simp [hlt'] at hx ⊢; exact hx
                rw [hr] at hm; simp at hm
          · rw [List.take_of_length_le (by omega)] at hi
            exact ihk i (by rw [List.take_of_length_le hk]; exact hi)
      have hall' : ∀ i, i < ops.size → listed.getD i false = true := fun i hi => hall (l.map (·.1)).length i (by rw [List.take_of_length_le (Nat.le_refl _)]; exact R.perm i hi)
      have hL : L = [] := by
        cases L with
        | nil => rfl
        | cons x L =>
          have hx : x.1 ∈ LX.map (·.1) := I.sub _ (hall' _ (R.rng _ (by rw [hl]; simp)))
          have hnd := R.nodup
          rw [hl, List.map_append] at hnd
          exact ((List.nodup_append.1 hnd).2.2 x.1 hx x.1 (by simp) rfl).elim
      subst hL
      refine ⟨φ, t, H, h, I.sim, ⟨I.defers, I.size, fun s => I.slots s fun i o hi hiS ho => ?_⟩, I.ev⟩
      exact absurd (hall' i (Array.getElem?_eq_some_iff.1 ho).1) hiS
    refine ⟨hend, fun i hi => ?_⟩
    obtain ⟨hi0, o, ho, hpre⟩ := mem_ready.1 hi
    obtain ⟨hil, hif⟩ := getD_of_true hi0
    have hios : i < ops.size := (Array.getElem?_eq_some_iff.1 ho).1
    have hu' : unl ops (listed.setIfInBounds i true) ≤ fuel := by have := unl_lt hil hios hif; omega
    have hS' : ∀ j, (listed.setIfInBounds i true).getD j false = true ↔ j = i ∨ listed.getD j false = true := fun j => getD_setT hil
    have hc' : ∀ j o, ops[j]? = some o → (listed.setIfInBounds i true).getD j false = true → ∀ e ∈ o.after, Region.binds .any e = true → (listed.setIfInBounds i true).getD e.on false = true := by
      intro j oj hoj hj e he hb
      refine (hS' _).2 (.inr ?_)
      rcases (hS' j).1 hj with rfl | hj
      · rw [ho] at hoj; cases hoj; exact hpre e he hb
      · exact hc j oj hoj hj e he hb
    have hbr : ∀ j, Before ops j i → listed.getD j false = true := fun j hb => before_ready hc ho hpre hb
    have hok := R.ok i o ho
    -- what i looks at has been written
    have hrel : ∀ {X : List Nat} {t : ATmps} {H : AH} {G : Nat → Option Nat}, DInv P n ops φ0 H0 W0 (fun i => listed.getD i false = true) X φ t H a W G → (∀ j ∈ X, ∀ A B, l.map (·.1) = A ++ j :: B → ∃ k ∈ j :: B, listed.getD k false = true ∨ k = i) → ∀ s ∈ Oper.looksAt ops o, VR φ (look t s) (a.tmps.getD s undef) := by
      intro X t H G I hq s hs
      refine I.slots s fun j oj hj hjS hoj hd => ?_
      rcases (R.rd i j o oj s ho hs hoj hd).2 with hb | hb
      · exact hjS (hbr j hb)
      · obtain ⟨A, B, hAB⟩ := List.append_of_mem (R.perm j (Array.getElem?_eq_some_iff.1 hoj).1)
        obtain ⟨k, hk, hk'⟩ := hq j hj A B hAB
        have hbk := hb A B hAB k hk
        rcases hk' with hk' | rfl
        · have : listed.getD i false = true := before_closed (S := fun i => listed.getD i false = true) hc hbk hk'
          rw [hif] at this; cases this
        · exact before_irrefl R (R.perm k hios) hbk
    unfold wpOp
    rw [ho]
    simp only
    -- the step of an operation that was run ahead
    have stepB : ∀ (LX' L' : List (Nat × List Nat)) (t' : ATmps) (H' : AH) (G' : Nat → Option Nat), l = LX' ++ L' → i ∈ LX'.map (·.1) → (∀ j ∈ LX'.map (·.1), ∀ A B, l.map (·.1) = A ++ j :: B → ∃ k ∈ j :: B, listed.getD k false = true ∨ k = i) → DInv P n ops φ0 H0 W0 (fun i => listed.getD i false = true) (LX'.map (·.1)) φ t' H' a W G' → aRun P ops L' (Q .normal) t' H' →
        if Region.wanted o (yielded ops a.tmps) = true then o.wp P a W (wpAny P .any ops (Lift n φ0 H0 W0 Q) fuel (listed.setIfInBounds i true)) (Lift n φ0 H0 W0 Q) ∨ (o.asks P a W ∧ LetsOut (Lift n φ0 H0 W0 Q))
        else wpAny P .any ops (Lift n φ0 H0 W0 Q) fuel (listed.setIfInBounds i true) (a.put o.dst undef) W := by
      intro LX' L' t' H' G' hl' hiX hq I' h'
      have hq' : ∀ j ∈ LX'.map (·.1), ∀ A B, l.map (·.1) = A ++ j :: B → ∃ k ∈ j :: B, (listed.setIfInBounds i true).getD k false = true := fun j hj A B hAB => by
        obtain ⟨k, hk, hk'⟩ := hq j hj A B hAB
        exact ⟨k, hk, (hS' k).2 (hk'.symm)⟩
      have hiS : ¬ (listed.getD i false = true) := by rw [hif]; simp
      obtain ⟨ti, ht1, ht2⟩ := I'.recs i o hiX hiS ho
      obtain ⟨hopr, hgrd⟩ := operand_rel (φ := φ) (a := a) ht1 (hrel I' hq) hok.1
      rcases ht2 with ⟨hw, hsk⟩ | ⟨hw, hlt, ht2⟩
      · rw [aWanted_sound (n := n) hgrd hw]
        simp only [Bool.false_eq_true, if_false]
        refine ih LX' L' t' H' φ _ W G' _ hl' (by simpa using hsz) hu' hc' hq' ?_ h'
        exact I'.done (v' := undef) hS' hiX hiS ho hok.2 (fun _ _ h => h) I'.sim I'.ev (fun d hd => by rw [hsk d hd]; exact .skip) (fun _ _ _ _ _ _ h => h)
      · rw [aWanted_sound (n := n) hgrd hw]
        simp only [if_true]
        left
        rcases ht2 with ⟨v, hp, hd⟩ | ⟨v, hp, hd⟩ | ⟨cs, vf, x, hp, hGx, hφx, hx0, hHx, hd⟩
        · obtain ⟨v', k1, k2⟩ := apure_sound hp hopr
          unfold Oper.wp
          rw [k2 W]
          refine ih LX' L' t' H' φ _ W G' _ hl' (by simpa using hsz) hu' hc' hq' ?_ h'
          exact I'.done hS' hiX hiS ho hok.2 (fun _ _ h => h) I'.sim I'.ev (fun d hdd => by rw [hd d hdd]; exact k1) (fun _ _ _ _ _ _ h => h)
        · obtain ⟨v', k1, k2⟩ := aread_sound I'.sim hp hopr
          unfold Oper.wp
          rw [k2]
          refine ih LX' L' t' H' φ _ W G' _ hl' (by simpa using hsz) hu' hc' hq' ?_ h'
          exact I'.done hS' hiX hiS ho hok.2 (fun _ _ h => h) I'.sim I'.ev (fun d hdd => by rw [hd d hdd]; exact k1) (fun _ _ _ _ _ _ h => h)
        · obtain ⟨C, ty, fr, v', W1, j1, j2, j3, j4, j5, j6, j7, j8, j9⟩ := anew_sound hp hopr W
          unfold Oper.wp
          rw [j1]
          have hle := Phi.upd_le (bi := ⟨W.heap.size, 0, C.size⟩) hφx
          have hsz1 : W1.heap.size = W.heap.size + 1 := by rw [j2]; simp
          refine ih LX' L' t' H' (φ.upd x ⟨W.heap.size, 0, C.size⟩) _ W1 G' _ hl' (by simpa using hsz) hu' hc' hq' ?_ h'
          refine I'.done hS' hiX hiS ho hok.2 hle (news_concretize I'.sim hHx hφx j2 j6 j7 j8) ?_ (fun d hdd => by rw [hd d hdd]; exact j9 _ _ Phi.upd_self) (fun j y hji hj hjS hGj hy => ?_)
          · have E := I'.ev
            refine ⟨j3.trans E.os, j4.trans E.tape, j5.trans E.output, by have := E.size; omega, E.len, fun g hg => by rw [Phi.upd_ne (by omega)]; exact E.phi g hg, E.absf, fun b hb ho => ?_, fun g cs' bi h1 h2 h3 => ?_⟩
            · rw [j2, Array.getElem?_push, if_neg (by have := E.size; omega)]
              exact E.fr b hb ho
            · by_cases e : g = x
              · subst e
                rw [Phi.upd_self] at h2; cases h2
                have := E.size
                simp only at h3
                omega
              · rw [Phi.upd_ne e] at h2
                exact E.fresh g cs' bi h1 h2 h3
          · rw [Phi.upd_ne]
            · exact hy
            · rintro rfl
              exact hji (I'.ginj j i y hj hjS hiX hiS hGj hGx)
    by_cases hiX : i ∈ LX.map (·.1)
    · exact stepB LX L t H G hl hiX (fun j hj A B hAB => by obtain ⟨k, hk, hk'⟩ := hlast j hj A B hAB; exact ⟨k, hk, .inl hk'⟩) I h
    · -- i lies ahead: what stands before it is light
      have himem : i ∈ L.map (·.1) := by
        have := R.perm i hios
        rw [hl, List.map_append, List.mem_append] at this
        exact this.resolve_left hiX
      obtain ⟨p, hp, hpi⟩ := List.mem_map.1 himem
      obtain ⟨L1, L2, rfl⟩ := List.append_of_mem hp
      obtain ⟨i', hls⟩ := p
      simp only at hpi
      subst hpi
      have hlight : ∀ j ∈ L1.map (·.1), ∀ oj, ops[j]? = some oj → isLight oj.op = true := by
        intro j hj oj hoj
        cases hlj : isLight oj.op with
        | true => rfl
        | false =>
          exfalso
          obtain ⟨A, B, hAB⟩ := List.append_of_mem hj
          have hb := R.hv (LX.map (·.1) ++ A) j (B ++ i' :: L2.map (·.1)) (by rw [hl]; simp [hAB]) oj hoj hlj i' (by simp)
          have hS := hbr j hb
          have hjX := I.sub j hS
          have hnd := R.nodup
          rw [hl, List.map_append] at hnd
          exact (List.nodup_append.1 hnd).2.2 j hjX j (by rw [List.map_append]; simp [hj]) rfl
      have hlX : l = (LX ++ L1) ++ (i', hls) :: L2 := by rw [hl]; simp
      have hqn : ∀ j ∈ (LX ++ L1 ++ [(i', hls)]).map (·.1), ∀ A B, l.map (·.1) = A ++ j :: B → ∃ k ∈ j :: B, listed.getD k false = true ∨ k = i' := by
        intro j hj A B hAB
        rw [List.append_assoc, List.map_append, List.mem_append] at hj
        rcases hj with hj | hj
        · obtain ⟨k, hk, hk'⟩ := hlast j hj A B hAB
          exact ⟨k, hk, .inl hk'⟩
        · obtain ⟨C, D, hCD⟩ := List.append_of_mem hj
          have hnd := R.nodup
          have e1 : l.map (·.1) = (LX.map (·.1) ++ C) ++ j :: (D ++ L2.map (·.1)) := by
            have : (L1 ++ [(i', hls)]).map (·.1) ++ L2.map (·.1) = (C ++ j :: D) ++ L2.map (·.1) := by rw [hCD]
            rw [hlX]
            simp only [List.map_append, List.map_cons, List.append_assoc, List.cons_append, List.map_nil, List.nil_append] at this ⊢
            rw [this]
          rw [e1] at hnd
          have hB := split_uniq _ _ _ _ hnd (e1.symm.trans hAB)
          subst hB
          refine ⟨i', ?_, .inr rfl⟩
          have hm : i' ∈ j :: D := by
            rw [List.map_append] at hCD
            by_cases hji : j = i'
            · simp [hji]
            · have hlst : (C ++ j :: D).getLast? = some i' := by rw [← hCD]; simp
              cases D with
              | nil => rw [List.getLast?_append] at hlst; simp at hlst; exact absurd hlst hji
              | cons d D =>
                have : (d :: D).getLast? = some i' := by
                  rw [List.getLast?_append, List.getLast?_cons_cons] at hlst
                  cases hg : (d :: D).getLast? with
                  | none => simp at hg
                  | some x => rw [hg] at hlst; simpa using hlst
                exact List.mem_cons_of_mem _ (List.mem_of_getLast? this)
          rcases List.mem_cons.1 hm with h | h
          · simp [h]
          · simp [h]
      have hqn1 : ∀ j ∈ (LX ++ L1).map (·.1), ∀ A B, l.map (·.1) = A ++ j :: B → ∃ k ∈ j :: B, listed.getD k false = true ∨ k = i' := fun j hj => hqn j (by rw [List.map_append]; exact List.mem_append_left _ hj)
      obtain ⟨t1, H1, G1, I1, h1⟩ := anticipate (K := Q .normal) R i' hbr L1 ((i', hls) :: L2) (LX.map (·.1)) t H G (by rw [hl]; simp) (fun A k B _ => by simp) hlight I h
      have hX1 : LX.map (·.1) ++ L1.map (·.1) = (LX ++ L1).map (·.1) := by simp
      rw [hX1] at I1
      by_cases hlt : isLight o.op = true
      · obtain ⟨t2, H2, G2, I2, h2⟩ := anticipate (K := Q .normal) R i' hbr [(i', hls)] L2 ((LX ++ L1).map (·.1)) t1 H1 G1 (by rw [hlX]; simp) (fun A k B hk => by
          cases A with
          | nil => simp only [List.map_cons, List.map_nil, List.nil_append, List.cons.injEq] at hk; simp [hk.1]
          | cons a A => simp at hk) (fun j hj oj hoj => by
          have : j = i' := by simpa using hj
          subst this; rw [ho] at hoj; cases hoj; exact hlt) I1 h1
        have hX2 : (LX ++ L1).map (·.1) ++ [(i', hls)].map (·.1) = (LX ++ L1 ++ [(i', hls)]).map (·.1) := by simp
        rw [hX2] at I2
        exact stepB (LX ++ L1 ++ [(i', hls)]) L2 t2 H2 G2 (by rw [hlX]; simp) (by simp) hqn I2 h2
      · have hlt' : isLight o.op = false := by simpa using hlt
        have hiX1 : i' ∉ (LX ++ L1).map (·.1) := by
          have hnd := R.nodup
          rw [hlX, List.map_append] at hnd
          exact fun hm => (List.nodup_append.1 hnd).2.2 i' hm i' (by simp) rfl
        have hiS : ¬ (listed.getD i' false = true) := by rw [hif]; simp
        have hrelI := hrel I1 hqn1
        obtain ⟨hopr, hgrd⟩ := operand_rel (φ := φ) (ti := t1) (a := a) (fun _ _ => rfl) hrelI hok.1
        simp only [aRun] at h1
        rw [ho] at h1
        simp only at h1
        -- the slots and the records of those that were run ahead, when i is run on both sides
        have both : ∀ (φ' : Phi) (H' : AH) (W' : World) (v v' : Value), VR φ' v v' → Sim φ' H' W' → Ev φ H1 W φ' H' W' → (∀ j ∈ (LX ++ L1).map (·.1), ¬ (listed.getD j false = true) → ∀ oj, ops[j]? = some oj → ∀ ti : ATmps, (∀ s ∈ Oper.looksAt ops oj, look ti s = look t1 s) → ∀ w, aread P (aeval ti) H1 oj.op = some w → aread P (aeval ti) H' oj.op = some w) →
            aRun P ops L2 (Q .normal) (aput t1 o.dst v) H' → wpAny P .any ops (Lift n φ0 H0 W0 Q) fuel (listed.setIfInBounds i' true) (a.put o.dst v') W' := by
          intro φ' H' W' v v' hv hS hE hrd hrun
          have hφ := hE.mono I1.sim
          have hno : ∀ j, ¬ ((listed.setIfInBounds i' true).getD j false = true) → j ≠ i' ∧ ¬ (listed.getD j false = true) := fun j hj => ⟨fun e => hj ((hS' j).2 (.inl e)), fun e => hj ((hS' j).2 (.inr e))⟩
          refine ih (LX ++ L1 ++ [(i', hls)]) L2 _ H' φ' _ W' G1 _ (by rw [hlX]; simp) (by simpa using hsz) hu' hc' (fun j hj A B hAB => by obtain ⟨k, hk, hk'⟩ := hqn j hj A B hAB; exact ⟨k, hk, (hS' k).2 hk'.symm⟩) ?_ hrun
          have hmem : ∀ j, j ∈ (LX ++ L1 ++ [(i', hls)]).map (·.1) → j ≠ i' → j ∈ (LX ++ L1).map (·.1) := by
            intro j hj hne
            rw [List.map_append, List.mem_append] at hj
            rcases hj with hj | hj
            · exact hj
            · simp at hj; exact absurd hj hne
          refine ⟨hS, I1.ev.trans hE, fun j hj => ?_, ?_, ?_, fun s hs => ?_, fun j oj hj hjS hoj => ?_, fun j g hj hjS hg => ?_, fun j k g hj hjS hk hkS => ?_⟩
          · rcases (hS' j).1 hj with rfl | hj
            · simp
            · have := I1.sub j hj
              rw [List.map_append]; exact List.mem_append_left _ this
          · cases hdd : o.dst <;> exact I1.defers
          · cases hdd : o.dst with
            | none => exact I1.size
            | some d => simp [Act.put, I1.size]
          · have hold : (∀ d, o.dst = some d → s ≠ d) → VR φ' (look t1 s) (a.tmps.getD s undef) := by
              intro hd
              refine (I1.slots s fun j oj hj hjS hoj => ?_).mono hφ
              have hne : j ≠ i' := fun e => hiX1 (e ▸ hj)
              exact hs j oj (by rw [List.map_append]; exact List.mem_append_left _ hj) (fun h => ((hS' j).1 h).elim hne hjS) hoj
            cases hdd : o.dst with
            | none => exact hold (fun d hd => by rw [hdd] at hd; cases hd)
            | some d =>
              have hd' : d < a.tmps.size := by rw [I1.size]; have := hok.2; rw [hdd] at this; simpa [dstOk] using this
              show VR φ' (if s = d then v else look t1 s) ((a.tmps.setIfInBounds d v').getD s undef)
              rw [getD_set hd']
              split
              · exact hv
              · rename_i e
                exact hold (fun d' hd => by rw [hdd] at hd; cases hd; exact e)
          · obtain ⟨hji, hjS'⟩ := hno j hjS
            have hjX := hmem j hj hji
            have hrec := I1.recs j oj hjX hjS' hoj
            have hfree : (∀ s ∈ Oper.looksAt ops oj, o.dst ≠ some s) ∧ ∀ d, oj.dst = some d → o.dst ≠ some d := by
              refine ⟨fun s hs hd => ?_, fun d hd hd' => ?_⟩
              · rcases (R.rd j i' oj o s hoj hs ho hd).2 with hb | hb
                case inr => exact hjS' (hbr j (hb ((LX ++ L1).map (·.1)) (L2.map (·.1)) (by rw [hlX]; simp) i' (by simp)))
                obtain ⟨A, B, hAB⟩ := List.append_of_mem hjX
                have := before_in R hb A (B ++ i' :: L2.map (·.1)) (by rw [hlX, List.map_append, hAB]; simp)
                exact hiX1 (by rw [hAB]; simp [this])
              · have := R.dst j i' oj o d hoj ho hd hd'
                exact hji this
            obtain ⟨ti, ht1, ht2⟩ := hrec
            refine ⟨ti, fun s hs => by rw [ht1 s hs, look_put (hfree.1 s hs)], ?_⟩
            rcases ht2 with ⟨k1, k2⟩ | ⟨k1, k2, hh⟩
            · exact .inl ⟨k1, fun d hd => by rw [look_put (hfree.2 d hd)]; exact k2 d hd⟩
            · refine .inr ⟨k1, k2, ?_⟩
              rcases hh with ⟨w, m1, m2⟩ | ⟨w, m1, m2⟩ | ⟨cs, vf, x, m1, m0, m2, m3, m4, m5⟩
              · exact .inl ⟨w, m1, fun d hd => by rw [look_put (hfree.2 d hd)]; exact m2 d hd⟩
              · exact .inr (.inl ⟨w, hrd j hjX hjS' oj hoj ti ht1 w m1, fun d hd => by rw [look_put (hfree.2 d hd)]; exact m2 d hd⟩)
              · have hxl := own_lt m4
                exact .inr (.inr ⟨cs, vf, x, m1, m0, (hE.phi x hxl).trans m2, m3, (hE.absf x hxl m2).trans m4, fun d hd => by rw [look_put (hfree.2 d hd)]; exact m5 d hd⟩)
          · obtain ⟨hji, hjS'⟩ := hno j hjS
            exact Nat.lt_of_lt_of_le (I1.glt j g (hmem j hj hji) hjS' hg) hE.len
          · obtain ⟨hji, hjS'⟩ := hno j hjS
            obtain ⟨hki, hkS'⟩ := hno k hkS
            exact I1.ginj j k g (hmem j hj hji) hjS' (hmem k hk hki) hkS'
        split at h1
        · rename_i hw
          rw [aWanted_sound (n := n) hgrd hw]
          simp only [if_true]
          rw [if_neg (by rw [hlt']; simp)] at h1
          left
          refine heavy_sound I1.sim hopr h1 fun v v' φ' H' W' k1 k2 k3 k4 => ?_
          obtain ⟨hheld, hrun⟩ := k2
          refine both φ' H' W' v v' k1 k3 k4 (fun j hj hjS oj hoj ti hti w hw => ?_) hrun
          have hre : ∀ x ∈ oj.op.operands, aeval t1 x = aeval ti x := by
            intro x hx
            cases x with
            | tmp s =>
              have hm : s ∈ Oper.looksAt ops oj := by
                unfold Oper.looksAt
                exact List.mem_append_left _ (List.mem_filterMap.2 ⟨.tmp s, by simpa using hx, rfl⟩)
              exact (hti s hm).symm
            | _ => rfl
          have hw1 := aread_congr hw hre
          rcases R.held (LX ++ L1) i' hls L2 hlX o ho hlt' j hj with hb | hm | hnr
          · exact absurd (hbr j hb) hjS
          · exact aread_congr (hheld j hm oj hoj w hw1) (fun x hx => (hre x hx).symm)
          · have := readsMem_of_aread hw
            rw [hnr oj hoj] at this; cases this
        · rename_i hw
          rw [aWanted_sound (n := n) hgrd hw]
          simp only [Bool.false_eq_true, if_false]
          exact both φ H1 W skipped undef .skip I1.sim (Ev.refl _ _ _) (fun _ _ _ _ _ _ _ _ h => h) h1
        · exact h1.elim
end

/-- THE LAW OF A REGION THAT DRAWS ITS ORDER. -/
theorem awp_region_draw {P : Program} {n id : Nat} {ops : Array Oper} {Q : APost} {t : ATmps} {H : AH} (l : List (Nat × List Nat)) (hm : P.follows .mixedOrders = true) (hk : regOk n ops l = true) (h : aRun P ops l (Q .normal) t H) :
    AWp P n (.region id ops true) Q t H := by
  intro φ W a hS hT
  have R := regOk_spec hk
  refine wp_region_any hm ?_
  have hS' : Sim φ H { W with drawn := W.drawn + 1 } := hS.heap rfl
  have hfalse : ∀ j, (Array.replicate ops.size false).getD j false = false := fun j => by
    rcases Nat.lt_or_ge j ops.size with h | h
    · simp [h]
    · simp [h]
  refine aRun_sound (P := P) (n := n) (ops := ops) (φ0 := φ) (H0 := H) (W0 := W) (Q := Q) R ops.size [] l t H φ a { W with drawn := W.drawn + 1 } (fun _ => none) (Array.replicate ops.size false) rfl (by simp)
    (by unfold unl; exact Nat.le_trans List.countP_le_length (by simp)) (fun j o _ hj => (by rw [hfalse] at hj; cases hj)) (fun j hj => (by simp at hj)) ?_ h
  exact ⟨hS', Ev.heap rfl rfl rfl rfl, fun i hi => (by simp only [hfalse] at hi; cases hi), hT.defers, hT.size, fun s _ => hT.rel s, fun i o hi => (by simp at hi), fun i g hi => (by simp at hi), fun i j g hi => (by simp at hi)⟩
end Go.Proofs.Ytelpdppdhimfoaa
