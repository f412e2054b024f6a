/- The region's walk in steps that a rewriting takes one by one. -/
import Derived.Test.YtldfnfpinemedaaDoorB8
import Derived.Test.YtldfnfpinemedaaDoorC2
namespace Go.Proofs.YtldfnfpinemedaaDoor
open Go Go.RowKit
def QJ (P : Program) (ops : Array Oper) (d : Option Tmp) (rest : List Oper) (K : ATmps → AH → Prop) (t : ATmps) (v : Value) (H : AH) : Prop := aOps P ops rest K (aput t d v) H
theorem aOps_nil {P : Program} {ops : Array Oper} {K : ATmps → AH → Prop} {t : ATmps} {H : AH} : aOps P ops [] K t H = K t H := rfl
theorem aOps_cons {P : Program} {ops : Array Oper} {o : Oper} {rest : List Oper} {K : ATmps → AH → Prop} {t : ATmps} {H : AH} : aOps P ops (o :: rest) K t H = (match Qj ops t o with
    | some true => if Qi o.op = true then andK (Qq P (aeval t) H o.op) (QJ P ops o.dst rest K t) else Qm P (aeval t) H o.op (QJ P ops o.dst rest K t)
    | some false => aOps P ops rest K (aput t o.dst Qk) H
    | none => False) := rfl
/-- What makes a read that is held back stay as it is. -/
def Qy (H H' : AH) : Value → Prop
  | .pointer (some a) => H'.cells a.block = H.cells a.block
  | .slice (some a) _ _ => H'.cells a.block = H.cells a.block
  | _ => True
def Qx (t : ATmps) (H H' : AH) : Option Oper → Prop
  | none => True
  | some o => (match o.op with
    | .load _ x => Qy H H' (aeval t x)
    | .convert _ _ x => Qy H H' (aeval t x)
    | _ => True)
def Qw (ops : Array Oper) (t : ATmps) (H H' : AH) : List Nat → Prop
  | [] => True
  | i :: r => Qx t H H' ops[i]? ∧ Qw ops t H H' r
theorem held_of_C {P : Program} {ops : Array Oper} {t : ATmps} {H H' : AH} : ∀ (l : List Nat), Qw ops t H H' l → Held P ops t H H' l
  | [], _ => fun i hi => by simp at hi
  | j :: r, h => fun i hi o ho v hv => by
    rcases List.mem_cons.1 hi with rfl | hi
    · have h1 := h.1
      rw [ho] at h1
      unfold Qx at h1
      unfold Qz at hv ⊢
      split at hv
      · rename_i T x hop
        simp only [hop] at h1
        unfold QF at hv ⊢
        split at hv
        · rename_i g o' hx
          rw [hx] at h1
          have h2 : AH.cells H' g = AH.cells H g := h1
          simp only [h2]
          exact hv
        · cases hv
      · rename_i s d x hop
        simp only [hop] at h1
        split at hv
        · rename_i hc
          rw [if_pos hc]
          split at hv
          · rename_i he; exact hv
          · rename_i g o' n e he
            rw [he] at h1
            have h2 : AH.cells H' g = AH.cells H g := h1
            simp only [h2]
            exact hv
          · cases hv
        · cases hv
      · cases hv
    · exact held_of_C r h.2 i hi o ho v hv
noncomputable def aRunC (P : Program) (ops : Array Oper) : List (Nat × List Nat) → (ATmps → AH → Prop) → ATmps → AH → Prop
  | [], K, t, H => K t H
  | (i, hl) :: rest, K, t, H => match ops[i]? with
    | none => False
    | some o => match Qj ops t o with
      | some true => if Qi o.op = true then andK (Qq P (aeval t) H o.op) (fun v H' => aRunC P ops rest K (aput t o.dst v) H')
        else Qm P (aeval t) H o.op (fun v H' => Qw ops t H H' hl ∧ aRunC P ops rest K (aput t o.dst v) H')
      | some false => aRunC P ops rest K (aput t o.dst Qk) H
      | none => False
theorem andK_mono {x : Option (Value × AH)} {K K' : Value → AH → Prop} (h : andK x K) (hk : ∀ v H, K v H → K' v H) : andK x K' := by
  cases x with
  | none => exact h
  | some r => exact hk _ _ h
theorem aHeavy_mono {P : Program} {ρ : Operand → Value} {H : AH} {op : Op} {K K' : Value → AH → Prop} (h : Qm P ρ H op K) (hk : ∀ v H, K v H → K' v H) : Qm P ρ H op K' := by
  unfold Qm at h ⊢
  split at h
  · exact andK_mono h hk
  · exact hk _ _ h
  · exact andK_mono h hk
  · exact andK_mono h hk
  · exact andK_mono h hk
  · exact andK_mono h hk
  · split at h
    · exact hk _ _ h
    · exact andK_mono h hk
  · rename_i c
    split at h
    · split at h
      · exact andK_mono h hk
      · exact h.elim
    · split at h
      · exact andK_mono h hk
      · exact h.elim
    · split at h
      · exact andK_mono h hk
      · exact h.elim
    · split at h
      · split at h
        · rename_i hb
          rw [if_pos hb]
          exact h.mono hk
        · rename_i hb
          rw [if_neg hb]
          exact ⟨h.1, h.2.mono hk⟩
      · exact AYield.mono h hk
      · exact h.elim
    · exact h.elim
  · exact h.elim
theorem run_of_C {P : Program} {ops : Array Oper} {K : ATmps → AH → Prop} : ∀ (l : List (Nat × List Nat)) (t : ATmps) (H : AH), aRunC P ops l K t H → aRun P ops l K t H
  | [], _, _, h => h
  | (i, hl) :: rest, t, H, h => by
    unfold aRunC at h
    unfold aRun
    cases ho : ops[i]? with
    | none => simp only [ho] at h
    | some o =>
      simp only [ho] at h ⊢
      cases hw : Qj ops t o with
      | none => simp only [hw] at h
      | some b =>
        simp only [hw] at h ⊢
        cases b with
        | false => exact run_of_C rest _ _ h
        | true =>
          simp only [] at h ⊢
          split
          · rename_i hl1
            rw [if_pos hl1] at h
            exact andK_mono h fun v H' k => run_of_C rest _ _ k
          · rename_i hl1
            rw [if_neg hl1] at h
            exact aHeavy_mono h fun v H' k => ⟨held_of_C _ k.1, run_of_C rest _ _ k.2⟩
theorem awp_region_drawC {P : Program} {n id : Nat} {ops : Array Oper} {Q : APost} {t : ATmps} {H : AH} (l : List (Nat × List Nat)) (hm : P.follows .mixedOrders = true) (hk : regOk n ops l = true) (h : aRunC P ops l (Q .normal) t H) :
    AWp P n (.region id ops true) Q t H := awp_region_draw l hm hk (run_of_C l t H h)
def Qu (P : Program) (ops : Array Oper) (d : Option Tmp) (rest : List (Nat × List Nat)) (K : ATmps → AH → Prop) (t : ATmps) (v : Value) (H : AH) : Prop := aRunC P ops rest K (aput t d v) H
def Qv (P : Program) (ops : Array Oper) (d : Option Tmp) (hl : List Nat) (rest : List (Nat × List Nat)) (K : ATmps → AH → Prop) (t : ATmps) (H0 : AH) (v : Value) (H : AH) : Prop := Qw ops t H0 H hl ∧ aRunC P ops rest K (aput t d v) H
theorem aRun_nil {P : Program} {ops : Array Oper} {K : ATmps → AH → Prop} {t : ATmps} {H : AH} : aRunC P ops [] K t H = K t H := rfl
/-- The next of a list of operations that stand in some order. -/
def aSel (P : Program) (ops : Array Oper) (hl : List Nat) (rest : List (Nat × List Nat)) (K : ATmps → AH → Prop) (t : ATmps) (H : AH) : Option Oper → Prop
  | none => False
  | some o => (match Qj ops t o with
    | some true => if Qi o.op = true then andK (Qq P (aeval t) H o.op) (Qu P ops o.dst rest K t) else Qm P (aeval t) H o.op (Qv P ops o.dst hl rest K t H)
    | some false => aRunC P ops rest K (aput t o.dst Qk) H
    | none => False)
theorem aRun_sel {P : Program} {ops : Array Oper} {i : Nat} {hl : List Nat} {rest : List (Nat × List Nat)} {K : ATmps → AH → Prop} {t : ATmps} {H : AH} : aRunC P ops ((i, hl) :: rest) K t H = aSel P ops hl rest K t H ops[i]? := rfl
theorem awp_for {P : Program} {n : Nat} {c : Code} {Q : APost} {t : ATmps} {H : AH} {ι : Type} (T : ι → ATmps) (G : ι → AH) (I : ι → Prop) (μ : ι → Nat) (i0 : ι) (h0 : I i0) (hf : Forgets (T i0) t) (hg : G i0 = H)
    (round : ∀ i, I i → AWp P n c (QB (fun t' H' => ∃ j, I j ∧ Forgets (T j) t' ∧ G j = H' ∧ μ j < μ i) Q) (T i) (G i)) : AWp P n (.loop c) Q t H := by
  subst hg
  exact (awp_loop T G I μ i0 h0 round).forget hf
/-- Some slots as they are. -/
def keep : List Nat → ATmps → ATmps
  | [], _ => []
  | k :: r, t => (k, look t k) :: keep r t
theorem Forgets.keep {t : ATmps} : ∀ ks : List Nat, Forgets (Go.Proofs.YtldfnfpinemedaaDoor.keep ks t) t
  | [] => Forgets.nil
  | _ :: r => Forgets.cons rfl (Forgets.keep r)
theorem Forgets.app {a b t : ATmps} (h : Forgets a t) (k : Forgets b t) : Forgets (a ++ b) t := by
  intro i
  have hh := h i
  have kk := k i
  clear h k
  induction a with
  | nil => exact kk
  | cons p a ih =>
    obtain ⟨j, v⟩ := p
    simp only [List.cons_append, look] at hh ⊢
    by_cases e : i = j
    · simp only [e, if_true] at hh ⊢; exact hh
    · simp only [e, if_false] at hh ⊢; exact ih hh
theorem awp_forK {P : Program} {n : Nat} {c : Code} {Q : APost} {t : ATmps} {H : AH} {ι : Type} (ks : List Nat) (C : ι → ATmps) (G : ι → AH) (I : ι → Prop) (μ : ι → Nat) (i0 : ι) (h0 : I i0) (hf : Forgets (C i0) t) (hg : G i0 = H)
    (round : ∀ i, I i → AWp P n c (QB (fun t' H' => ∃ j, I j ∧ Forgets (C j ++ keep ks t) t' ∧ G j = H' ∧ μ j < μ i) Q) (C i ++ keep ks t) (G i)) : AWp P n (.loop c) Q t H :=
  awp_for (fun i => C i ++ keep ks t) G I μ i0 h0 (hf.app (Forgets.keep ks)) hg round
/-- Where two ways meet. -/
theorem awp_join {P : Program} {n : Nat} {x y : Code} {Q1 Q : APost} {t : ATmps} {H : AH} {ι : Type} (ks : List Nat) (C : ι → ATmps) (G : ι → AH) (I : ι → Prop)
    (h1 : AWp P n x (QB (fun t' H' => ∃ j, I j ∧ Forgets (C j ++ keep ks t) t' ∧ G j = H') Q) t H) (h2 : ∀ j, I j → AWp P n y Q1 (C j ++ keep ks t) (G j)) : AWp P n x (QB (AWp P n y Q1) Q) t H := by
  refine h1.mono fun e t' H' h => ?_
  cases e with
  | normal =>
    obtain ⟨j, hj, hf, rfl⟩ := h
    exact (h2 j hj).forget hf
  | _ => exact h
theorem awp_if {P : Program} {n : Nat} {c : Operand} {x y : Code} {Q : APost} {t : ATmps} {H : AH} (b : Bool) (hx : operandOk c = true) (hc : aeval t c = .bool b) (h1 : b = true → AWp P n x Q t H) (h2 : b = false → AWp P n y Q t H) : AWp P n (.cond c x y) Q t H := by
  refine awp_cond hx hc ?_
  cases b
  · exact h2 rfl
  · exact h1 rfl
theorem aeval_tmp {t : ATmps} {i : Nat} : aeval t (.tmp i) = look t i := rfl
theorem aeval_const {t : ATmps} {v : Value} : aeval t (.const v) = v := rfl
theorem aeval_func {t : ATmps} {f : FuncId} : aeval t (.func f) = .func (.func f) #[] #[] := rfl
/-- buildSlice: its cells and their size. -/
def abuildS (P : Program) (t : TypeId) (len : Nat) (parts : List (Nat × Value)) : Option (List Value × Nat) :=
  match P.underlying t with
  | some (.slice e) => (match szT P e with
    | some s => if len * s ≤ 16777216 ∧ parts.all (fun p => Qe p.2) = true then
        (match (if len * s = 0 then some #[] else (zeroT P e).bind fun z => if z.size = s then some z else none) with
        | some z => (Instr.fill (fun i => some (i * s, s)) ((Array.range (len * s)).map (z[· % z.size]!)) parts).map fun cs => (cs.toList, s)
        | none => none)
      else none
    | none => none)
  | _ => none
theorem anew_bs {P : Program} {ρ : Operand → Value} {t : TypeId} {len : Nat} {parts : Array (Nat × Operand)} : anew P ρ (.buildSlice t len parts) = (abuildS P t len (parts.toList.map fun p => (p.1, ρ p.2))).map fun r => (r.1, fun g => .slice (some ⟨g, 0, none⟩) len r.2) := by
  unfold anew abuildS
  simp only []
  cases P.underlying t with
  | none => rfl
  | some d =>
    cases d with
    | slice e =>
      simp only []
      cases szT P e with
      | none => rfl
      | some s =>
        simp only []
        have ea : parts.all (fun p => Qe (ρ p.2)) = (parts.toList.map fun p => (p.1, ρ p.2)).all (fun p => Qe p.2) := by
          rw [← Array.all_toList, List.all_map]; rfl
        rw [ea]
        generalize (if len * s = 0 then some #[] else (zeroT P e).bind fun z => if z.size = s then some z else none) = zz
        split
        · cases zz with
          | none => rfl
          | some z => simp only [Option.map_map]; rfl
        · rfl
    | _ => rfl
theorem anew_alloc {P : Program} {ρ : Operand → Value} {t : TypeId} : anew P ρ (.alloc t) = (zeroT P t).map fun z => (z.toList, fun g => .pointer (some ⟨g, 0, none⟩)) := rfl
theorem anew_box {P : Program} {ρ : Operand → Value} {t : TypeId} {x : Operand} : anew P ρ (.box t x) = if Qe (ρ x) then some ((ρ x).cells.toList, fun g => .pointer (some ⟨g, 0, none⟩)) else none := rfl
theorem anew_conv {P : Program} {ρ : Operand → Value} {s d : TypeId} {x : Operand} : anew P ρ (.convert s d x) = match ρ x with
    | .string b => if strT P s && QN P d then some (b.data.toList.map fun x => .int .u8 x.toNat, fun g => .slice (some ⟨g, 0, none⟩) b.size 1) else none
    | _ => none := rfl
/-- What makeSlice looks up: the size, the bytes and the zero of an element. -/
def mkT (P : Program) (t : TypeId) : Option (Nat × Nat × Array Value) :=
  match P.underlying t with
  | some (.slice e) => (match P.info? e, zeroT P e with
    | some i, some z => some (i.size, i.bytes, z)
    | _, _ => none)
  | _ => none
theorem anew_ms {P : Program} {ρ : Operand → Value} {t : TypeId} {x y : Operand} {size bytes : Nat} {z : Array Value} {k k' : IntKind} {l c : Int} (h : mkT P t = some (size, bytes, z)) (hx : ρ x = .int k l) (hy : ρ y = .int k' c)
    (h0 : 0 ≤ l) (h1 : l ≤ c) (h2 : (bytes : Int) * c ≤ 281474976710656) (h3 : c ≤ 9223372036854775807) (h4 : z.size = size) :
    anew P ρ (.makeSlice t x y) = some (zerosL z l.toNat, fun g => .slice (some ⟨g, 0, none⟩) l.toNat size) := by
  unfold mkT at h
  unfold anew
  simp only []
  split at h
  · rename_i e hu
    split at h
    · rename_i i z' hi hz
      cases h
      simp only [hu, hx, hy, hi, hz]
      rw [if_pos ⟨h0, h1, h2, h3, h4⟩]
    · cases h
  · cases h
theorem zeros1 {v : Value} {n : Nat} : zerosL #[v] n = List.replicate n v := rfl
theorem bytesOf_map : ∀ bs : List UInt8, bytesOf (bs.map U8) = some bs
  | [] => rfl
  | b :: r => by
    rw [List.map_cons, bytesOf, bytesOf_map r]
    have := b.toNat_lt
    rw [if_pos (by omega)]
    simp
theorem SL.str {H : AH} {g o e n : Nat} {bs : List UInt8} (h : SL H (.slice (some ⟨g, o, none⟩) n e) (bs.map U8)) (hn : 0 < bs.length) : ∃ cs, H.cells g = some cs ∧ n = bs.length ∧ o + bs.length ≤ cs.length ∧ bytesOf ((cs.drop o).take bs.length) = some bs := by
  rcases h with ⟨h, _⟩ | ⟨g', o', e', h, h2⟩
  · cases h
  · cases h
    rcases h2 with h2 | ⟨cs, hc, h1, h2⟩
    · rw [List.map_eq_nil_iff] at h2; subst h2; simp at hn
    · rw [List.length_map] at h1 h2
      exact ⟨cs, hc, List.length_map _, h1, by rw [h2, bytesOf_map]⟩
theorem alen_slice {P : Program} {T : TypeId} {a : Option Addr} {n e : Nat} : alen P T (.slice a n e) = if sliceT P T = true then some (.int .i64 n) else none := by unfold alen; rfl
theorem alen_str {P : Program} {T : TypeId} {s : ByteArray} : alen P T (.string s) = if strT P T = true then some (.int .i64 s.size) else none := by unfold alen; rfl
theorem alen_sl {P : Program} {H : AH} {T : TypeId} {v : Value} {vs : List Value} (hT : sliceT P T = true) (h : SL H v vs) : alen P T v = some (.int .i64 vs.length) := by
  rcases h.len with ⟨a, e, rfl⟩ | ⟨rfl, rfl⟩
  · rw [alen_slice, hT]; rfl
  · rw [alen_slice, hT]; rfl
theorem bb : (true == true) = true ∧ (true == false) = false ∧ (false == true) = false ∧ (false == false) = true := ⟨rfl, rfl, rfl, rfl⟩
theorem pick_or {b c : Bool} : (if b = true then Value.bool true else Value.bool c) = .bool (b || c) := by cases b <;> rfl
theorem pick_and {b c : Bool} : (if b = true then Value.bool c else Value.bool false) = .bool (b && c) := by cases b <;> rfl
theorem asrc_sl {P : Program} {H : AH} {tx : TypeId} {v : Value} {vs : List Value} (ht : sliceT P tx = true) (h : SL H v vs) (hv : vs.all cellv = true) : asrc P H tx v 1 = some (vs, vs.length) := by
  rcases h with ⟨rfl, rfl⟩ | ⟨g, o, e, rfl, h⟩
  · simp only [asrc, ht, if_true, List.length_nil]
  · by_cases h0 : vs = []
    · subst h0; unfold asrc; simp only [List.length_nil, ht, if_true]
    · have hn : vs.length ≠ 0 := fun e => h0 (List.eq_nil_of_length_eq_zero e)
      obtain ⟨cs, hc, h1, h2⟩ := h.resolve_left h0
      unfold asrc
      simp only [ht, if_true, if_neg hn, hc, Nat.mul_one, h2]
      rw [if_pos ⟨h1, hv⟩]
theorem app_nilX {P : Program} {H : AH} {t tx : TypeId} {bytes : Nat} {v : Value} {vs : List Value} (he : elemT P t = some (1, bytes)) (hx : asrcZ P H t tx v 1 bytes = some (vs, vs.length)) (h0 : 0 < vs.length) (hb : vs.length * bytes ≤ 140737488355328) (hp : 0 < bytes) :
    aappend P H t tx (.slice none 0 0) v = some (.slice (some ⟨H.length, 0, none⟩) vs.length 1, H ++ [.own vs]) := by
  unfold aappend
  simp only [he, hx]
  have hk := Nat.le_mul_of_pos_right vs.length hp
  rw [if_neg (by omega), if_pos ⟨hb, by omega⟩]
theorem app_noneX {P : Program} {H : AH} {t tx : TypeId} {bytes : Nat} {v s : Value} (he : elemT P t = some (1, bytes)) (hx : asrcZ P H t tx v 1 bytes = some ([], 0)) (hs : s = .slice none 0 0 ∨ ∃ g o n e, s = .slice (some ⟨g, o, none⟩) n e) :
    aappend P H t tx s v = some (s, H) := by
  unfold aappend
  simp only [he, hx]
  rcases hs with rfl | ⟨g, o, n, e, rfl⟩
  · rfl
  · rfl
theorem app_ownX {P : Program} {H : AH} {t tx : TypeId} {bytes g n : Nat} {v : Value} {vs cs : List Value} (he : elemT P t = some (1, bytes)) (hx : asrcZ P H t tx v 1 bytes = some (vs, vs.length)) (h0 : 0 < vs.length) (hg : H[g]? = some (.own cs)) (hn : n = cs.length) (hb : (n + vs.length) * bytes ≤ 140737488355328) (hp : 0 < bytes) :
    aappend P H t tx (.slice (some ⟨g, 0, none⟩) n 1) v = some (.slice (some ⟨H.length, 0, none⟩) (n + vs.length) 1, H.set g .dead ++ [.own (cs ++ vs)]) := by
  unfold aappend
  simp only [he, hx]
  rw [if_neg (by omega)]
  simp only [hg]
  have hk := Nat.le_mul_of_pos_right (n + vs.length) hp
  rw [if_pos ⟨trivial, by omega, by omega, hb, by omega⟩]
  simp only [List.drop_zero, Nat.mul_one]
  rw [List.take_of_length_le (by omega)]
theorem srcX {P : Program} {H : AH} {t tx : TypeId} {bytes : Nat} {v : Value} {vs : List Value} (ht : sliceT P tx = true) (h : SL H v vs) (hv : vs.all cellv = true) : asrcZ P H t tx v 1 bytes = some (vs, vs.length) := by
  rw [asrcZ_slice ht]; exact asrc_sl ht h hv
theorem srcN {P : Program} {H : AH} {t tx e : TypeId} {k : IntKind} {bytes m : Nat} {v : Value} (htx : P.underlying tx = some (.int k)) (ht : P.underlying t = some (.slice e)) (hz : zeroT P e = some #[v]) (h : (m : Int) ≤ 9223372036854775807) (hb : m * bytes ≤ 281474976710656) :
    asrcZ P H t tx (.int .i64 (m : Int)) 1 bytes = some (List.replicate m v, (List.replicate m v).length) := by
  unfold asrcZ
  simp only [htx, ht, hz, Int.toNat_natCast, List.length_replicate]
  rw [if_pos ⟨rfl, by omega, h, hb⟩]
  rfl
theorem app_nil {P : Program} {H : AH} {t tx : TypeId} {bytes : Nat} {v : Value} {vs : List Value} (he : elemT P t = some (1, bytes)) (ht : sliceT P tx = true) (h : SL H v vs) (hv : vs.all cellv = true) (h0 : 0 < vs.length) (hb : vs.length * bytes ≤ 140737488355328) (hp : 0 < bytes) :
    aappend P H t tx (.slice none 0 0) v = some (.slice (some ⟨H.length, 0, none⟩) vs.length 1, H ++ [.own vs]) :=
  app_nilX he (srcX ht h hv) h0 hb hp
theorem app_none {P : Program} {H : AH} {t tx : TypeId} {bytes : Nat} {v s : Value} (he : elemT P t = some (1, bytes)) (ht : sliceT P tx = true) (h : SL H v []) (hs : s = .slice none 0 0 ∨ ∃ g o n e, s = .slice (some ⟨g, o, none⟩) n e) :
    aappend P H t tx s v = some (s, H) :=
  app_noneX he (srcX (vs := []) ht h rfl) hs
theorem app_own {P : Program} {H : AH} {t tx : TypeId} {bytes g n : Nat} {v : Value} {vs cs : List Value} (he : elemT P t = some (1, bytes)) (ht : sliceT P tx = true) (h : SL H v vs) (hv : vs.all cellv = true) (h0 : 0 < vs.length) (hg : H[g]? = some (.own cs)) (hn : n = cs.length) (hb : (n + vs.length) * bytes ≤ 140737488355328) (hp : 0 < bytes) :
    aappend P H t tx (.slice (some ⟨g, 0, none⟩) n 1) v = some (.slice (some ⟨H.length, 0, none⟩) (n + vs.length) 1, H.set g .dead ++ [.own (cs ++ vs)]) :=
  app_ownX he (srcX ht h hv) h0 hg hn hb hp
theorem sm : (type_of% @decide_true) ∧ (type_of% @decide_false) ∧ (type_of% @Nat.add_sub_cancel_left) ∧ (type_of% @Nat.add_sub_cancel) ∧ (type_of% @aOps_nil) ∧ (type_of% @aOps_cons) ∧ (type_of% @aRun_nil) ∧ (type_of% @aRun_sel) ∧ (type_of% @anew_bs) ∧ (type_of% @anew_alloc) ∧ (type_of% @anew_box) ∧ (type_of% @anew_conv) ∧ (type_of% @zeros1) ∧ (type_of% @aeval_tmp) ∧ (type_of% @aeval_const) ∧ (type_of% @aeval_func) ∧ (type_of% @andK_some) ∧ (type_of% @alen_slice) ∧ (type_of% @alen_str) ∧ (type_of% @bb) ∧ (type_of% @pick_or) ∧ (type_of% @pick_and) ∧ (type_of% @ovr_all) ∧ (type_of% @Bool.false_eq_true) ∧ (type_of% @Bool.and_true) ∧ (type_of% @Bool.true_and) ∧ (type_of% @Bool.and_false) ∧ (type_of% @Bool.false_and) ∧ (type_of% @decide_eq_true) ∧ (type_of% @decide_eq_false) ∧ (type_of% @Nat.zero_add) ∧ (type_of% @Nat.add_zero) ∧ (type_of% @Nat.mul_one) ∧ (type_of% @Nat.one_mul) ∧ (type_of% @Nat.zero_mul) ∧ (type_of% @Nat.mul_zero) ∧ (type_of% @true_and) ∧ (type_of% @and_true) ∧ (type_of% @and_self) ∧ (type_of% @false_and) ∧ (type_of% @and_false) ∧ (type_of% @true_or) ∧ (type_of% @or_true) ∧ (type_of% @false_or) ∧ (type_of% @or_false) ∧ (type_of% @not_true_eq_false) ∧ (type_of% @not_false_eq_true) ∧ (type_of% @Int.toNat_natCast) ∧ (type_of% @List.getElem?_toArray.{0}) ∧ (type_of% @List.getElem?_cons_succ.{0}) ∧ (type_of% @List.getElem?_cons_zero.{0}) ∧ (type_of% @List.append_toArray.{0}) ∧ (type_of% @List.cons_append.{0}) ∧ (type_of% @bne_self_eq_false.{0}) ∧ (type_of% @beq_self_eq_true.{0}) ∧ (type_of% @List.drop_zero.{0}) ∧ (type_of% @List.take_of_length_le.{0}) ∧ (type_of% @Option.some.injEq.{0}) ∧ (type_of% @List.length_append.{0}) ∧ (type_of% @List.length_cons.{0}) ∧ (type_of% @List.length_nil.{0}) ∧ (type_of% @List.append_nil.{0}) ∧ (type_of% @List.nil_append.{0}) ∧ (type_of% @Array.toList_replicate.{0}) ∧ (type_of% @List.map_toArray.{0,0}) ∧ (type_of% @List.map_cons.{0,0}) ∧ (type_of% @List.map_nil.{0,0}) ∧ (type_of% @Option.map_some.{0,0}) ∧ (type_of% @Option.map_none.{0,0}) ∧ (type_of% @Option.bind_some.{0,0}) ∧ (type_of% @if_pos.{1}) ∧ (type_of% @if_neg.{1}) ∧ (type_of% @ite_true.{1}) ∧ (type_of% @ite_false.{1}) := ⟨@decide_true, @decide_false, @Nat.add_sub_cancel_left, @Nat.add_sub_cancel, @aOps_nil, @aOps_cons, @aRun_nil, @aRun_sel, @anew_bs, @anew_alloc, @anew_box, @anew_conv, @zeros1, @aeval_tmp, @aeval_const, @aeval_func, @andK_some, @alen_slice, @alen_str, @bb, @pick_or, @pick_and, @ovr_all, @Bool.false_eq_true, @Bool.and_true, @Bool.true_and, @Bool.and_false, @Bool.false_and, @decide_eq_true, @decide_eq_false, @Nat.zero_add, @Nat.add_zero, @Nat.mul_one, @Nat.one_mul, @Nat.zero_mul, @Nat.mul_zero, @true_and, @and_true, @and_self, @false_and, @and_false, @true_or, @or_true, @false_or, @or_false, @not_true_eq_false, @not_false_eq_true, @Int.toNat_natCast, @List.getElem?_toArray.{0}, @List.getElem?_cons_succ.{0}, @List.getElem?_cons_zero.{0}, @List.append_toArray.{0}, @List.cons_append.{0}, @bne_self_eq_false.{0}, @beq_self_eq_true.{0}, @List.drop_zero.{0}, @List.take_of_length_le.{0}, @Option.some.injEq.{0}, @List.length_append.{0}, @List.length_cons.{0}, @List.length_nil.{0}, @List.append_nil.{0}, @List.nil_append.{0}, @Array.toList_replicate.{0}, @List.map_toArray.{0,0}, @List.map_cons.{0,0}, @List.map_nil.{0,0}, @Option.map_some.{0,0}, @Option.map_none.{0,0}, @Option.bind_some.{0,0}, @if_pos.{1}, @if_neg.{1}, @ite_true.{1}, @ite_false.{1}⟩
theorem sl : (type_of% @List.length_set.{0}) ∧ (type_of% @List.length_map.{0,0}) ∧ (type_of% @List.length_append.{0}) ∧ (type_of% @List.length_cons.{0}) ∧ (type_of% @List.length_nil.{0}) ∧ (type_of% @List.length_replicate.{0}) ∧ (type_of% @Array.toList_replicate.{0}) := ⟨@List.length_set.{0}, @List.length_map.{0,0}, @List.length_append.{0}, @List.length_cons.{0}, @List.length_nil.{0}, @List.length_replicate.{0}, @Array.toList_replicate.{0}⟩
/-- The region's walk with what follows out of sight. -/
theorem QK {P : Program} {n : Nat} {id : Nat} {l : List Oper} {Q : APost} {t : ATmps} {H : AH} (hk : opsOk n l.toArray = true) (h : ∀ K : ATmps → AH → Prop, (∀ t' H', Q .normal t' H' → K t' H') → aOps P l.toArray l K t H) : AWp P n (.region id l.toArray false) Q t H :=
  Qp hk (h _ fun _ _ k => k)
theorem awp_region_drawK {P : Program} {n id : Nat} {ops : Array Oper} {Q : APost} {t : ATmps} {H : AH} (l : List (Nat × List Nat)) (hm : P.follows .mixedOrders = true) (hk : regOk n ops l = true) (h : ∀ K : ATmps → AH → Prop, (∀ t' H', Q .normal t' H' → K t' H') → aRunC P ops l K t H) : AWp P n (.region id ops true) Q t H :=
  awp_region_drawC l hm hk (h _ fun _ _ k => k)
theorem QL {K : ATmps → AH → Prop} {Q : APost} {t : ATmps} {H : AH} (h : K t H) : QB K Q .normal t H := h
theorem aThen_exit {K : ATmps → AH → Prop} {Q : APost} {t : ATmps} {H : AH} {i : Nat} (h : Q (.exit i) t H) : QB K Q (.exit i) t H := h
theorem QM {Q : APost} {t : ATmps} {H : AH} {id : Nat} (h : Q .normal t H) : Qf id Q .normal t H := h
theorem aIn_here {Q : APost} {t : ATmps} {H : AH} {id : Nat} (h : Q .normal t H) : Qf id Q (.exit id) t H := by
  show (if id = id then _ else _)
  rw [if_pos rfl]; exact h
theorem aIn_out {Q : APost} {t : ATmps} {H : AH} {id i : Nat} (e : (i == id) = false) (h : Q (.exit i) t H) : Qf id Q (.exit i) t H := by
  show (if i = id then _ else _)
  rw [if_neg (by simpa using e)]; exact h
end Go.Proofs.YtldfnfpinemedaaDoor
