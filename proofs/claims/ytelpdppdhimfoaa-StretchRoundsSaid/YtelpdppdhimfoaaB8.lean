/- Words of the proofs: a law whose call comes to 'true' over abstract memory, as a row. -/
import Derived.Test.YtelpdppdhimfoaaB7
import Derived.ChangeOld
import Derived.SizedLaws
namespace Go.Proofs.Ytelpdppdhimfoaa
open Go Go.ChangeShapes Go.WideShapes Go.RowKit
set_option linter.unusedSimpArgs false
set_option linter.unusedVariables false

theorem AIn.succ {P : Program} {H : AH} : ∀ (d : Nat) (t : TypeId) (acs : List Value), AIn P H d t acs → AIn P H (d + 1) t acs
  | 0, _, _, k => k.elim
  | d + 1, t, acs, k => by
    unfold AIn at k ⊢
    split at k
    · exact k
    · exact k
    · exact k
    · rcases k with k | k | ⟨g, parts, k1, k2, k3, k4, k5⟩
      · exact .inl k
      · exact .inr (.inl k)
      · exact .inr (.inr ⟨g, parts, k1, k2, k3, k4, fun p hp => ⟨AIn.succ d _ p (k5 p hp).1, (k5 p hp).2⟩⟩)
    · obtain ⟨parts, k1, k2, k3⟩ := k
      exact ⟨parts, k1, k2, fun p hp => ⟨AIn.succ d _ p (k3 p hp).1, (k3 p hp).2⟩⟩
    · obtain ⟨parts, k1, k2, k3⟩ := k
      exact ⟨parts, k1, k2, fun j f p hf hp => ⟨AIn.succ d _ p (k3 j f p hf hp).1, (k3 j f p hf hp).2⟩⟩
    · exact k.elim
theorem AIn.add {P : Program} {H : AH} {d : Nat} {t : TypeId} {acs : List Value} (k : AIn P H d t acs) : ∀ n, AIn P H (d + n) t acs
  | 0 => k
  | n + 1 => AIn.succ _ t acs (AIn.add k n)
theorem dataT_succ {P : Program} : ∀ (d : Nat) (t : TypeId), dataT P d t = true → dataT P (d + 1) t = true
  | 0, _, h => by simp [dataT] at h
  | d + 1, t, h => by
    unfold dataT at h ⊢
    rw [Bool.and_eq_true] at h ⊢
    refine ⟨h.1, ?_⟩
    have h2 := h.2
    split at h2
    · rfl
    · rfl
    · rfl
    · rw [Bool.and_eq_true] at h2 ⊢
      exact ⟨dataT_succ d _ h2.1, h2.2⟩
    · exact dataT_succ d _ h2
    · rw [Array.all_eq_true] at h2 ⊢
      exact fun i hi => dataT_succ d _ (h2 i hi)
    · cases h2
/-- An abstract value that holds an input of type t. -/
def AVal (P : Program) (H : AH) (t : TypeId) (v : Value) : Prop :=
  match P.underlying t with
  | some (.struct _) | some (.array _ _) => ∃ acs d, v = .agg (List.toArray acs) ∧ AIn P H (d + 8) t acs
  | _ => ∃ d, AIn P H (d + 8) t [v]
theorem AVal.ext {P : Program} {H H' : AH} (h : ∀ (g : Nat) b, H[g]? = some b → H'[g]? = some b) {t : TypeId} {v : Value} (k : AVal P H t v) : AVal P H' t v := by
  unfold AVal at k ⊢
  split at k
  · obtain ⟨acs, d, h1, h2⟩ := k; exact ⟨acs, d, h1, AIn.ext h _ _ _ h2⟩
  · obtain ⟨acs, d, h1, h2⟩ := k; exact ⟨acs, d, h1, AIn.ext h _ _ _ h2⟩
  · obtain ⟨d, h2⟩ := k; exact ⟨d, AIn.ext h _ _ _ h2⟩

section
variable {P : Program} {W : World} {Hh : Type} {enc : TypeId × Value → Hh}

theorem dataT_up {t : TypeId} {d : Nat} (h : dataT P d t = true) : ∀ n, dataT P (d + n) t = true
  | 0 => h
  | n + 1 => dataT_succ _ _ (dataT_up h n)
theorem trod_up {base : Nat} {spare : Nat → Bool} {held : Bool} {d : Nat} {t : TypeId} {cs : List Value} {x : DataW Hh × List MemPlace} (h : DataW.trod enc P W base spare held d t cs = some x) : ∀ n, DataW.trod enc P W base spare held (d + n) t cs = some x
  | 0 => h
  | n + 1 => DataW.trod_succ _ _ _ _ (trod_up h n)

/-- One argument is opened. -/
theorem open_arg (hl : laidOutB P = true) {t : TypeId} {v' : Value} {base : Nat} {spare : Nat → Bool} {held : Bool} {d : DataW Hh} {ps : List MemPlace} (hok : Value.okWide P W .any base t v') (hd : dataT P 8 t = true) (h : DataW.Trod enc P W 0 spare held t v' d ps)
    {φ : Phi} {H : AH} (hS : Sim φ H W) (hR : AllRo H) : ∃ φ' H' v, Opened W φ H φ' H' ∧ VR φ' v v' ∧ AVal P H' t v := by
  obtain ⟨m, hm⟩ := h
  have hm8 := trod_up hm 8
  have hd8 := dataT_up hd m
  rw [Nat.add_comm] at hd8
  obtain ⟨φ', H', acs, o, hv, ha⟩ := open_in hl (m + 8) t _ _ hm8 hd8 φ H hS hR
  have agg : ∀ cs : Array Value, v' = .agg cs → VR φ' (.agg acs.toArray) v' := by
    rintro cs rfl
    have := hv.arr
    have e : (Value.agg cs).cells.toList.toArray = cs := by simp [Value.cells]
    rw [e] at this
    exact .agg this.1 this.2
  cases hu : P.underlying t with
  | none => unfold dataT at hd; rw [hu] at hd; simp at hd
  | some td =>
    have leaf : (∀ fs, td ≠ .struct fs) → (∀ n e, td ≠ .array n e) → ∃ φ' H' v, Opened W φ H φ' H' ∧ VR φ' v v' ∧ AVal P H' t v := by
      intro n1 n2
      have hone : ∃ v, acs = [v] ∧ (∀ u, VR φ' v u → (∀ cs, u ≠ .agg cs) → u.cells = #[u]) := by
        unfold AIn at ha
        rw [hu] at ha
        cases td with
        | bool => obtain ⟨b, rfl⟩ := ha; exact ⟨_, rfl, fun u h _ => by cases h; rfl⟩
        | int k => obtain ⟨b, rfl, _⟩ := ha; exact ⟨_, rfl, fun u h _ => by cases h; rfl⟩
        | string => obtain ⟨b, rfl, _⟩ := ha; exact ⟨_, rfl, fun u h _ => by cases h; rfl⟩
        | slice e =>
          rcases ha with rfl | ⟨a, rfl⟩ | ⟨g, parts, rfl, _⟩
          · exact ⟨_, rfl, fun u h _ => by cases h <;> rfl⟩
          · exact ⟨_, rfl, fun u h _ => by cases h <;> rfl⟩
          · refine ⟨_, rfl, fun u h _ => ?_⟩
            generalize parts.length = n at h
            cases h <;> rfl
        | struct fs => exact absurd rfl (n1 fs)
        | array n e => exact absurd rfl (n2 n e)
        | _ => exact ha.elim
      obtain ⟨v, rfl, hcell⟩ := hone
      have hnagg : ∀ cs, v' ≠ .agg cs := by
        rintro cs rfl
        unfold Value.okWide at hok
        rw [hu] at hok
        cases td <;> first | exact absurd rfl (n1 _) | exact absurd rfl (n2 _ _) | (simp only [Cell.okWide] at hok; first | cases hok | simp_all [Cell.ok])
      have hl1 : v'.cells.toList.length = 1 := by rw [← hv.1]; rfl
      have hc1 : v'.cells = #[v'] := by cases v' <;> first | rfl | exact absurd rfl (hnagg _)
      refine ⟨φ', H', v, o, ?_, ?_⟩
      · refine hv.2 0 v v' rfl ?_
        rw [hc1]; rfl
      · unfold AVal
        rw [hu]
        cases td <;> first | exact absurd rfl (n1 _) | exact absurd rfl (n2 _ _) | exact ⟨m, ha⟩
    cases td with
    | struct fs =>
      unfold Value.okWide at hok
      rw [hu] at hok
      obtain ⟨cs, rfl, _⟩ := hok
      exact ⟨φ', H', _, o, agg cs rfl, by unfold AVal; rw [hu]; exact ⟨acs, m, rfl, ha⟩⟩
    | array n e =>
      unfold Value.okWide at hok
      rw [hu] at hok
      obtain ⟨cs, rfl, _⟩ := hok
      exact ⟨φ', H', _, o, agg cs rfl, by unfold AVal; rw [hu]; exact ⟨acs, m, rfl, ha⟩⟩
    | _ => exact leaf (fun _ => by simp) (fun _ _ => by simp)

/-- All arguments are opened. -/
theorem open_args (hl : laidOutB P = true) {base : Nat} {spare : Nat → Bool} {held : Bool} : ∀ (ts : List TypeId) (vs : List Value) (ds : List (DataW Hh)) (ps : List MemPlace), DataW.TrodAll enc P W 0 spare held ts vs ds ps → (∀ (j : Nat) t v, ts[j]? = some t → vs[j]? = some v → Value.okWide P W .any base t v) → ts.all (dataT P 8) = true →
    ∀ φ H, Sim φ H W → AllRo H → ∃ (φ' : Phi) (H' : AH) (as : List Value), Opened W φ H φ' H' ∧ VRL φ' as vs ∧ as.length = ts.length ∧ ds.length = ts.length ∧ ∀ (j : Nat) t v, ts[j]? = some t → as[j]? = some v → AVal P H' t v
  | [], [], [], ps, _, _, _, φ, H, hS, hR => ⟨φ, H, [], .refl hS hR, .nil, rfl, rfl, fun j t v h => by simp at h⟩
  | t :: ts, v :: vs, d :: ds, ps, h, hok, hd, φ, H, hS, hR => by
    obtain ⟨p, q, h1, h2, rfl⟩ := h
    rw [List.all_cons, Bool.and_eq_true] at hd
    obtain ⟨φ1, H1, a, o1, v1, a1⟩ := open_arg hl (hok 0 t v rfl rfl) hd.1 h1 hS hR
    obtain ⟨φ2, H2, as, o2, v2, hl2, hl3, a2⟩ := open_args hl ts vs ds q h2 (fun j t v ht hv => hok (j + 1) t v (by simpa using ht) (by simpa using hv)) hd.2 φ1 H1 o1.sim o1.ro
    refine ⟨φ2, H2, a :: as, o1.trans o2, (v1.mono o2.phi |> fun x => v2.cons x), by simp [hl2], by simp [hl3], fun j t' v' ht hv => ?_⟩
    cases j with
    | zero => simp at ht hv; subst ht; subst hv; exact a1.ext o2.ext
    | succ j => exact a2 j t' v' (by simpa using ht) (by simpa using hv)
  | [], [], _ :: _, _, h, _, _, _, _, _, _ => h.elim
  | [], _ :: _, _, _, h, _, _, _, _, _, _ => h.elim
  | _ :: _, [], _, _, h, _, _, _, _, _, _ => h.elim
  | _ :: _, _ :: _, [], _, h, _, _, _, _, _, _ => h.elim

theorem trodAll_below (hl : laidOutB P = true) {W' : World} (hb : Below W.heap.size W W') : ∀ (ts : List TypeId) (vs : List Value) (ds : List (DataW Hh)) (ps : List MemPlace), DataW.TrodAll enc P W 0 (fun _ => true) true ts vs ds ps → (∀ t ∈ ts, P.readableRec t = true ∧ t < P.types.size) →
    DataW.TrodAll enc P W' 0 (fun b => decide (b < W.heap.size)) true ts vs ds ps
  | [], [], [], ps, h, _ => h
  | t :: ts, v :: vs, d :: ds, ps, h, hr => by
    obtain ⟨p, q, h1, h2, rfl⟩ := h
    refine ⟨p, q, Below.trod hl (hr t (by simp)).1 (hr t (by simp)).2 h1 hb ?_, trodAll_below hl hb ts vs ds q h2 (fun t ht => hr t (by simp [ht])), rfl⟩
    obtain ⟨m, hm⟩ := h1
    exact DataW.trod_lt m _ _ _ hm
  | [], [], _ :: _, _, h, _ => h.elim
  | [], _ :: _, _, _, h, _ => h.elim
  | _ :: _, [], _, _, h, _ => h.elim
  | _ :: _, _ :: _, [], _, h, _ => h.elim
end

/-- A law's call comes to 'true' over abstract memory: then it does from every state that can be read. -/
def ALaw (P : Program) (f : FuncId) (ts : List TypeId) : Prop :=
  ∀ (H : AH) (as : List Value), AllRo H → as.length = ts.length → (∀ (j : Nat) t v, ts[j]? = some t → as[j]? = some v → AVal P H t v) → ACalls P f as.toArray H fun v _ => v = .bool true

theorem law_contract {P : Program} (hl : laidOutB P = true) {f : FuncId} {fn : Func} {s : ChangeSpec} {rt : TypeId} {H : Type} {enc : TypeId × Value → H} (law : ALaw P f fn.params.toList)
    (hvars : s.vars = []) (hspec : ∀ ds : List (DataW H), ds.length = fn.params.size → s.fn H ds = { results := [.lit (.bool true)], args := ds }) (hdata : fn.params.toList.all (dataT P 8) = true)
    (hread : ∀ t ∈ fn.params.toList, P.readableRec t = true ∧ t < P.types.size) (hres : fn.resultTypes = #[rt]) (hrt : P.underlying rt = some .bool)
    (W : World) (base : Nat) (args : Array Value) (ds gs : List (DataW H)) (before : List MemPlace)
    (hval : ∀ (j : Nat) t v, fn.params[j]? = some t → args[j]? = some v → Value.okWide P W .any base t v)
    (hW : DataW.Whole enc P fn.params.toList s.vars false W args.toList ds gs before) :
    Calls P f args W fun e W' => ∃ v, e = .returned v ∧ s.post enc P fn false true false false W args v W' := by
  have hW' := hW
  obtain ⟨p, q, hA, hV, rfl, hfz, hnd⟩ := hW
  rw [hvars] at hV
  obtain ⟨rfl, rfl⟩ := trodVars_none hV
  obtain ⟨φ, Hh, as, o, hv, hal, hdl, ha⟩ := open_args hl (base := base) fn.params.toList args.toList ds p hA (fun j t v ht hv => hval j t v (by simpa using ht) (by simpa using hv)) hdata (fun _ => none) [] ⟨fun g bi h => (by cases h), fun g cs bi h => (by simp at h), fun g cs bi h => (by simp at h), fun g g' cs bi bi' h => (by simp at h)⟩ (fun g cs h => by simp at h)
  have hcall := law Hh as o.ro hal ha φ W args o.sim (by have := hv.arr; simpa using this)
  refine hcall.mono ?_
  rintro e W' ⟨v, v', H', φ', rfl, h1, rfl, h3, h4⟩
  have hv' : v' = .bool true := h1.scalar rfl
  subst hv'
  have bel : Below W.heap.size W W' := ⟨h4.os, h4.tape, h4.output, h4.size, fun k hk => h4.fr k hk fun g cs bi hg => absurd hg (o.ro g cs)⟩
  have hsp := hspec ds (by simpa using hdl)
  refine ⟨_, rfl, ds, [], p ++ [], [], p, [], hW', ?_, ?_, ?_, bel.frame _, fun h => by cases h⟩
  · rw [List.append_nil, hsp, hres]
    exact trodAll_mk1 (shut_bool hrt _)
  · rw [List.append_nil, hsp]
    exact trodAll_below hl bel _ _ _ _ hA hread
  · rw [List.append_nil, hsp, hvars]
    rfl
end Go.Proofs.Ytelpdppdhimfoaa
