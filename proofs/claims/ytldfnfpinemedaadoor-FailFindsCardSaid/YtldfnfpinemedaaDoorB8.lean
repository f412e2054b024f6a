/- Words of the proofs: what comes in from outside, as abstract memory that is only read. Words of the proofs: a law whose call comes to 'true' over abstract memory, as a row. -/
import Derived.Test.YtldfnfpinemedaaDoorB6
import Derived.ProofKit
import Derived.Deep.Slices
import Derived.OpenShut
import Derived.ChangeOld
import Derived.SizedLaws

namespace Go.Proofs.YtldfnfpinemedaaDoor
open Go
set_option linter.unusedSimpArgs false
set_option linter.unusedVariables false

/-- Abstract cells that hold an input of type t (bools, integers, strings, slices, arrays, structs). -/
def AIn (P : Program) (H : AH) : Nat → TypeId → List Value → Prop
  | 0, _, _ => False
  | d + 1, t, acs => match P.underlying t with
    | some .bool => ∃ b, acs = [.bool b]
    | some (.int k) => ∃ n, acs = [.int k n] ∧ (Lit.int k n).wf = true
    | some .string => ∃ s, acs = [.string s] ∧ s.size ≤ maxLen
    | some (.slice e) => acs = [.slice none 0 0] ∨ acs = [.slice (some ⟨0, 0, none⟩) 0 0] ∨
        ∃ (g : Nat) (parts : List (List Value)), acs = [.slice (some ⟨g, 0, none⟩) parts.length 0] ∧ 0 < parts.length ∧ parts.length ≤ maxLen ∧ H[g]? = some (.ro parts.flatten) ∧ ∀ p ∈ parts, AIn P H d e p ∧ p.length = P.cellsOf e
    | some (.array n e) => ∃ parts : List (List Value), acs = parts.flatten ∧ parts.length = n ∧ ∀ p ∈ parts, AIn P H d e p ∧ p.length = P.cellsOf e
    | some (.struct fs) => ∃ parts : List (List Value), acs = parts.flatten ∧ parts.length = fs.size ∧ ∀ (j : Nat) f p, fs[j]? = some f → parts[j]? = some p → AIn P H d f.type p ∧ p.length = P.cellsOf f.type
    | _ => False
theorem AIn.ext {P : Program} {H H' : AH} (h : ∀ (g : Nat) b, H[g]? = some b → H'[g]? = some b) : ∀ (d : Nat) (t : TypeId) (acs : List Value), AIn P H d t acs → AIn P H' d t acs
  | 0, _, _, k => k.elim
  | d + 1, t, acs, k => by
    unfold AIn at k ⊢
    split at k
    · exact k
    · exact k
    · exact k
    · rcases k with k | k | ⟨g, parts, k1, k2, k3, k4, k5⟩
      · exact .inl k
      · exact .inr (.inl k)
      · exact .inr (.inr ⟨g, parts, k1, k2, k3, h _ _ k4, fun p hp => ⟨AIn.ext h d _ p (k5 p hp).1, (k5 p hp).2⟩⟩)
    · obtain ⟨parts, k1, k2, k3⟩ := k
      exact ⟨parts, k1, k2, fun p hp => ⟨AIn.ext h d _ p (k3 p hp).1, (k3 p hp).2⟩⟩
    · obtain ⟨parts, k1, k2, k3⟩ := k
      exact ⟨parts, k1, k2, fun j f p hf hp => ⟨AIn.ext h d _ p (k3 j f p hf hp).1, (k3 j f p hf hp).2⟩⟩
    · exact k.elim

/-- Types that hold nothing but bools, integers, strings, and slices, arrays, structs of such (no slice of elements without cells). -/
def dataT (P : Program) : Nat → TypeId → Bool
  | 0, _ => false
  | d + 1, t => decide (t < P.types.size) && match P.underlying t with
    | some .bool | some (.int _) | some .string => true
    | some (.slice e) => dataT P d e && decide (0 < P.cellsOf e)
    | some (.array _ e) => dataT P d e
    | some (.struct fs) => fs.all fun f => dataT P d f.type
    | _ => false

def splitL : List Nat → List Value → List (List Value)
  | [], _ => []
  | s :: ss, cs => cs.take s :: splitL ss (cs.drop s)
theorem splitL_flatten : ∀ (ss : List Nat) (cs : List Value), cs.length = ss.sum → (splitL ss cs).flatten = cs
  | [], cs, h => by simp at h; simp [splitL, h]
  | s :: ss, cs, h => by
    simp only [splitL, List.flatten_cons, List.sum_cons] at h ⊢
    rw [splitL_flatten ss (cs.drop s) (by simp; omega), List.take_append_drop]
theorem splitL_length (ss : List Nat) : ∀ (cs : List Value), (splitL ss cs).length = ss.length := by
  induction ss with
  | nil => intro cs; rfl
  | cons s ss ih => intro cs; simp [splitL, ih]
theorem splitL_get : ∀ (ss : List Nat) (cs : List Value) (j s : Nat), ss[j]? = some s → (splitL ss cs)[j]? = some ((cs.drop (ss.take j).sum).take s)
  | [], cs, j, s, h => by simp at h
  | x :: ss, cs, 0, s, h => by simp at h; subst h; simp [splitL]
  | x :: ss, cs, j + 1, s, h => by
    simp only [splitL, List.getElem?_cons_succ] at h ⊢
    rw [splitL_get ss _ j s h, List.drop_drop]
    simp

theorem sum_rep (n c : Nat) : (List.replicate n c).sum = n * c := by
  induction n with
  | zero => simp
  | succ n ih => rw [List.replicate_succ, List.sum_cons, ih, Nat.add_mul]; omega
def AllRo (H : AH) : Prop := ∀ (g : Nat) c, H[g]? = some c → ¬ c.mine ∧ ∀ mm b p, c ≠ .oddm mm b p
theorem AllRo.push {H : AH} (h : AllRo H) (cs : List Value) : AllRo (H ++ [.ro cs]) := by
  intro g cs' hg
  by_cases hl : g < H.length
  · rw [get_push_lt hl] at hg; exact h g cs' hg
  · have : g = H.length := by have := own_lt hg; simp at this; omega
    subst this
    rw [get_push_eq] at hg
    cases hg
    exact ⟨ABlk.mine_ro, fun _ _ _ e => by cases e⟩
/-- A step of opening: more blocks that are only read. -/
structure Opened (W : World) (φ : Phi) (H : AH) (φ' : Phi) (H' : AH) : Prop where
  sim : Sim φ' H' W
  ro : AllRo H'
  ext : ∀ (g : Nat) b, H[g]? = some b → H'[g]? = some b
  phi : ∀ g bi, φ g = some bi → φ' g = some bi
theorem Opened.refl {W : World} {φ : Phi} {H : AH} (h : Sim φ H W) (r : AllRo H) : Opened W φ H φ H := ⟨h, r, fun _ _ h => h, fun _ _ h => h⟩
theorem Opened.trans {W : World} {φ φ' φ'' : Phi} {H H' H'' : AH} (h : Opened W φ H φ' H') (k : Opened W φ' H' φ'' H'') : Opened W φ H φ'' H'' :=
  ⟨k.sim, k.ro, fun g b hg => k.ext g b (h.ext g b hg), fun g b hg => k.phi g b (h.phi g b hg)⟩
/-- A view of the machine's memory that is only read. -/
theorem Sim.view {φ : Phi} {H : AH} {W : World} (h : Sim φ H W) (hro : AllRo H) {cs : List Value} {b off : Nat} {C : Array Value} {ty : TypeId} {fr : Nat × Nat} (hb : W.heap[b]? = some (.cells C ty fr)) (hc : ∀ (i : Nat) v, cs[i]? = some v → ∃ v', C[off + i]? = some v' ∧ VR φ v v') :
    Opened W φ H (φ.upd H.length ⟨b, off, 0, true⟩) (H ++ [.ro cs]) := by
  have hn := h.fresh_none (Nat.le_refl H.length)
  have hle := Phi.upd_le (bi := ⟨b, off, 0, true⟩) hn
  have hP := h.push (.ro cs)
  have hblt : b < W.heap.size := (Array.getElem?_eq_some_iff.1 hb).1
  have hro' := hro.push cs
  refine ⟨⟨fun x bi hx => ?_, fun x c bi h1 _ => absurd ABlk.mine_own (hro' x _ h1).1, fun x c bi h1 hx => ?_, fun x c bi h1 _ => absurd ABlk.mine_map (hro' x _ h1).1, fun x mm b p h1 => absurd rfl ((hro' x _ h1).2 mm b p), fun x y c bi bi' h1 hm => absurd hm (hro' x c h1).1⟩, hro', fun g b hg => by rw [get_push_lt (own_lt hg)]; exact hg, hle⟩
  · by_cases e : x = H.length
    · subst e; rw [Phi.upd_self] at hx; cases hx; exact ⟨by simp, hblt⟩
    · rw [Phi.upd_ne e] at hx; exact hP.dom x bi hx
  · by_cases e : x = H.length
    · subst e; rw [Phi.upd_self] at hx; cases hx
      rw [get_push_eq] at h1; cases h1
      refine ⟨C, ty, fr, hb, fun i v hv => ?_⟩
      obtain ⟨v', k1, k2⟩ := hc i v hv
      exact ⟨v', k1, k2.mono hle⟩
    · rw [Phi.upd_ne e] at hx
      obtain ⟨D, ty', fr', d1, d2⟩ := hP.ro x c bi h1 hx
      refine ⟨D, ty', fr', d1, fun i v hv => ?_⟩
      obtain ⟨v', k1, k2⟩ := d2 i v hv
      exact ⟨v', k1, k2.mono hle⟩

theorem flatten_get {c : Nat} : ∀ (L : List (List Value)), (∀ p ∈ L, p.length = c) → ∀ i j, j < c → L.flatten[i * c + j]? = (L[i]?).bind (·[j]?)
  | [], _, i, j, _ => by simp
  | p :: L, h, 0, j, hj => by
    have hp := h p (by simp)
    simp only [Nat.zero_mul, Nat.zero_add, List.flatten_cons, List.getElem?_cons_zero, Option.bind_some]
    rw [List.getElem?_append_left (by omega)]
  | p :: L, h, i + 1, j, hj => by
    have hp := h p (by simp)
    simp only [List.flatten_cons, List.getElem?_cons_succ]
    rw [List.getElem?_append_right (by rw [hp, Nat.add_mul]; omega), hp, show (i + 1) * c + j - c = i * c + j by rw [Nat.add_mul]; omega]
    exact flatten_get L (fun q hq => h q (by simp [hq])) i j hj
theorem flatten_length {c : Nat} : ∀ (L : List (List Value)), (∀ p ∈ L, p.length = c) → L.flatten.length = L.length * c
  | [], _ => by simp
  | p :: L, h => by
    rw [List.flatten_cons, List.length_append, flatten_length L (fun q hq => h q (by simp [hq])), h p (by simp), List.length_cons, Nat.add_mul]; omega

section
variable {P : Program} {W : World} {Hh : Type} {enc : TypeId × Value → Hh} {spare : Nat → Bool} {held : Bool}

/-- Several pieces, one after the other. -/
theorem open_list {d : Nat} (one : ∀ (t : TypeId) (cs : List Value) x, DataW.trod enc P W 0 spare held d t cs = some x → dataT P d t = true → ∀ φ H, Sim φ H W → AllRo H → ∃ φ' H' acs, Opened W φ H φ' H' ∧ VRL φ' acs cs ∧ AIn P H' d t acs) :
    ∀ (ps : List (TypeId × List Value)), (∀ p ∈ ps, (∃ x, DataW.trod enc P W 0 spare held d p.1 p.2 = some x) ∧ dataT P d p.1 = true) → ∀ φ H, Sim φ H W → AllRo H →
    ∃ (φ' : Phi) (H' : AH) (parts : List (List Value)), Opened W φ H φ' H' ∧ parts.length = ps.length ∧ ∀ (j : Nat) p acs, ps[j]? = some p → parts[j]? = some acs → VRL φ' acs p.2 ∧ AIn P H' d p.1 acs
  | [], _, φ, H, hS, hR => ⟨φ, H, [], .refl hS hR, rfl, fun j p acs h => by simp at h⟩
  | p :: ps, h, φ, H, hS, hR => by
    obtain ⟨⟨x, hx⟩, hd⟩ := h p (by simp)
    obtain ⟨φ1, H1, acs, o1, v1, a1⟩ := one p.1 p.2 x hx hd φ H hS hR
    obtain ⟨φ2, H2, parts, o2, hl, hp⟩ := open_list one ps (fun q hq => h q (by simp [hq])) φ1 H1 o1.sim o1.ro
    refine ⟨φ2, H2, acs :: parts, o1.trans o2, by simp [hl], fun j q acs' hq ha => ?_⟩
    cases j with
    | zero =>
      simp at hq ha
      subst hq; subst ha
      exact ⟨v1.mono o2.phi, AIn.ext o2.ext d _ _ a1⟩
    | succ j => exact hp j q acs' (by simpa using hq) (by simpa using ha)

theorem VRL.flatten {φ : Phi} : ∀ (A B : List (List Value)), A.length = B.length → (∀ (j : Nat) a b, A[j]? = some a → B[j]? = some b → VRL φ a b) → VRL φ A.flatten B.flatten
  | [], [], _, _ => by simpa using VRL.nil
  | [], _ :: _, h, _ => by simp at h
  | _ :: _, [], h, _ => by simp at h
  | a :: A, b :: B, h, k => by
    simp only [List.flatten_cons]
    exact (k 0 a b rfl rfl).append (VRL.flatten A B (by simpa using h) fun j a b ha hb => k (j + 1) a b (by simpa using ha) (by simpa using hb))

theorem VRL.one {φ : Phi} {v : Value} (h : VR φ v v) : VRL φ [v] [v] := VRL.nil.cons h
theorem open_in (hl : laidOutB P = true) : ∀ (d : Nat) (t : TypeId) (cs : List Value) x, DataW.trod enc P W 0 spare held d t cs = some x → dataT P d t = true → ∀ φ H, Sim φ H W → AllRo H → ∃ φ' H' acs, Opened W φ H φ' H' ∧ VRL φ' acs cs ∧ AIn P H' d t acs
  | 0, _, _, _, h, _ => by simp [DataW.trod] at h
  | d + 1, t, cs, x, h, hd => by
    intro φ H hS hR
    have one := open_in hl d
    unfold dataT at hd
    rw [Bool.and_eq_true, decide_eq_true_eq] at hd
    obtain ⟨htl, hd⟩ := hd
    unfold AIn
    split at hd
    · rename_i hu
      obtain ⟨b, rfl, _⟩ := DataW.trod_bool hu h
      exact ⟨φ, H, _, .refl hS hR, VRL.one (.bool b), by exact ⟨b, rfl⟩⟩
    · rename_i k hu
      obtain ⟨n, rfl, _, hw⟩ := DataW.trod_int hu h
      exact ⟨φ, H, _, .refl hS hR, VRL.one (.int k n), by exact ⟨n, rfl, hw⟩⟩
    · rename_i hu
      obtain ⟨s, rfl, _, hw⟩ := DataW.trod_string hu h
      exact ⟨φ, H, _, .refl hS hR, VRL.one (.string s), by exact ⟨s, rfl, hw⟩⟩
    · rename_i e hu
      rw [Bool.and_eq_true, decide_eq_true_eq] at hd
      obtain ⟨hde, hC⟩ := hd
      rcases DataW.trod_slice hu h with ⟨rfl, _⟩ | ⟨a, len, cap, elems, rest, m, hm, rfl, _, _, hlc, hcm, hel, hcells, _⟩
      · exact ⟨φ, H, _, .refl hS hR, VRL.one .nilslice, by exact .inl rfl⟩
      · obtain rfl : m = d := by omega
        rcases Nat.eq_zero_or_pos len with h0 | hpos
        · subst h0
          exact ⟨φ, H, [.slice (some ⟨0, 0, none⟩) 0 0], .refl hS hR, VRL.nil.cons (.empty _ _ _ _), by exact .inr (.inl rfl)⟩
        · have key : ∀ i, i < len → ∃ ci, W.cells? 0 (a.add (i * P.cellsOf e)) (P.cellsOf e) = some ci ∧ ∃ y, DataW.trod enc P W 0 spare held m e ci = some y := by
            intro i hi
            have := hcells i hi
            rw [List.getElem?_eq_getElem (by omega)] at this
            obtain ⟨ci, h1, h2⟩ := Option.bind_eq_some_iff.1 this
            exact ⟨ci, h1, _, h2⟩
          let csI : Nat → List Value := fun i => (W.cells? 0 (a.add (i * P.cellsOf e)) (P.cellsOf e)).getD []
          have hcsI : ∀ i, i < len → W.cells? 0 (a.add (i * P.cellsOf e)) (P.cellsOf e) = some (csI i) ∧ ∃ y, DataW.trod enc P W 0 spare held m e (csI i) = some y := by
            intro i hi
            obtain ⟨ci, h1, h2⟩ := key i hi
            have : csI i = ci := by show (W.cells? 0 (a.add (i * P.cellsOf e)) (P.cellsOf e)).getD [] = ci; rw [h1]; rfl
            rw [this]; exact ⟨h1, h2⟩
          obtain ⟨φ1, H1, parts, o1, hpl, hpp⟩ := open_list one ((List.range len).map fun i => (e, csI i)) (fun p hp => by
            obtain ⟨i, hi, rfl⟩ := List.mem_map.1 hp
            exact ⟨(hcsI i (List.mem_range.1 hi)).2, hde⟩) φ H hS hR
          simp only [List.length_map, List.length_range] at hpl
          have hpi : ∀ i acs, parts[i]? = some acs → i < len ∧ VRL φ1 acs (csI i) ∧ AIn P H1 m e acs := by
            intro i acs hi
            have hlt : i < len := by have := (List.getElem?_eq_some_iff.1 hi).1; omega
            have := hpp i (e, csI i) acs (by simp [hlt]) hi
            exact ⟨hlt, this.1, this.2⟩
          have hlen : ∀ p ∈ parts, p.length = P.cellsOf e := by
            intro p hp
            obtain ⟨i, hi⟩ := List.mem_iff_getElem?.1 hp
            obtain ⟨h1, h2, _⟩ := hpi i p hi
            rw [h2.1]
            exact (World.cells?_some (hcsI i h1).1).2.1
          -- the block
          have hcell0 := (World.cells?_some (hcsI 0 hpos).1).2.2 0 hC
          have hlen0 := (World.cells?_some (hcsI 0 hpos).1).2.1
          rw [Nat.zero_mul, Addr.add_zero', Addr.add_zero', List.getElem?_eq_getElem (by omega)] at hcell0
          have hspot : a.spot = none := by
            unfold World.cell? at hcell0
            split at hcell0
            · split at hcell0
              · cases hcell0
              · rename_i hn; simpa using hn
            · cases hcell0
          obtain ⟨blk, off, spot⟩ := a
          simp only at hspot
          subst hspot
          obtain ⟨Cc, ty, fr, hblk⟩ : ∃ Cc ty fr, W.heap[blk]? = some (.cells Cc ty fr) := by
            unfold World.cell? at hcell0
            split at hcell0
            · rename_i Cc ty fr hb; exact ⟨Cc, ty, fr, hb⟩
            · cases hcell0
          have hview := o1.sim.view o1.ro (cs := parts.flatten) (off := off) hblk (fun i v hv => by
            have hcpos := hC
            have hi : i = i / P.cellsOf e * P.cellsOf e + i % P.cellsOf e := by rw [Nat.mul_comm]; exact (Nat.div_add_mod _ _).symm
            have hj : i % P.cellsOf e < P.cellsOf e := Nat.mod_lt _ hcpos
            rw [hi, flatten_get parts hlen _ _ hj] at hv
            obtain ⟨acs, ha, hv⟩ := Option.bind_eq_some_iff.1 hv
            obtain ⟨hlt, hvr, _⟩ := hpi _ acs ha
            obtain ⟨v', k1, k2⟩ := hvr.get hv
            have hc := (World.cells?_some (hcsI _ hlt).1).2.2 _ hj
            rw [k1, addr_add, addr_add] at hc
            refine ⟨v', ?_, k2⟩
            simp only [World.cell?, hblk] at hc
            rw [hi, ← Nat.add_assoc]
            simpa using hc)
          refine ⟨_, _, [.slice (some ⟨H1.length, 0, none⟩) parts.length 0], o1.trans hview, ?_, ?_⟩
          · refine VRL.nil.cons ?_
            have := VR.slice (φ := φ1.upd H1.length ⟨blk, off, 0, true⟩) (g := H1.length) (o := 0) (n := parts.length) (e := 0) (c' := cap) Phi.upd_self (by omega) (.inl rfl)
            rw [hpl] at this ⊢
            simpa using this
          · refine .inr (.inr ⟨H1.length, parts, rfl, by omega, by omega, get_push_eq, fun p hp => ⟨?_, hlen p hp⟩⟩)
            obtain ⟨i, hi⟩ := List.mem_iff_getElem?.1 hp
            exact AIn.ext hview.ext m e p (hpi i p hi).2.2
    · rename_i n e hu
      obtain ⟨xs, m, hm, _, hcl, hxl, hxs⟩ := DataW.trod_array hu h
      obtain rfl : m = d := by omega
      have hlay := (kid_array hl htl hu).2
      have hsum : cs.length = (List.replicate n (P.cellsOf e)).sum := by rw [hcl, hlay, sum_rep]
      obtain ⟨φ1, H1, parts, o1, hpl, hpp⟩ := open_list one ((splitL (List.replicate n (P.cellsOf e)) cs).map fun c => (e, c)) (fun p hp => by
        obtain ⟨c, hc, rfl⟩ := List.mem_map.1 hp
        obtain ⟨j, hj⟩ := List.mem_iff_getElem?.1 hc
        have hjn : j < n := by have := (List.getElem?_eq_some_iff.1 hj).1; simpa [splitL_length] using this
        have := splitL_get (List.replicate n (P.cellsOf e)) cs j (P.cellsOf e) (by simp [hjn])
        rw [this] at hj
        cases hj
        have ht := hxs j hjn
        rw [List.getElem?_eq_getElem (by omega)] at ht
        have e2 : (List.take j (List.replicate n (P.cellsOf e))).sum = j * P.cellsOf e := by rw [List.take_replicate, sum_rep, Nat.min_eq_left (by omega)]
        simp only [e2]
        exact ⟨⟨_, ht⟩, hd⟩) φ H hS hR
      simp only [List.length_map, splitL_length, List.length_replicate] at hpl
      have hv : VRL φ1 parts.flatten cs := by
        have := VRL.flatten (φ := φ1) parts (splitL (List.replicate n (P.cellsOf e)) cs) (by rw [hpl, splitL_length]; simp) (fun j a b ha hb => (hpp j (e, b) a (by simp [hb]) ha).1)
        rwa [splitL_flatten _ _ hsum] at this
      refine ⟨φ1, H1, parts.flatten, o1, hv, ?_⟩
      refine ⟨parts, rfl, hpl, fun p hp => ?_⟩
      obtain ⟨j, hj⟩ := List.mem_iff_getElem?.1 hp
      have hjn : j < n := by have := (List.getElem?_eq_some_iff.1 hj).1; omega
      have hg := splitL_get (List.replicate n (P.cellsOf e)) cs j (P.cellsOf e) (by simp [hjn])
      have := hpp j (e, _) p (by rw [List.getElem?_map, hg]; rfl) hj
      refine ⟨this.2, ?_⟩
      rw [this.1.1]
      rw [List.take_replicate, sum_rep, Nat.min_eq_left (by omega), List.length_take, List.length_drop, hcl, hlay]
      have : (j + 1) * P.cellsOf e ≤ n * P.cellsOf e := Nat.mul_le_mul_right _ (by omega)
      rw [Nat.add_mul] at this
      omega
    · rename_i fs hu
      obtain ⟨xs, m, hm, _, hcl, hxl, hxs⟩ := DataW.trod_struct hu h
      obtain rfl : m = d := by omega
      obtain ⟨hlt, hlay, hoff⟩ := kid_struct hl htl hu
      have hsum : cs.length = (fs.toList.map fun f => P.cellsOf f.type).sum := by rw [hcl, hlay]
      have hget : ∀ (j : Nat) (f : Field), fs[j]? = some f → (splitL (fs.toList.map fun f => P.cellsOf f.type) cs)[j]? = some ((cs.drop f.offset).take (P.cellsOf f.type)) := by
        intro j f hf
        rw [splitL_get _ cs j (P.cellsOf f.type) (by simp [hf]), hoff j f (by simpa using hf), List.map_take]
      obtain ⟨φ1, H1, parts, o1, hpl, hpp⟩ := open_list one ((List.range fs.size).map fun j => (((fs[j]?).map (·.type)).getD 0, (splitL (fs.toList.map fun f => P.cellsOf f.type) cs).getD j [])) (fun p hp => by
        obtain ⟨j, hj, rfl⟩ := List.mem_map.1 hp
        have hjl := List.mem_range.1 hj
        have hf : fs[j]? = some fs[j] := Array.getElem?_eq_getElem hjl
        have ht := hxs j _ hf
        rw [List.getElem?_eq_getElem (by omega)] at ht
        simp only [hf, Option.map_some, Option.getD_some, List.getD_eq_getElem?_getD, hget j _ hf]
        exact ⟨⟨_, ht⟩, Array.all_eq_true.1 hd j hjl⟩) φ H hS hR
      simp only [List.length_map, List.length_range] at hpl
      have hpj : ∀ (j : Nat) (f : Field) p, fs[j]? = some f → parts[j]? = some p → VRL φ1 p ((cs.drop f.offset).take (P.cellsOf f.type)) ∧ AIn P H1 m f.type p := by
        intro j f p hf hp
        have hjl : j < fs.size := (Array.getElem?_eq_some_iff.1 hf).1
        have := hpp j (f.type, (cs.drop f.offset).take (P.cellsOf f.type)) p (by simp [hjl, hf, hget j f hf]; rw [Array.getElem?_eq_getElem hjl] at hf; cases hf; simp) hp
        exact this
      have hv : VRL φ1 parts.flatten cs := by
        have := VRL.flatten (φ := φ1) parts (splitL (fs.toList.map fun f => P.cellsOf f.type) cs) (by rw [hpl, splitL_length]; simp) (fun j a b ha hb => by
          have hjl : j < fs.size := by have := (List.getElem?_eq_some_iff.1 ha).1; omega
          have hf : fs[j]? = some fs[j] := Array.getElem?_eq_getElem hjl
          rw [hget j _ hf] at hb
          cases hb
          exact (hpj j _ a hf ha).1)
        rwa [splitL_flatten _ _ hsum] at this
      refine ⟨φ1, H1, parts.flatten, o1, hv, ?_⟩
      refine ⟨parts, rfl, hpl, fun j f p hf hp => ?_⟩
      obtain ⟨k1, k2⟩ := hpj j f p hf hp
      refine ⟨k2, ?_⟩
      rw [k1.1, List.length_take, List.length_drop, hcl, hlay]
      have hjl : j < fs.size := (Array.getElem?_eq_some_iff.1 hf).1
      have e1 : (fs.toList.map fun f => P.cellsOf f.type) = (fs.toList.take j).map (fun f => P.cellsOf f.type) ++ ((fs.toList.drop j).map fun f => P.cellsOf f.type) := by rw [← List.map_append, List.take_append_drop]
      have e2 : fs.toList.drop j = f :: fs.toList.drop (j + 1) := by
        rw [List.drop_eq_getElem_cons (by simpa using hjl)]
        congr 1
        have : fs.toList[j]? = some f := by simpa using hf
        exact (List.getElem?_eq_some_iff.1 this).2
      rw [e1, e2, List.sum_append, hoff j f (by simpa using hf)]
      simp only [List.map_cons, List.sum_cons]
      omega
    · cases hd
end
end Go.Proofs.YtldfnfpinemedaaDoor

namespace Go.Proofs.YtldfnfpinemedaaDoor
open Go Go.ChangeShapes Go.WideShapes Go.RowKit
set_option linter.unusedSimpArgs false
set_option linter.unusedVariables false

theorem AIn.succ {P : Program} {H : AH} : ∀ (d : Nat) (t : TypeId) (acs : List Value), AIn P H d t acs → AIn P H (d + 1) t acs
  | 0, _, _, k => k.elim
  | d + 1, t, acs, k => by
    unfold AIn at k ⊢
    split at k
    · exact k
    · exact k
    · exact k
    · rcases k with k | k | ⟨g, parts, k1, k2, k3, k4, k5⟩
      · exact .inl k
      · exact .inr (.inl k)
      · exact .inr (.inr ⟨g, parts, k1, k2, k3, k4, fun p hp => ⟨AIn.succ d _ p (k5 p hp).1, (k5 p hp).2⟩⟩)
    · obtain ⟨parts, k1, k2, k3⟩ := k
      exact ⟨parts, k1, k2, fun p hp => ⟨AIn.succ d _ p (k3 p hp).1, (k3 p hp).2⟩⟩
    · obtain ⟨parts, k1, k2, k3⟩ := k
      exact ⟨parts, k1, k2, fun j f p hf hp => ⟨AIn.succ d _ p (k3 j f p hf hp).1, (k3 j f p hf hp).2⟩⟩
    · exact k.elim
theorem AIn.add {P : Program} {H : AH} {d : Nat} {t : TypeId} {acs : List Value} (k : AIn P H d t acs) : ∀ n, AIn P H (d + n) t acs
  | 0 => k
  | n + 1 => AIn.succ _ t acs (AIn.add k n)
theorem dataT_succ {P : Program} : ∀ (d : Nat) (t : TypeId), dataT P d t = true → dataT P (d + 1) t = true
  | 0, _, h => by simp [dataT] at h
  | d + 1, t, h => by
    unfold dataT at h ⊢
    rw [Bool.and_eq_true] at h ⊢
    refine ⟨h.1, ?_⟩
    have h2 := h.2
    split at h2
    · rfl
    · rfl
    · rfl
    · rw [Bool.and_eq_true] at h2 ⊢
      exact ⟨dataT_succ d _ h2.1, h2.2⟩
    · exact dataT_succ d _ h2
    · rw [Array.all_eq_true] at h2 ⊢
      exact fun i hi => dataT_succ d _ (h2 i hi)
    · cases h2
/-- An abstract value that holds an input of type t. -/
def AVal (P : Program) (H : AH) (t : TypeId) (v : Value) : Prop :=
  match P.underlying t with
  | some (.struct _) | some (.array _ _) => ∃ acs d, v = .agg (List.toArray acs) ∧ AIn P H (d + 8) t acs
  | _ => ∃ d, AIn P H (d + 8) t [v]
theorem AVal.ext {P : Program} {H H' : AH} (h : ∀ (g : Nat) b, H[g]? = some b → H'[g]? = some b) {t : TypeId} {v : Value} (k : AVal P H t v) : AVal P H' t v := by
  unfold AVal at k ⊢
  split at k
  · obtain ⟨acs, d, h1, h2⟩ := k; exact ⟨acs, d, h1, AIn.ext h _ _ _ h2⟩
  · obtain ⟨acs, d, h1, h2⟩ := k; exact ⟨acs, d, h1, AIn.ext h _ _ _ h2⟩
  · obtain ⟨d, h2⟩ := k; exact ⟨d, AIn.ext h _ _ _ h2⟩

section
variable {P : Program} {W : World} {Hh : Type} {enc : TypeId × Value → Hh}

theorem dataT_up {t : TypeId} {d : Nat} (h : dataT P d t = true) : ∀ n, dataT P (d + n) t = true
  | 0 => h
  | n + 1 => dataT_succ _ _ (dataT_up h n)
theorem trod_up {base : Nat} {spare : Nat → Bool} {held : Bool} {d : Nat} {t : TypeId} {cs : List Value} {x : DataW Hh × List MemPlace} (h : DataW.trod enc P W base spare held d t cs = some x) : ∀ n, DataW.trod enc P W base spare held (d + n) t cs = some x
  | 0 => h
  | n + 1 => DataW.trod_succ _ _ _ _ (trod_up h n)

/-- One argument is opened. -/
theorem open_arg (hl : laidOutB P = true) {t : TypeId} {v' : Value} {base : Nat} {spare : Nat → Bool} {held : Bool} {d : DataW Hh} {ps : List MemPlace} (hok : Value.okWide P W .any base t v') (hd : dataT P 8 t = true) (h : DataW.Trod enc P W 0 spare held t v' d ps)
    {φ : Phi} {H : AH} (hS : Sim φ H W) (hR : AllRo H) : ∃ φ' H' v, Opened W φ H φ' H' ∧ VR φ' v v' ∧ AVal P H' t v := by
  obtain ⟨m, hm⟩ := h
  have hm8 := trod_up hm 8
  have hd8 := dataT_up hd m
  rw [Nat.add_comm] at hd8
  obtain ⟨φ', H', acs, o, hv, ha⟩ := open_in hl (m + 8) t _ _ hm8 hd8 φ H hS hR
  have agg : ∀ cs : Array Value, v' = .agg cs → VR φ' (.agg acs.toArray) v' := by
    rintro cs rfl
    have := hv.arr
    have e : (Value.agg cs).cells.toList.toArray = cs := by simp [Value.cells]
    rw [e] at this
    exact .agg this.1 this.2
  cases hu : P.underlying t with
  | none => unfold dataT at hd; rw [hu] at hd; simp at hd
  | some td =>
    have leaf : (∀ fs, td ≠ .struct fs) → (∀ n e, td ≠ .array n e) → ∃ φ' H' v, Opened W φ H φ' H' ∧ VR φ' v v' ∧ AVal P H' t v := by
      intro n1 n2
      have hone : ∃ v, acs = [v] ∧ (∀ u, VR φ' v u → (∀ cs, u ≠ .agg cs) → u.cells = #[u]) := by
        unfold AIn at ha
        rw [hu] at ha
        cases td with
        | bool => obtain ⟨b, rfl⟩ := ha; exact ⟨_, rfl, fun u h _ => by cases h; rfl⟩
        | int k => obtain ⟨b, rfl, _⟩ := ha; exact ⟨_, rfl, fun u h _ => by cases h; rfl⟩
        | string => obtain ⟨b, rfl, _⟩ := ha; exact ⟨_, rfl, fun u h _ => by cases h; rfl⟩
        | slice e =>
          rcases ha with rfl | ⟨a, rfl⟩ | ⟨g, parts, rfl, _⟩
          · exact ⟨_, rfl, fun u h _ => by cases h <;> rfl⟩
          · exact ⟨_, rfl, fun u h _ => by cases h <;> rfl⟩
          · refine ⟨_, rfl, fun u h _ => ?_⟩
            generalize parts.length = n at h
            cases h <;> rfl
        | struct fs => exact absurd rfl (n1 fs)
        | array n e => exact absurd rfl (n2 n e)
        | _ => exact ha.elim
      obtain ⟨v, rfl, hcell⟩ := hone
      have hnagg : ∀ cs, v' ≠ .agg cs := by
        rintro cs rfl
        unfold Value.okWide at hok
        rw [hu] at hok
        cases td <;> first | exact absurd rfl (n1 _) | exact absurd rfl (n2 _ _) | (simp only [Cell.okWide] at hok; first | cases hok | simp_all [Cell.ok])
      have hl1 : v'.cells.toList.length = 1 := by rw [← hv.1]; rfl
      have hc1 : v'.cells = #[v'] := by cases v' <;> first | rfl | exact absurd rfl (hnagg _)
      refine ⟨φ', H', v, o, ?_, ?_⟩
      · refine hv.2 0 v v' rfl ?_
        rw [hc1]; rfl
      · unfold AVal
        rw [hu]
        cases td <;> first | exact absurd rfl (n1 _) | exact absurd rfl (n2 _ _) | exact ⟨m, ha⟩
    cases td with
    | struct fs =>
      unfold Value.okWide at hok
      rw [hu] at hok
      obtain ⟨cs, rfl, _⟩ := hok
      exact ⟨φ', H', _, o, agg cs rfl, by unfold AVal; rw [hu]; exact ⟨acs, m, rfl, ha⟩⟩
    | array n e =>
      unfold Value.okWide at hok
      rw [hu] at hok
      obtain ⟨cs, rfl, _⟩ := hok
      exact ⟨φ', H', _, o, agg cs rfl, by unfold AVal; rw [hu]; exact ⟨acs, m, rfl, ha⟩⟩
    | _ => exact leaf (fun _ => by simp) (fun _ _ => by simp)

/-- All arguments are opened. -/
theorem open_args (hl : laidOutB P = true) {base : Nat} {spare : Nat → Bool} {held : Bool} : ∀ (ts : List TypeId) (vs : List Value) (ds : List (DataW Hh)) (ps : List MemPlace), DataW.TrodAll enc P W 0 spare held ts vs ds ps → (∀ (j : Nat) t v, ts[j]? = some t → vs[j]? = some v → Value.okWide P W .any base t v) → ts.all (dataT P 8) = true →
    ∀ φ H, Sim φ H W → AllRo H → ∃ (φ' : Phi) (H' : AH) (as : List Value), Opened W φ H φ' H' ∧ VRL φ' as vs ∧ as.length = ts.length ∧ ds.length = ts.length ∧ ∀ (j : Nat) t v, ts[j]? = some t → as[j]? = some v → AVal P H' t v
  | [], [], [], ps, _, _, _, φ, H, hS, hR => ⟨φ, H, [], .refl hS hR, .nil, rfl, rfl, fun j t v h => by simp at h⟩
  | t :: ts, v :: vs, d :: ds, ps, h, hok, hd, φ, H, hS, hR => by
    obtain ⟨p, q, h1, h2, rfl⟩ := h
    rw [List.all_cons, Bool.and_eq_true] at hd
    obtain ⟨φ1, H1, a, o1, v1, a1⟩ := open_arg hl (hok 0 t v rfl rfl) hd.1 h1 hS hR
    obtain ⟨φ2, H2, as, o2, v2, hl2, hl3, a2⟩ := open_args hl ts vs ds q h2 (fun j t v ht hv => hok (j + 1) t v (by simpa using ht) (by simpa using hv)) hd.2 φ1 H1 o1.sim o1.ro
    refine ⟨φ2, H2, a :: as, o1.trans o2, (v1.mono o2.phi |> fun x => v2.cons x), by simp [hl2], by simp [hl3], fun j t' v' ht hv => ?_⟩
    cases j with
    | zero => simp at ht hv; subst ht; subst hv; exact a1.ext o2.ext
    | succ j => exact a2 j t' v' (by simpa using ht) (by simpa using hv)
  | [], [], _ :: _, _, h, _, _, _, _, _, _ => h.elim
  | [], _ :: _, _, _, h, _, _, _, _, _, _ => h.elim
  | _ :: _, [], _, _, h, _, _, _, _, _, _ => h.elim
  | _ :: _, _ :: _, [], _, h, _, _, _, _, _, _ => h.elim

theorem trodAll_below (hl : laidOutB P = true) {W' : World} (hb : Below W.heap.size W W') : ∀ (ts : List TypeId) (vs : List Value) (ds : List (DataW Hh)) (ps : List MemPlace), DataW.TrodAll enc P W 0 (fun _ => true) true ts vs ds ps → (∀ t ∈ ts, P.readableRec t = true ∧ t < P.types.size) →
    DataW.TrodAll enc P W' 0 (fun b => decide (b < W.heap.size)) true ts vs ds ps
  | [], [], [], ps, h, _ => h
  | t :: ts, v :: vs, d :: ds, ps, h, hr => by
    obtain ⟨p, q, h1, h2, rfl⟩ := h
    refine ⟨p, q, Below.trod hl (hr t (by simp)).1 (hr t (by simp)).2 h1 hb ?_, trodAll_below hl hb ts vs ds q h2 (fun t ht => hr t (by simp [ht])), rfl⟩
    obtain ⟨m, hm⟩ := h1
    exact DataW.trod_lt m _ _ _ hm
  | [], [], _ :: _, _, h, _ => h.elim
  | [], _ :: _, _, _, h, _ => h.elim
  | _ :: _, [], _, _, h, _ => h.elim
  | _ :: _, _ :: _, [], _, h, _ => h.elim
end

/-- A law's call comes to 'true' over abstract memory: then it does from every state that can be read. -/
def ALaw (P : Program) (f : FuncId) (ts : List TypeId) : Prop :=
  ∀ (H : AH) (as : List Value), AllRo H → as.length = ts.length → (∀ (j : Nat) t v, ts[j]? = some t → as[j]? = some v → AVal P H t v) → ACalls P f as.toArray H fun v _ => v = .bool true

theorem law_contract {P : Program} (hl : laidOutB P = true) {f : FuncId} {fn : Func} {s : ChangeSpec} {rt : TypeId} {H : Type} {enc : TypeId × Value → H} (law : ALaw P f fn.params.toList)
    (hvars : s.vars = []) (hspec : ∀ ds : List (DataW H), ds.length = fn.params.size → s.fn H ds = { results := [.lit (.bool true)], args := ds }) (hdata : fn.params.toList.all (dataT P 8) = true)
    (hread : ∀ t ∈ fn.params.toList, P.readableRec t = true ∧ t < P.types.size) (hres : fn.resultTypes = #[rt]) (hrt : P.underlying rt = some .bool)
    (W : World) (base : Nat) (args : Array Value) (ds gs : List (DataW H)) (before : List MemPlace)
    (hval : ∀ (j : Nat) t v, fn.params[j]? = some t → args[j]? = some v → Value.okWide P W .any base t v)
    (hW : DataW.Whole enc P fn.params.toList s.vars false W args.toList ds gs before) :
    Calls P f args W fun e W' => ∃ v, e = .returned v ∧ s.post enc P fn false true false false W args v W' := by
  have hW' := hW
  obtain ⟨p, q, hA, hV, rfl, hfz, hnd⟩ := hW
  rw [hvars] at hV
  obtain ⟨rfl, rfl⟩ := trodVars_none hV
  obtain ⟨φ, Hh, as, o, hv, hal, hdl, ha⟩ := open_args hl (base := base) fn.params.toList args.toList ds p hA (fun j t v ht hv => hval j t v (by simpa using ht) (by simpa using hv)) hdata (fun _ => none) [] ⟨fun g bi h => (by cases h), fun g cs bi h => (by simp at h), fun g cs bi h => (by simp at h), fun g cs bi h => (by simp at h), fun g mm b p h => (by simp at h), fun g g' cs bi bi' h => (by simp at h)⟩ (fun g cs h => by simp at h)
  have hcall := law Hh as o.ro hal ha φ W args o.sim (by have := hv.arr; simpa using this)
  refine hcall.mono ?_
  rintro e W' ⟨v, v', H', φ', rfl, h1, rfl, h3, h4⟩
  have hv' : v' = .bool true := h1.scalar rfl
  subst hv'
  have bel : Below W.heap.size W W' := ⟨h4.os, h4.tape, h4.output, h4.size, fun k hk => h4.fr k hk fun g c bi hg hm => absurd hm (o.ro g c hg).1⟩
  have hsp := hspec ds (by simpa using hdl)
  refine ⟨_, rfl, ds, [], p ++ [], [], p, [], hW', ?_, ?_, ?_, bel.frame _, fun h => by cases h⟩
  · rw [List.append_nil, hsp, hres]
    exact trodAll_mk1 (shut_bool hrt _)
  · rw [List.append_nil, hsp]
    exact trodAll_below hl bel _ _ _ _ hA hread
  · rw [List.append_nil, hsp, hvars]
    rfl
/-! ### laws that read package-level variables -/
structure Opened0 (φ : Phi) (H : AH) (φ' : Phi) (H' : AH) (W : World) : Prop where
  sim : Sim φ' H' W
  ro : ∀ (g : Nat) c, H'[g]? = some c → ¬ c.mine
  ext : ∀ (g : Nat) b, H[g]? = some b → H'[g]? = some b
  phi : ∀ g bi, φ g = some bi → φ' g = some bi
/-- A block of the machine that the walk may not write to. -/
abbrev FixB (b : Nat) (o : Obj) : ABlk := .oddm false b fun _ x => x = o
def NoMine (H : AH) : Prop := ∀ (g : Nat) c, H[g]? = some c → ¬ c.mine
theorem AllRo.noMine {H : AH} (h : AllRo H) : NoMine H := fun g c hg => (h g c hg).1
theorem Sim.addfix {φ : Phi} {H : AH} {W : World} (h : Sim φ H W) (hro : NoMine H) {b : Nat} {o : Obj} (hb : W.heap[b]? = some o) :
    Opened0 φ H (φ.upd H.length ⟨b, 0, 0, true⟩) (H ++ [FixB b o]) W := by
  have hn := h.fresh_none (Nat.le_refl H.length)
  have hle := Phi.upd_le (bi := ⟨b, 0, 0, true⟩) hn
  have hblt : b < W.heap.size := (Array.getElem?_eq_some_iff.1 hb).1
  have old : ∀ x c, (H ++ [FixB b o])[x]? = some c → (x < H.length ∧ H[x]? = some c) ∨ (x = H.length ∧ c = FixB b o) := fun x c hx => by
    by_cases hl : x < H.length
    · rw [get_push_lt hl] at hx; exact .inl ⟨hl, hx⟩
    · have : x = H.length := by have := own_lt hx; simp at this; omega
      subst this
      rw [get_push_eq] at hx; cases hx
      exact .inr ⟨rfl, rfl⟩
  have hro' : NoMine (H ++ [FixB b o]) := fun x c hx => by
    rcases old x c hx with ⟨_, h1⟩ | ⟨_, rfl⟩
    · exact hro x c h1
    · intro k; cases k
  refine ⟨⟨fun x bi hx => ?_, fun x c bi h1 _ => absurd ABlk.mine_own (hro' x _ h1), fun x c bi h1 hx => ?_, fun x c bi h1 _ => absurd ABlk.mine_map (hro' x _ h1), fun x mm b' p h1 => ?_, fun x y c bi bi' h1 hm => absurd hm (hro' x c h1)⟩, hro', fun g b hg => by rw [get_push_lt (own_lt hg)]; exact hg, hle⟩
  · by_cases e : x = H.length
    · subst e; rw [Phi.upd_self] at hx; cases hx; exact ⟨by simp, hblt⟩
    · rw [Phi.upd_ne e] at hx
      have := h.dom x bi hx
      exact ⟨by simp; omega, this.2⟩
  · rcases old x _ h1 with ⟨hl, h1⟩ | ⟨_, e⟩
    · rw [Phi.upd_ne (by omega)] at hx
      obtain ⟨D, ty', fr', d1, d2⟩ := h.ro x c bi h1 hx
      refine ⟨D, ty', fr', d1, fun i v hv => ?_⟩
      obtain ⟨v', k1, k2⟩ := d2 i v hv
      exact ⟨v', k1, k2.mono hle⟩
    · cases e
  · rcases old x _ h1 with ⟨hl, h1⟩ | ⟨e', e⟩
    · obtain ⟨bi, o', d1, d2, d3, d4, d5⟩ := h.oddm x mm b' p h1
      exact ⟨bi, o', by rw [Phi.upd_ne (by omega)]; exact d1, d2, d3, d4, fun φ' hφ' => d5 φ' fun y b' hy => hφ' y b' (hle y b' hy)⟩
    · cases e
      subst e'
      exact ⟨_, o, Phi.upd_self, rfl, hb, (fun k => by cases k), fun _ _ => rfl⟩
/-- Some blocks of the machine are spoken of. -/
def FixL (H : AH) : List Nat → List Obj → Prop
  | [], [] => True
  | b :: bs, o :: os => (∃ g : Nat, H[g]? = some (FixB b o)) ∧ FixL H bs os
  | _, _ => False
theorem FixL.ext {H H' : AH} (h : ∀ (g : Nat) b, H[g]? = some b → H'[g]? = some b) : ∀ {bs : List Nat} {os : List Obj}, FixL H bs os → FixL H' bs os
  | [], [], _ => trivial
  | _ :: _, _ :: _, ⟨⟨g, hg⟩, k⟩ => ⟨⟨g, h g _ hg⟩, FixL.ext h k⟩
def HeapL (W : World) : List Nat → List Obj → Prop
  | [], [] => True
  | b :: bs, o :: os => W.heap[b]? = some o ∧ HeapL W bs os
  | _, _ => False
theorem add_fixes {W : World} : ∀ (bs : List Nat) (os : List Obj) (φ : Phi) (H : AH), Sim φ H W → NoMine H → HeapL W bs os → ∃ φ' H', Opened0 φ H φ' H' W ∧ FixL H' bs os
  | [], [], φ, H, h, k, _ => ⟨φ, H, ⟨h, k, fun _ _ h => h, fun _ _ h => h⟩, trivial⟩
  | b :: bs, o :: os, φ, H, h, k, ⟨h1, h2⟩ => by
    have a := h.addfix k h1
    obtain ⟨φ', H', a2, f2⟩ := add_fixes bs os _ _ a.sim a.ro h2
    exact ⟨φ', H', ⟨a2.sim, a2.ro, fun g c hg => a2.ext g c (a.ext g c hg), fun g c hg => a2.phi g c (a.phi g c hg)⟩, ⟨⟨H.length, a2.ext _ _ get_push_eq⟩, f2⟩⟩
  | [], _ :: _, _, _, _, _, h => h.elim
  | _ :: _, [], _, _, _, _, h => h.elim
def ALawG (P : Program) (bs : List Nat) (ok : List Obj → Prop) (f : FuncId) (ts : List TypeId) : Prop :=
  ∀ (H : AH) (as : List Value) (os : List Obj), ok os → FixL H bs os → as.length = ts.length → (∀ (j : Nat) t v, ts[j]? = some t → as[j]? = some v → AVal P H t v) → ACalls P f as.toArray H fun v _ => v = .bool true
theorem law_contractG {P : Program} (hl : laidOutB P = true) {f : FuncId} {fn : Func} {s : ChangeSpec} {rt : TypeId} {H : Type} {enc : TypeId × Value → H} {bs : List Nat} {ok : List Obj → Prop} (law : ALawG P bs ok f fn.params.toList)
    (hvars : s.vars = []) (hspec : ∀ ds : List (DataW H), ds.length = fn.params.size → s.fn H ds = { results := [.lit (.bool true)], args := ds }) (hdata : fn.params.toList.all (dataT P 8) = true)
    (hread : ∀ t ∈ fn.params.toList, P.readableRec t = true ∧ t < P.types.size) (hres : fn.resultTypes = #[rt]) (hrt : P.underlying rt = some .bool)
    (W : World) (hfix : ∃ os, ok os ∧ HeapL W bs os) (base : Nat) (args : Array Value) (ds gs : List (DataW H)) (before : List MemPlace)
    (hval : ∀ (j : Nat) t v, fn.params[j]? = some t → args[j]? = some v → Value.okWide P W .any base t v)
    (hW : DataW.Whole enc P fn.params.toList s.vars false W args.toList ds gs before) :
    Calls P f args W fun e W' => ∃ v, e = .returned v ∧ s.post enc P fn false true false false W args v W' := by
  have hW' := hW
  obtain ⟨p, q, hA, hV, rfl, hfz, hnd⟩ := hW
  rw [hvars] at hV
  obtain ⟨rfl, rfl⟩ := trodVars_none hV
  obtain ⟨φ0, Hh0, as, o0, hv, hal, hdl, ha⟩ := open_args hl (base := base) fn.params.toList args.toList ds p hA (fun j t v ht hv => hval j t v (by simpa using ht) (by simpa using hv)) hdata (fun _ => none) [] ⟨fun g bi h => (by cases h), fun g cs bi h => (by simp at h), fun g cs bi h => (by simp at h), fun g cs bi h => (by simp at h), fun g mm b p h => (by simp at h), fun g g' cs bi bi' h => (by simp at h)⟩ (fun g cs h => by simp at h)
  obtain ⟨os, hok, hos⟩ := hfix
  obtain ⟨φ, Hh, o, hfl⟩ := add_fixes bs os φ0 Hh0 o0.sim o0.ro.noMine hos
  have hcall := law Hh as os hok hfl hal (fun j t v h1 h2 => (ha j t v h1 h2).ext o.ext) φ W args o.sim (by
    have := hv.arr
    have e : VRA φ0 as.toArray args := by simpa using this
    exact ⟨e.1, fun i h1 h2 => (e.2 i h1 h2).mono o.phi⟩)
  refine hcall.mono ?_
  rintro e W' ⟨v, v', H', φ', rfl, h1, rfl, h3, h4⟩
  have hv' : v' = .bool true := h1.scalar rfl
  subst hv'
  have bel : Below W.heap.size W W' := ⟨h4.os, h4.tape, h4.output, h4.size, fun k hk => h4.fr k hk fun g c bi hg hm => absurd hm (o.ro g c hg)⟩
  have hsp := hspec ds (by simpa using hdl)
  refine ⟨_, rfl, ds, [], p ++ [], [], p, [], hW', ?_, ?_, ?_, bel.frame _, fun h => by cases h⟩
  · rw [List.append_nil, hsp, hres]
    exact trodAll_mk1 (shut_bool hrt _)
  · rw [List.append_nil, hsp]
    exact trodAll_below hl bel _ _ _ _ hA hread
  · rw [List.append_nil, hsp, hvars]
    rfl
end Go.Proofs.YtldfnfpinemedaaDoor
