/- Slices that are owned whole: what is put behind them, what is written into them. -/
import Derived.Test.YtelpdppdhimfoaaC5
namespace Go.Proofs.Ytelpdppdhimfoaa
open Go Go.RowKit
set_option linter.unusedSimpArgs false
set_option linter.unusedVariables false
def OS (b : Nat) (H : AH) (v : Value) (vs : List Value) : Prop := (v = .slice none 0 0 ∧ vs = []) ∨ ∃ g, v = .slice (some ⟨g, 0, none⟩) vs.length 1 ∧ H[g]? = some (.own vs) ∧ b ≤ g
theorem OS.nil (b : Nat) (H : AH) : OS b H (.slice none 0 0) [] := .inl ⟨rfl, rfl⟩
theorem OS.mono {b : Nat} {H H' : AH} {v : Value} {vs : List Value} (h : OS b H v vs) (e : Ext H H') : OS b H' v vs := by
  rcases h with h | ⟨g, h1, h2, h3⟩
  · exact .inl h
  · exact .inr ⟨g, h1, e _ _ h2, h3⟩
theorem OS.low {b c : Nat} {H : AH} {v : Value} {vs : List Value} (h : OS b H v vs) (hc : c ≤ b) : OS c H v vs := by
  rcases h with h | ⟨g, h1, h2, h3⟩
  · exact .inl h
  · exact .inr ⟨g, h1, h2, by omega⟩
theorem OS.sl {b : Nat} {H : AH} {v : Value} {vs : List Value} (h : OS b H v vs) : SL H v vs := by
  rcases h with h | ⟨g, h1, h2, h3⟩
  · exact .inl h
  · exact .inr ⟨g, 0, 1, h1, .inr ⟨vs, AH.cells_own h2, by omega, by rw [List.drop_zero]; exact List.take_of_length_le (by omega)⟩⟩
theorem OS.new {b n : Nat} {H : AH} {vs : List Value} (hb : b ≤ H.length) (hn : n = vs.length) : OS b (H ++ [.own vs]) (.slice (some ⟨H.length, 0, none⟩) n 1) vs :=
  .inr ⟨H.length, by rw [hn], gpush _ _, hb⟩
theorem OS.mk {b g n : Nat} {H : AH} {vs : List Value} (h : H[g]? = some (.own vs)) (hb : b ≤ g) (hn : n = vs.length) : OS b H (.slice (some ⟨g, 0, none⟩) n 1) vs :=
  .inr ⟨g, by rw [hn], h, hb⟩
theorem OS.at {b : Nat} {H : AH} {v : Value} {vs : List Value} (h : OS b H v vs) (hn : 0 < vs.length) : ∃ g, v = .slice (some ⟨g, 0, none⟩) vs.length 1 ∧ H[g]? = some (.own vs) ∧ b ≤ g ∧ g < H.length := by
  rcases h with ⟨_, rfl⟩ | ⟨g, h1, h2, h3⟩
  · simp at hn
  · exact ⟨g, h1, h2, h3, got_lt h2⟩
theorem OS.shape {b : Nat} {H : AH} {v : Value} {vs : List Value} (h : OS b H v vs) : v = .slice none 0 0 ∨ ∃ g o n e, v = .slice (some ⟨g, o, none⟩) n e := by
  rcases h with ⟨h, _⟩ | ⟨g, h1, _⟩
  · exact .inl h
  · exact .inr ⟨_, _, _, _, h1⟩
/-- What stays when blocks from b on may be written. -/
def Keeps (b : Nat) (H H' : AH) : Prop := H.length ≤ H'.length ∧ ∀ p, p < b → H'[p]? = H[p]?
theorem Keeps.refl (b : Nat) (H : AH) : Keeps b H H := ⟨Nat.le_refl _, fun _ _ => rfl⟩
theorem Keeps.trans {b : Nat} {H H1 H2 : AH} (h : Keeps b H H1) (k : Keeps b H1 H2) : Keeps b H H2 := ⟨Nat.le_trans h.1 k.1, fun p hp => (k.2 p hp).trans (h.2 p hp)⟩
theorem Keeps.ext {b : Nat} {E H H' : AH} (h : Keeps b H H') (hb : E.length ≤ b) (e : Ext E H) : Ext E H' := fun g x hg => by
  rw [h.2 g (by have := got_lt hg; omega)]; exact e g x hg
theorem Keeps.of_ext {b : Nat} {H H' : AH} (e : Ext H H') (hb : b ≤ H.length) : Keeps b H H' := ⟨e.length, fun p hp => by
  have : H[p]? = some H[p] := List.getElem?_eq_getElem (by omega)
  rw [this]; exact e _ _ this⟩
theorem Keeps.low {b c : Nat} {H H' : AH} (h : Keeps b H H') (hc : c ≤ b) : Keeps c H H' := ⟨h.1, fun p hp => h.2 p (by omega)⟩
theorem Keeps.push {b : Nat} {H H' : AH} (h : Keeps b H H') (hb : b ≤ H.length) (E : AH) : Keeps b H (H' ++ E) := ⟨by rw [List.length_append]; have := h.1; omega, fun p hp => by
  rw [List.getElem?_append_left (by have := h.1; omega)]; exact h.2 p hp⟩
theorem Keeps.set {b : Nat} {H H' : AH} (h : Keeps b H H') {g : Nat} (hg : b ≤ g) (x : ABlk) : Keeps b H (H'.set g x) := ⟨by rw [List.length_set]; exact h.1, fun p hp => by
  rw [List.getElem?_set_ne (by omega)]; exact h.2 p hp⟩
theorem Keeps.get {b p : Nat} {H H' : AH} {x : ABlk} (h : Keeps b H H') (hp : p < b) (hx : H[p]? = some x) : H'[p]? = some x := by rw [h.2 p hp]; exact hx
theorem OS.set {b g : Nat} {H : AH} {vs ws : List Value} (hg : H[g]? = some (.own vs)) (hb : b ≤ g) (hl : ws.length = vs.length) : OS b (H.set g (.own ws)) (.slice (some ⟨g, 0, none⟩) vs.length 1) ws :=
  .inr ⟨g, by rw [hl], by rw [List.getElem?_set_self (got_lt hg)], hb⟩
theorem OS.setn {b g n : Nat} {H : AH} {vs ws : List Value} (hg : H[g]? = some (.own vs)) (hb : b ≤ g) (hl : n = ws.length) : OS b (H.set g (.own ws)) (.slice (some ⟨g, 0, none⟩) n 1) ws :=
  .inr ⟨g, by rw [hl], by rw [List.getElem?_set_self (got_lt hg)], hb⟩
theorem OS.appX {P : Program} {H : AH} {t tx b : Nat} {bytes : Nat} {s x : Value} {xs ys : List Value} (he : elemT P t = some (1, bytes)) (hs : OS b H s xs) (hx : asrcZ P H t tx x 1 bytes = some (ys, ys.length)) (hb : (xs.length + ys.length) * bytes ≤ 140737488355328) (hp : 0 < bytes) (hbl : b ≤ H.length) :
    ∃ s' H', aappend P H t tx s x = some (s', H') ∧ OS b H' s' (xs ++ ys) ∧ Keeps b H H' := by
  by_cases h0 : ys = []
  · subst h0
    refine ⟨s, H, app_noneX he hx hs.shape, by rw [List.append_nil]; exact hs, Keeps.refl _ _⟩
  have hl : 0 < ys.length := List.length_pos_iff.2 h0
  rcases hs with ⟨rfl, rfl⟩ | ⟨g, rfl, hg, hbg⟩
  · refine ⟨_, _, app_nilX he hx hl (by simpa using hb) hp, OS.new hbl rfl, (Keeps.refl _ _).push hbl _⟩
  · refine ⟨_, _, app_ownX he hx hl hg rfl hb hp, .inr ⟨H.length, by rw [List.length_append], ?_, hbl⟩, ((Keeps.refl _ _).set hbg _).push hbl _⟩
    have : H.length = (H.set g ABlk.dead).length := by rw [List.length_set]
    rw [this]; exact gpush _ _
theorem OS.app {P : Program} {H : AH} {t tx b : Nat} {bytes : Nat} {s x : Value} {xs ys : List Value} (he : elemT P t = some (1, bytes)) (ht : sliceT P tx = true) (hs : OS b H s xs) (hx : SL H x ys) (hv : ys.all cellv = true) (hb : (xs.length + ys.length) * bytes ≤ 140737488355328) (hp : 0 < bytes) (hbl : b ≤ H.length) :
    ∃ s' H', aappend P H t tx s x = some (s', H') ∧ OS b H' s' (xs ++ ys) ∧ Keeps b H H' :=
  OS.appX he hs (srcX ht hx hv) hb hp hbl
/-- As OS.app; and all blocks but the slice's own stay. -/
theorem OS.appK {P : Program} {H : AH} {t tx b : Nat} {bytes : Nat} {s x : Value} {xs ys : List Value} (he : elemT P t = some (1, bytes)) (ht : sliceT P tx = true) (hs : OS b H s xs) (hx : SL H x ys) (hv : ys.all cellv = true) (hb : (xs.length + ys.length) * bytes ≤ 140737488355328) (hp : 0 < bytes) (hbl : b ≤ H.length) :
    ∃ s' H', aappend P H t tx s x = some (s', H') ∧ OS b H' s' (xs ++ ys) ∧ Keeps b H H' ∧ ∀ p y, (∀ o n e, s ≠ .slice (some ⟨p, o, none⟩) n e) → H[p]? = some y → H'[p]? = some y := by
  by_cases h0 : ys = []
  · subst h0
    refine ⟨s, H, app_none he ht hx hs.shape, by rw [List.append_nil]; exact hs, Keeps.refl _ _, fun _ _ _ h => h⟩
  have hl : 0 < ys.length := List.length_pos_iff.2 h0
  rcases hs with ⟨rfl, rfl⟩ | ⟨g, rfl, hg, hbg⟩
  · refine ⟨_, _, app_nil he ht hx hv hl (by simpa using hb) hp, OS.new hbl rfl, (Keeps.refl _ _).push hbl _, fun p y _ h => Ext.push _ _ _ _ h⟩
  · refine ⟨_, _, app_own he ht hx hv hl hg rfl hb hp, .inr ⟨H.length, by rw [List.length_append], ?_, hbl⟩, ((Keeps.refl _ _).set hbg _).push hbl _, fun p y hp' h => Ext.push _ _ _ _ ?_⟩
    · have : H.length = (H.set g ABlk.dead).length := by rw [List.length_set]
      rw [this]; exact gpush _ _
    · rw [List.getElem?_set_ne (fun e => hp' 0 xs.length 1 (by rw [e]))]; exact h
/-- One more element. -/
theorem OS.app1 {P : Program} {H : AH} {t tx b : Nat} {bytes : Nat} {s : Value} {xs : List Value} {c : Value} (he : elemT P t = some (1, bytes)) (ht : sliceT P tx = true) (hs : OS b H s xs) (hv : cellv c = true) (hb : (xs.length + 1) * bytes ≤ 140737488355328) (hp : 0 < bytes) (hbl : b ≤ H.length) :
    ∃ s' H', aappend P (H ++ [.own [c]]) t tx s (.slice (some ⟨H.length, 0, none⟩) 1 1) = some (s', H') ∧ OS b H' s' (xs ++ [c]) ∧ Keeps b H H' := by
  have h1 : SL (H ++ [.own [c]]) (.slice (some ⟨H.length, 0, none⟩) 1 1) [c] := (OS.new (b := b) hbl (n := 1) (vs := [c]) rfl).sl
  obtain ⟨s', H', e1, e2, e3⟩ := OS.app he ht (hs.mono (Ext.push H [.own [c]])) h1 (by simp [hv]) (by simpa using hb) hp (by rw [List.length_append]; omega)
  exact ⟨s', H', e1, e2, ((Keeps.refl b H).push hbl _).trans e3⟩
theorem SL.sub {H : AH} {g o n e : Nat} {vs : List Value} (h : SL H (.slice (some ⟨g, o, none⟩) n e) vs) (k m e' : Nat) (hk : k + m ≤ vs.length) : SL H (.slice (some ⟨g, o + k, none⟩) m e') ((vs.drop k).take m) := by
  have hl : ((vs.drop k).take m).length = m := by rw [List.length_take, List.length_drop]; omega
  refine .inr ⟨g, o + k, e', by rw [hl], ?_⟩
  by_cases hm : m = 0
  · left; exact List.eq_nil_of_length_eq_zero (by omega)
  rcases h with ⟨h, _⟩ | ⟨g', o', e'', h, h2⟩
  · cases h
  · cases h
    rcases h2 with h2 | ⟨cs, hc, h1, h2⟩
    · subst h2; simp at hk; omega
    · right
      refine ⟨cs, hc, by omega, ?_⟩
      rw [hl, ← h2, List.drop_take, List.take_take, List.drop_drop, Nat.min_eq_left (by omega)]
theorem SL.subm {α : Type} {f : α → Value} {H : AH} {g o n e : Nat} {xs : List α} (h : SL H (.slice (some ⟨g, o, none⟩) n e) (xs.map f)) (k m e' : Nat) (hk : k + m ≤ xs.length) : SL H (.slice (some ⟨g, o + k, none⟩) m e') (((xs.drop k).take m).map f) := by
  rw [List.map_take, List.map_drop]
  exact h.sub k m e' (by rw [List.length_map]; exact hk)
theorem fillL_succ {α : Type} (f : Nat → α) (z : List α) (i : Nat) : fillL f z i.succ = fillL f z (i + 1) := rfl
theorem fillL_getD {α : Type} (f : Nat → α) (z : List α) (d : α) (i : Nat) (hi : i < z.length) : (fillL f z i).getD i d = z.getD i d := by
  rw [List.getD_eq_getElem?_getD, List.getD_eq_getElem?_getD, fillL_get f z i (by omega), if_neg (by omega)]
theorem SL.setn {H : AH} {v : Value} {vs : List Value} {p : Nat} (h : SL H v vs) (b : ABlk) (hp : ∀ o n e, v ≠ .slice (some ⟨p, o, none⟩) n e) : SL (H.set p b) v vs := by
  rcases h with h | ⟨g, o, e, rfl, h⟩
  · exact .inl h
  · refine .inr ⟨g, o, e, rfl, ?_⟩
    rcases h with h | ⟨cs, hc, h1, h2⟩
    · exact .inl h
    · refine .inr ⟨cs, ?_, h1, h2⟩
      rw [csetn _ _ _ _ (fun e' => hp o vs.length e (by rw [e']))]; exact hc
def zb (n : Nat) : List UInt8 := List.replicate n 0
theorem zb_cells (n : Nat) : List.replicate n (Value.int .u8 0) = (zb n).map U8 := by rw [zb, List.map_replicate]; rfl
theorem zb_length (n : Nat) : (zb n).length = n := List.length_replicate
theorem SL.isSlice {H : AH} {v : Value} {vs : List Value} (h : SL H v vs) : ∃ p n e, v = .slice p n e := by
  rcases h with ⟨rfl, _⟩ | ⟨g, o, e, rfl, _⟩
  · exact ⟨_, _, _, rfl⟩
  · exact ⟨_, _, _, rfl⟩
end Go.Proofs.Ytelpdppdhimfoaa
