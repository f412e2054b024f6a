/- The state of the statement AnchorRegisters, plainly. -/
import Derived.Test.YtfhbieimffjjkaaDoorAr1
import Derived.Test.YtfhbieimffjjkaaDoorSst
namespace Go.Proofs.YtfhbieimffjjkaaDoor
open Go Go.RowKit
set_option linter.unusedSimpArgs false
set_option linter.unusedVariables false
set_option maxRecDepth 4000
/-- Two slices that are not in one block. -/
def NE (v w : Value) : Prop := ∀ q o n e o' n' e', v = .slice (some ⟨q, o, none⟩) n e → w ≠ .slice (some ⟨q, o', none⟩) n' e'
theorem NE.of {b c : Nat} {H H' : AH} {v w : Value} {vs ws : List Value} (h : OS b H v vs) (k : OS c H' w ws) (hl : H.length ≤ c) : NE v w := fun q o n e o' n' e' h1 h2 => by
  have := (h.lt _ _ _ _ h1).1
  have := (k.lt _ _ _ _ h2).2
  omega
theorem OS.but2 {b p0 : Nat} {s : Value} {H H' : AH} {v : Value} {vs : List Value} (h : OS b H v vs) (k : But2 p0 s H H') (hp : p0 < b) (hn : NE s v) : OS b H' v vs := by
  rcases h with h | ⟨g, h1, h2, h3⟩
  · exact .inl h
  · exact .inr ⟨g, h1, k _ _ (by omega) (fun o n e hs => hn _ _ _ _ _ _ _ hs h1) h2, h3⟩
def rawOf (th : Bool) (last : An) : List UInt8 := if th then last.bytes else []
structure RJ (E : AH) (b gr gz gl : Nat) (H : AH) (eps : List UInt32) (last : An) (th : Bool) (rv ev zv zev wv : Value) : Prop where
  x : Ext E H
  hr : H[gr]? = some (.own [rv, ev])
  hz : H[gz]? = some (.own [zv, zev])
  hl : H[gl]? = some (.own (ac last))
  o1 : OS b H rv ((rawOf th last).map U8)
  o2 : OS b H ev (eps.map U32)
  o3 : OS b H zv ((rawOf th last).map U8)
  o4 : OS b H zev (eps.map U32)
  o5 : OS b H wv (eps.map U32)
  n1 : NE ev zv
  n2 : NE ev zev
  n3 : NE ev wv
  n4 : NE zev wv
  w : last.wf
  st : th = true ∧ last.may ∨ th = false ∧ last = An.zero
theorem RJ.mono {E : AH} {b gr gz gl : Nat} {H H' : AH} {eps : List UInt32} {last : An} {th : Bool} {rv ev zv zev wv : Value} (J : RJ E b gr gz gl H eps last th rv ev zv zev wv) (e : Ext H H') : RJ E b gr gz gl H' eps last th rv ev zv zev wv :=
  ⟨J.x.trans e, e _ _ J.hr, e _ _ J.hz, e _ _ J.hl, J.o1.mono e, J.o2.mono e, J.o3.mono e, J.o4.mono e, J.o5.mono e, J.n1, J.n2, J.n3, J.n4, J.w, J.st⟩
theorem rawOf_length {th : Bool} {last : An} (h : last.wf) : (rawOf th last).length ≤ 1000 := by
  unfold rawOf; split
  · rw [abytes_length h]; decide
  · exact Nat.zero_le _
theorem get_state {th : Bool} {last : An} (h : last.wf) (st : th = true ∧ last.may ∨ th = false ∧ last = An.zero) : getA (rawOf th last) = last ∧ getE (rawOf th last) = if th then 0 else 6 := by
  rcases st with ⟨rfl, hm⟩ | ⟨rfl, rfl⟩
  · have h0 : last.bytes ≠ [] := fun e => by have := abytes_length h; rw [e] at this; cases this
    have hok := okA_bytes h hm
    simp only [rawOf, if_true, getA, getE, if_neg h0, parA, parE, if_pos hok, of_bytes h hm, and_self]
  · exact ⟨rfl, rfl⟩
end Go.Proofs.YtfhbieimffjjkaaDoor
