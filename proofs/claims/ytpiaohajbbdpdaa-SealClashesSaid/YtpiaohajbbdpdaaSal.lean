/- What each statement of seal asks besides: page, alive; references told QA. -/
import Derived.Test.YtpiaohajbbdpdaaSl3
import Derived.Test.YtpiaohajbbdpdaaCsm
import Derived.Test.YtpiaohajbbdpdaaIn
namespace Go.Proofs.Ytpiaohajbbdpdaa
open Go Go.RowKit
--hide
set_option linter.unusedSimpArgs false
set_option linter.unusedVariables false
set_option maxRecDepth 4000
theorem turn_turn (ks ns : List UInt8) (c : UInt32) (bs : List UInt8) : turnB ks ns c (turnB ks ns c bs) = bs := by
  apply List.ext_getElem?
  intro i
  by_cases h : i < bs.length
  · have h1 : i < (turnB ks ns c bs).length := by rw [turnB_length]; exact h
    rw [turnB, List.getElem?_map, List.getElem?_range h1, Option.map_some, xorAt]
    have e1 : (turnB ks ns c bs).getD i 0 = xorAt ks ns c bs i := by
      rw [List.getD_eq_getElem?_getD, turnB, List.getElem?_map, List.getElem?_range h]; rfl
    rw [e1, xorAt, UInt8.xor_assoc, UInt8.xor_self, UInt8.xor_zero, List.getD_eq_getElem?_getD, List.getElem?_eq_getElem h]; rfl
  · rw [List.getElem?_eq_none (by rw [turnB_length, turnB_length]; omega), List.getElem?_eq_none (by omega)]
theorem trn_trn (k : List UInt8) (e : UInt32) (bl : Int) (pg : List UInt8) : trn k e bl (trn k e bl pg) = pg := turn_turn _ _ _ _
theorem kin_u32 {d t : Nat} (e : UInt32) (h : Try.prog.underlying t = some (.int .u32)) : KIn Try.prog (d + 1) t [U32 e] := by
  refine kin_int (k := .u32) (n := (e.toNat : Int)) h ?_
  have h1 : IntKind.u32.min = 0 := by decide
  have h2 : IntKind.u32.max = 4294967295 := by decide
  have := e.toNat_lt
  simp only [Lit.wf, h1, h2, Bool.and_eq_true, decide_eq_true_eq]
  omega
theorem kin_r {T : Nat} {p : Int} {e : UInt32} {d : List UInt8} (hu : Try.prog.underlying T = Try.prog.underlying 38) (hc : Try.prog.cellsOf T = 34) (hd : d.length = 32) (h0 : -9223372036854775808 ≤ p) (h1 : p ≤ 9223372036854775807) : KIn Try.prog 8 T (rc p e d) := by
  have hu : Try.prog.underlying T = _ := hu.trans (show Try.prog.underlying 38 = some (.struct #[{ name := "Place", type := 3, offset := 0, embedded := false, tag := "", pkgPath := "", byteOffset := 0 }, { name := "Epoch", type := 23, offset := 1, embedded := false, tag := "", pkgPath := "", byteOffset := 8 }, { name := "Digest", type := 22, offset := 2, embedded := false, tag := "", pkgPath := "", byteOffset := 12 }]) by kernel_rfl)
  have c1 : Try.prog.cellsOf 3 = 1 := by kernel_rfl
  have c2 : Try.prog.cellsOf 23 = 1 := by kernel_rfl
  have c3 : Try.prog.cellsOf 22 = 32 := by kernel_rfl
  have d0 : ((rc p e d).drop 0).take 1 = [.int .i64 p] := rfl
  have d1 : ((rc p e d).drop 1).take 1 = [U32 e] := rfl
  have d2 := rc_d hd p e
  unfold KIn
  simp only [hu, hc, rc_length hd, true_and]
  refine ⟨by kernel_rfl, ?_, fun f hf => ?_⟩
  · simp only [List.map_cons, List.map_nil, c1, c2, c3, d0, d1, d2, List.flatten_cons, List.flatten_nil, List.append_nil]; rfl
  · simp only [List.mem_cons, List.not_mem_nil, or_false] at hf
    rcases hf with rfl | rfl | rfl
    · simp only [c1, d0]; exact kin_int (d := 6) (by kernel_rfl) (wfi _ h0 h1)
    · simp only [c2, d1]; exact kin_u32 (d := 6) e (by kernel_rfl)
    · simp only [c3, d2]; exact kin_bytes (d := 5) (n := 32) (e := 5) (by kernel_rfl) (by kernel_rfl) (by kernel_rfl) c3 _ hd
theorem aeqr {p : Int} {e : UInt32} {d : List UInt8} (hd : d.length = 32) (h0 : -9223372036854775808 ≤ p) (h1 : p ≤ 9223372036854775807) : aeqAgg Try.prog 38 (rc p e d).toArray (rc p e d).toArray = some true :=
  aeq_same (kin_r rfl (by kernel_rfl) hd h0 h1) (by kernel_rfl) (by kernel_rfl) (by kernel_rfl)
def pageB (b : List UInt8) : List UInt8 := b.take 256 ++ zb (256 - b.length)
theorem pageB_length (b : List UInt8) : (pageB b).length = 256 := by rw [pageB, List.length_append, List.length_take, zb_length]; omega
theorem drop_zb (n m : Nat) : (zb n).drop m = zb (n - m) := by simp [zb]
theorem ovr_front : ∀ (cs vs : List Value), 0 < vs.length → vs.length ≤ cs.length → ovr cs 0 vs = vs ++ cs.drop vs.length := by
  intro cs vs h0 h
  unfold ovr
  split
  · rename_i v
    cases cs with
    | nil => simp at h
    | cons c cs => rfl
  · split
    · rename_i h1
      rw [h1.2, List.drop_length, List.append_nil]
    · rw [List.take_zero, List.nil_append, Nat.zero_add]
theorem copy_own {P : Program} {H : AH} {t tx : TypeId} {bytes g n e : Nat} {v : Value} {vs cs : List Value} (he : elemT P t = some (1, bytes)) (ht : sliceT P tx = true) (h : SL H v vs) (hv : vs.all cellv = true) (hg : H[g]? = some (.own cs)) (hn : n = cs.length) (hl : vs.length ≤ cs.length) :
    ∃ H', acopy P H t tx (.slice (some ⟨g, 0, none⟩) n e) v = some (.int .i64 vs.length, H') ∧ H'[g]? = some (.own (vs ++ cs.drop vs.length)) ∧ (∀ p x, p ≠ g → H[p]? = some x → H'[p]? = some x) ∧ H'.length = H.length := by
  subst hn
  have hmin : min vs.length cs.length = vs.length := Nat.min_eq_left hl
  by_cases h0 : vs = []
  · subst h0
    refine ⟨H, ?_, by simpa using hg, fun _ _ _ h => h, rfl⟩
    unfold acopy
    simp only [he, asrc_sl ht h hv, List.length_nil, Nat.zero_min, if_true]
    rfl
  have hp : 0 < vs.length := List.length_pos_iff.2 h0
  refine ⟨H.set g (.own (vs ++ cs.drop vs.length)), ?_, gset _ _ _ (got_lt hg), fun p x hpg hx => (gsetn H g p _ (fun e => hpg e.symm)).trans hx, by rw [List.length_set]⟩
  unfold acopy
  simp only [he, asrc_sl ht h hv, hmin, hg, Nat.mul_one, List.take_length, Nat.zero_add]
  rw [if_neg (by omega), if_pos ⟨hl, hv⟩, ovr_front _ _ hp hl]
  congr 3
  omega
def keyS (k : List UInt8) : List UInt8 := if k.length > 64 then digest k else k
theorem keyS_length (k : List UInt8) : (keyS k).length ≤ 64 := by
  unfold keyS
  split
  · rw [digest_length]; omega
  · omega
def keyB (k : List UInt8) : List UInt8 := keyS k ++ zb (64 - (keyS k).length)
theorem keyB_length (k : List UInt8) : (keyB k).length = 64 := by
  have := keyS_length k
  rw [keyB, List.length_append, zb_length]; omega
/-- copy of a row that is not shorter over the whole of an own block. -/
theorem copy_full {P : Program} {H : AH} {t tx : TypeId} {bytes g n e : Nat} {v : Value} {vs cs : List Value} (he : elemT P t = some (1, bytes)) (ht : sliceT P tx = true) (h : SL H v vs) (hv : vs.all cellv = true) (hg : H[g]? = some (.own cs)) (hn : n = cs.length) (hl : cs.length ≤ vs.length) (h0 : 2 ≤ n) :
    acopy P H t tx (.slice (some ⟨g, 0, none⟩) n e) v = some (.int .i64 n, H.set g (.own (vs.take n))) := by
  subst hn
  have hmin : min vs.length cs.length = cs.length := Nat.min_eq_right hl
  have hlt : (vs.take cs.length).length = cs.length := by rw [List.length_take]; exact Nat.min_eq_left hl
  unfold acopy
  simp only [he, asrc_sl ht h hv, hmin, hg, Nat.mul_one, Nat.zero_add, hlt]
  rw [show min (vs.length : Int) (cs.length : Int) = (cs.length : Int) by omega]
  rw [if_neg (by omega), if_pos ⟨Nat.le_refl _, hv⟩, ovr_all _ _ hlt]
theorem page_copy {H : AH} {g e : Nat} {v : Value} {b : List UInt8} (hv : SL H v (b.map U8)) (hg : H[g]? = some (.own ((zb 256).map U8))) :
    ∃ c H', acopy Try.prog H 26 26 (.slice (some ⟨g, 0, none⟩) 256 e) v = some (c, H') ∧ H'[g]? = some (.own ((pageB b).map U8)) ∧ (∀ p x, p ≠ g → H[p]? = some x → H'[p]? = some x) ∧ H'.length = H.length := by
  by_cases hl : b.length ≤ 256
  · obtain ⟨H', h1, h2, h3, h4⟩ := copy_own (P := Try.prog) (t := 26) (tx := 26) (bytes := 1) (e := e) (n := 256) (by simp only [ty]) (by simp only [ty]) hv (all8 _) hg (by rw [List.length_map, zb_length]) (by rw [List.length_map, List.length_map, zb_length]; exact hl)
    refine ⟨_, H', h1, ?_, h3, h4⟩
    rw [h2, pageB, List.take_of_length_le hl, List.map_append, List.length_map, ← List.map_drop, drop_zb]
  · refine ⟨_, _, copy_full (bytes := 1) (by simp only [ty]) (by simp only [ty]) hv (all8 _) hg (by rw [List.length_map, zb_length]) (by rw [List.length_map, List.length_map, zb_length]; omega) (by decide), ?_, fun p x hp h => ?_, List.length_set⟩
    · rw [gset _ _ _ (got_lt hg), pageB, show 256 - b.length = 0 by omega, List.map_append, List.map_take]
      simp [zb]
    · rw [gsetn H g p _ (fun e => hp e.symm)]; exact h
set_option maxHeartbeats 4000000 in
theorem page_calls (v : Value) (b : List UInt8) (H : AH) (hv : SL H v (b.map U8)) :
    ACalls Try.prog 10 #[v] H fun w H' => SL H' w ((pageB b).map U8) ∧ Ext H H' := by
  obtain ⟨p, n, e, rfl⟩ := hv.isSlice
  have fo_ : True := trivial
  have N_ := Now.start H
  have f_ := N_.has
  simp only [Has] at f_
  refine acalls_of_body Try.func10 rfl Try.ntmps10 (by simp) ?_
  simp only [argsT, Nat.reduceAdd]
  have hm : ∀ (ρ : Operand → Value) (x y : Operand), ρ x = .int .i64 256 → ρ y = .int .i64 256 → anew Try.prog ρ (.makeSlice 26 x y) = some ((zb 256).map U8, fun g => .slice (some ⟨g, 0, none⟩) 256 1) := fun ρ x y hx hy => by
    rw [anew_ms (size := 1) (bytes := 1) (z := #[.int .u8 0]) (by kernel_rfl) hx hy (by omega) (by omega) (by omega) (by omega) rfl, zeros1]
    rfl
  have hm1 := hm (aeval [(2, .slice none 0 0), (0, .slice p n e)]) (.const (.int .i64 256)) (.const (.int .i64 256)) rfl rfl
  iterate 2 ((repeat first | refine Qo ?_ | refine Qn ?_); (first | (refine QK (by kernel_rfl) ?_; intro K_ hK_; simp -implicitDefEqProofs (disch := (try simp only [sl]); try omega) only [sm,QJ,Qj,Qi,Qq,QC,bd,look,aput,ty,↓reduceIte,Nat.reduceEqDiff,Nat.reduceAdd,Nat.reduceSub,Nat.reduceMul,Int.reduceLT,Int.reduceLE,Int.reduceNeg,Int.reduceToNat,reduceCtorEq,Nat.reduceBEq,Nat.reduceBNe,Qk,Qe,Value.cells,am,mm,keep, f_, fo_, QO, hm1]; refine hK_ _ _ ?_; clear hK_ K_; repeat first | refine QL ?_ | refine QM ?_)))
  first | refine AWp.snap8 N_ ?_ | refine AWp.snap7 N_ ?_ | refine AWp.snap6 N_ ?_ | refine AWp.snap5 N_ ?_ | refine AWp.snap4 N_ ?_ | refine AWp.snap3 N_ ?_ | refine AWp.snap2 N_ ?_ | refine AWp.snap1 N_ ?_
  clear fo_; have fo_ := f_; clear f_ N_; intro H1 xH1 lH1 N_
  have f_ := N_.has
  simp only [Has] at f_
  obtain ⟨c, H2, hc, q2, k2, l2⟩ := page_copy (e := 1) (hv.mono xH1) f_.1.2.1
  have x2 : Ext H H2 := fun p y hy => k2 p y (by have := (List.getElem?_eq_some_iff.1 hy).1; omega) (xH1 _ _ hy)
  iterate 1 ((repeat first | refine Qo ?_ | refine Qn ?_); (first | (refine QK (by kernel_rfl) ?_; intro K_ hK_; simp -implicitDefEqProofs (disch := (try simp only [sl]); try omega) only [sm,QJ,Qj,Qi,Qq,QC,bd,look,aput,Qm,ty,↓reduceIte,Nat.reduceEqDiff,Nat.reduceAdd,Nat.reduceSub,Nat.reduceMul,Int.reduceLT,Int.reduceLE,Int.reduceNeg,Int.reduceToNat,reduceCtorEq,Nat.reduceBEq,Nat.reduceBNe,Qk,Qe,Value.cells,am,mm,keep, f_, fo_, QO, hc]; refine hK_ _ _ ?_; clear hK_ K_; repeat first | refine QL ?_ | refine QM ?_)))
  clear f_ N_
  iterate 1 ((repeat first | refine Qo ?_ | refine Qn ?_); (first | (refine QK (by kernel_rfl) ?_; intro K_ hK_; simp -implicitDefEqProofs (disch := (try simp only [sl]); try omega) only [sm,QJ,Qj,Qi,Qq,QC,bd,look,aput,ty,↓reduceIte,Nat.reduceEqDiff,Nat.reduceAdd,Nat.reduceSub,Nat.reduceMul,Int.reduceLT,Int.reduceLE,Int.reduceNeg,Int.reduceToNat,reduceCtorEq,Nat.reduceBEq,Nat.reduceBNe,Qk,Qe,Value.cells,am,mm,keep, QO]; refine hK_ _ _ ?_; clear hK_ K_; repeat first | refine QL ?_ | refine QM ?_)))
  first | refine awp_ret ?_ | skip
  show ∃ v, aresults Try.prog Try.f10 _ _ = some v ∧ _
  rw [aresults_1 (r := .tmp 2) (by kernel_rfl)]
  simp -implicitDefEqProofs (disch := (try simp only [sl]); try omega) only [aresult, Option.some.injEq, exists_eq_left', sm,Qj,Qi,Qq,QC,Qz,bd,QF,look,aput,QB,Qf,QA,ty,↓reduceIte,Nat.reduceEqDiff,Nat.reduceAdd,Nat.reduceSub,Nat.reduceMul,Int.reduceLT,Int.reduceLE,Int.reduceNeg,Int.reduceToNat,reduceCtorEq,Nat.reduceBEq,Nat.reduceBNe,Qk,Qe,Value.cells,am,mm,keep, QO]
  exact ⟨SL.own 256 (by rw [List.length_map, pageB_length]) q2, x2⟩
theorem lit1s {H : AH} {g : Nat} (b : UInt8) {c : Int} (hg : H[g]? = some (.own [.int .u8 c])) (hc : c = (b.toNat : Int)) : SL H (.slice (some ⟨g, 0, none⟩) 1 1) ([b].map U8) := by
  subst hc
  exact SL.own 1 rfl hg
def key1 : List UInt8 := 1 :: zb 31
set_option maxHeartbeats 8000000 in
theorem salive_calls (H : AH) : ACalls Try.prog 9 #[] H fun w H' => w = .bool true ∧ Ext H H' := by
  have hS : Value.int .u8 1 :: List.replicate 31 (Value.int .u8 0) = key1.map U8 := rfl
  simp only [List.replicate] at hS
  have hk : key1.length = 32 := rfl
  generalize key1 = k at *
  have hz32 := zb_length 32
  have hrz := rc_length hz32 0 0
  have hra := rc_cellv
  have h5 : U32 5 = .int .u32 5 := rfl
  have hpl := pageB_length [97]
  have fo_ : True := trivial
  have N_ := Now.start H
  have f_ := N_.has
  simp only [Has] at f_
  refine acalls_of_body Try.func9 rfl Try.ntmps9 (by simp) ?_
  simp only [argsT, Nat.reduceAdd]
  iterate 1 ((repeat first | refine Qo ?_ | refine Qn ?_); (first | (refine QK (by kernel_rfl) ?_; intro K_ hK_; simp -implicitDefEqProofs (disch := (try simp only [sl]); try omega) only [sm,QJ,Qj,Qi,Qq,QC,Qz,bd,QF,look,aput,Qm,QH,Qg,Qh,ty,↓reduceIte,Nat.reduceEqDiff,Nat.reduceAdd,Nat.reduceSub,Nat.reduceMul,Int.reduceLT,Int.reduceLE,Int.reduceNeg,Int.reduceToNat,reduceCtorEq,Nat.reduceBEq,Nat.reduceBNe,Qk,Qe,Value.cells,am,mm,keep, f_, fo_, bd, bda, hS, zR, hrz, hra]; refine hK_ _ _ ?_; clear hK_ K_; repeat first | refine QL ?_ | refine QM ?_)))
  (repeat first | refine Qo ?_ | refine Qn ?_); refine QK (by kernel_rfl) ?_; intro K_ hK_; simp -implicitDefEqProofs (disch := (try simp only [sl]); try omega) only [sm,QJ,Qj,Qi,Qq,QC,Qz,bd,QF,look,aput,Qm,QH,Qg,Qh,ty,↓reduceIte,Nat.reduceEqDiff,Nat.reduceAdd,Nat.reduceSub,Nat.reduceMul,Int.reduceLT,Int.reduceLE,Int.reduceNeg,Int.reduceToNat,reduceCtorEq,Nat.reduceBEq,Nat.reduceBNe,Qk,Qe,Value.cells,am,mm,keep, f_, fo_, bd, bda, hS, zR, hrz, hra]
  have q1 : (H ++ [ABlk.dead] ++ [ABlk.own [.int .u8 97]])[H.length + 1]? = some (.own [.int .u8 97]) := by rw [show H.length + 1 = (H ++ [ABlk.dead]).length by simp]; exact gpush _ _
  have xH1 : Ext H (H ++ [ABlk.dead] ++ [ABlk.own [.int .u8 97]]) := (Ext.push _ _).trans (Ext.push _ _)
  generalize H ++ [ABlk.dead] ++ [ABlk.own [.int .u8 97]] = H1 at *
  clear f_ fo_ N_
  have N_ : Now H H1 [] := ⟨xH1, trivial⟩
  have f_ := N_.has
  simp only [Has] at f_
  have fo_ := True.intro
  have tp : SL H1 (.slice (some ⟨H.length + 1, 0, none⟩) 1 1) (([97] : List UInt8).map U8) := lit1s 97 q1 rfl
  refine ACalls.mono (page_calls _ [97] H1 tp) ?_
  rintro v H2 ⟨hv, e2⟩
  replace N_ := N_.grow e2
  clear fo_; have fo_ := f_; clear f_
  have f_ := N_.has
  simp only [Has] at f_
  try simp -implicitDefEqProofs (disch := (try simp only [sl]); try omega) only [sm,QJ,Qj,Qi,Qq,QC,Qz,bd,QF,look,aput,Qm,QH,Qg,Qh,ty,↓reduceIte,Nat.reduceEqDiff,Nat.reduceAdd,Nat.reduceSub,Nat.reduceMul,Int.reduceLT,Int.reduceLE,Int.reduceNeg,Int.reduceToNat,reduceCtorEq,Nat.reduceBEq,Nat.reduceBNe,Qk,Qe,Value.cells,am,mm,keep, f_, fo_, bd, bda, hS, zR, hrz, hra]
  try (refine hK_ _ _ ?_; clear hK_ K_; repeat first | refine QL ?_ | refine QM ?_)
  rw [← h5]
  refine ACalls.mono (hide_calls k 5 1 7 v (pageB [97]) H2 hk hv) ?_
  rintro _ H3 ⟨⟨x, rfl, hx⟩, e3⟩
  have hok : okH 1 7 (pageB [97]) := ⟨⟨hpl, by decide⟩, .inr rfl⟩
  rw [hdK, if_pos hok] at hx
  rw [hdR, if_pos hok, hdE, if_pos hok]
  replace N_ := N_.grow e3
  clear fo_; have fo_ := f_; clear f_
  have f_ := N_.has
  simp only [Has] at f_
  have htl : (trn k 5 7 (pageB [97])).length = 256 := by rw [trn_length, hpl]
  have hdl := digest_length (trn k 5 7 (pageB [97]))
  have hov := rc_ovr hz32 hdl 0 1 0 5
  have hrl := rc_length hdl 1 5
  have htk := rc_take hdl 1 5
  try simp -implicitDefEqProofs (disch := (try simp only [sl]); try omega) only [sm,QJ,Qj,Qi,Qq,QC,Qz,bd,QF,look,aput,Qm,QH,Qg,Qh,ty,↓reduceIte,Nat.reduceEqDiff,Nat.reduceAdd,Nat.reduceSub,Nat.reduceMul,Int.reduceLT,Int.reduceLE,Int.reduceNeg,Int.reduceToNat,reduceCtorEq,Nat.reduceBEq,Nat.reduceBNe,Qk,Qe,Value.cells,am,mm,keep, f_, fo_, bd, bda, hS, zR, hrz, hra, hov, hrl]
  try (refine hK_ _ _ ?_; clear hK_ K_; repeat first | refine QL ?_ | refine QM ?_)
  first | refine AWp.snap8 N_ ?_ | refine AWp.snap7 N_ ?_ | refine AWp.snap6 N_ ?_ | refine AWp.snap5 N_ ?_ | refine AWp.snap4 N_ ?_ | refine AWp.snap3 N_ ?_ | refine AWp.snap2 N_ ?_ | refine AWp.snap1 N_ ?_
  clear fo_; have fo_ := f_; clear f_ N_; intro H4 xH4 lH4 N_
  have f_ := N_.has
  simp only [Has] at f_
  have hx4 : SL H4 x ((trn k 5 7 (pageB [97])).map U8) := hx.mono xH4
  (repeat first | refine Qo ?_ | refine Qn ?_); refine QK (by kernel_rfl) ?_; intro K_ hK_; simp -implicitDefEqProofs (disch := (try simp only [sl]); try omega) only [sm,QJ,Qj,Qi,Qq,QC,Qz,bd,QF,look,aput,Qm,QA,Qh,ty,↓reduceIte,Nat.reduceEqDiff,Nat.reduceAdd,Nat.reduceSub,Nat.reduceMul,Int.reduceLT,Int.reduceLE,Int.reduceNeg,Int.reduceToNat,reduceCtorEq,Nat.reduceBEq,Nat.reduceBNe,Qk,Qe,Value.cells,am,mm,keep, f_, fo_, bd, bda, hS, zR, hrz, hra, htk, hrl]
  refine ACalls.mono (open_calls k 1 5 _ 7 x _ H4 hk hdl hx4) ?_
  rintro _ H5 ⟨⟨y, rfl, hy⟩, e5⟩
  rw [opK, if_pos ⟨⟨htl, by decide⟩, rfl⟩, trn_trn] at hy
  rw [opE, if_pos ⟨htl, by decide⟩, if_pos rfl]
  replace N_ := N_.grow e5
  clear fo_; have fo_ := f_; clear f_
  have f_ := N_.has
  simp only [Has] at f_
  have lx := alen_sl (P := Try.prog) (T := 26) (by simp only [ty]) (hx4.mono e5)
  rw [List.length_map, htl] at lx
  have lx : alen Try.prog 26 x = some (.int .i64 256) := lx
  obtain ⟨g, o, e', cs, rfl, hcs, hg, h1, hk1, hk0⟩ := hy.bytes (by omega)
  have q0 : cs[o]? = some (.int .u8 97) := hk1 0 (by omega)
  have q1 : cs[o + 1]? = some (.int .u8 0) := hk1 1 (by omega)
  rw [hpl] at *
  have hrp : (rc 1 5 (digest (trn k 5 7 (pageB [97]))))[0]? = some (.int .i64 1) := rfl
  have hre : (rc 1 5 (digest (trn k 5 7 (pageB [97]))))[1]? = some (.int .u32 5) := rfl
  have hii : ∀ n : Int, (n == n) = true := fun n => by simp
  try simp -implicitDefEqProofs (disch := (try simp only [sl]); try omega) only [sm,QJ,Qj,Qi,Qq,QC,Qz,bd,QF,look,aput,Qm,QA,Qh,ty,↓reduceIte,Nat.reduceEqDiff,Nat.reduceAdd,Nat.reduceSub,Nat.reduceMul,Int.reduceLT,Int.reduceLE,Int.reduceNeg,Int.reduceToNat,reduceCtorEq,Nat.reduceBEq,Nat.reduceBNe,Qk,Qe,Value.cells,am,mm,keep, f_, fo_, aint, lx, hcs, q0, q1, hrp, hre, hrl, hii]
  try (refine hK_ _ _ ?_; clear hK_ K_; repeat first | refine QL ?_ | refine QM ?_)
  iterate 1 ((repeat first | refine Qo ?_ | refine Qn ?_); (first | (refine QK (by kernel_rfl) ?_; intro K_ hK_; simp -implicitDefEqProofs (disch := (try simp only [sl]); try omega) only [sm,QJ,Qj,Qi,Qq,QC,Qz,bd,QF,look,aput,QI,abin,anil,Qb,Qc,QA,ty,↓reduceIte,Nat.reduceEqDiff,Nat.reduceAdd,Nat.reduceSub,Nat.reduceMul,Int.reduceLT,Int.reduceLE,Int.reduceNeg,Int.reduceToNat,reduceCtorEq,Nat.reduceBEq,Nat.reduceBNe,Qk,Qe,Value.cells,am,mm,keep, f_, fo_, aint, lx, hcs, q0, q1, hrp, hre, hrl, hii]; refine hK_ _ _ ?_; clear hK_ K_; repeat first | refine QL ?_ | refine QM ?_)))
  first | refine awp_ret ?_ | skip
  show ∃ v, aresults Try.prog Try.f9 _ _ = some v ∧ _
  rw [aresults_1 (r := .tmp 0) (by kernel_rfl)]
  simp -implicitDefEqProofs (disch := (try simp only [sl]); try omega) only [aresult, Option.some.injEq, exists_eq_left', sm,Qj,Qi,Qq,QC,Qz,bd,QF,look,aput,QB,Qf,QA,ty,↓reduceIte,Nat.reduceEqDiff,Nat.reduceAdd,Nat.reduceSub,Nat.reduceMul,Int.reduceLT,Int.reduceLE,Int.reduceNeg,Int.reduceToNat,reduceCtorEq,Nat.reduceBEq,Nat.reduceBNe,Qk,Qe,Value.cells,am,mm,keep, f_, fo_, aint, lx, hcs, q0, q1, hrp, hre, hrl, hii]
  exact N_.ext
end Go.Proofs.Ytpiaohajbbdpdaa
