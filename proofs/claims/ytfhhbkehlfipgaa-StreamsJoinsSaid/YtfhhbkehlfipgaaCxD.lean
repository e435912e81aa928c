/- Lemmas for the walk: C10. -/
import Derived.Test.YtfhhbkehlfipgaaCxB
import Derived.Test.YtfhhbkehlfipgaaCxA
section
set_option linter.unusedSimpArgs false
set_option linter.unusedVariables false
set_option linter.unnecessarySimpa false
set_option linter.unusedSectionVars false
namespace Go.Proofs.Ytfhhbkehlfipgaa
open Go.Tx
set_option maxRecDepth 100000
set_option maxHeartbeats 1000000
set_option linter.unusedSimpArgs false
set_option linter.unusedVariables false
theorem PostF.same {T : Tys} {F : SF} {rl : List ResultVar} {L : Nat} {v : PV} {e : Exit} {st : St} {p : Prop} (he : e = .normal ∨ e = .ret) (h : resVal T (Tx.look F st.H) st.t rl = some (p, v)) (hp : p) (hf : Tx.nf v = true) (ha : UpdAll L [] st.H) : PostF T F rl L v [] e st :=
  .of he h hp (wk_refl _ v).1 (by intro n hn; rw [(wk_refl F v).2] at hn; cases hn) hf trivial ha
/-! tannoyref35.New -/
def zrs (n : Nat) : List Int := List.replicate n 0
theorem refNew_ok {F : SF} {L nx : Nat} (n m : Nat) (hn : n ≤ 1000000) (hm : m ≤ 1000000) :
    Con Try.prog 40 [.int .i64 n, .int .i64 m] F L nx (nx + 2) (.agg [.sl ⟨L, nx⟩ 0 n, .sl ⟨L, nx + 1⟩ 0 m, .nilS, .int .i64 0, .int .i64 (-1), .nilS])
      [(⟨L, nx⟩, .rows 3 1 true true ((zrs n).map eI)), (⟨L, nx + 1⟩, .rows 3 1 true true ((zrs m).map eI))] [] := by
  refine Con.bodyN (cxOk (L + 1)) rfl rfl (fn := Try.f40) (c := Try.f40.body.getD .skip) (by kernel_rfl) (by rfl) (by kernel_rfl) rfl (by simp) ?_
  intro F3 hF1 hF2
  simp only [Try.f40, cx, Nat.add_zero, go_sem, Meths.get, meths, Nat.reduceSub, Nat.reduceAdd, Nat.reduceMul, Nat.reduceEqDiff, Nat.reduceLT, Nat.reduceLeDiff, Nat.reduceBEq, Nat.reduceBNe, reduceIte, reduceCtorEq, Int.reduceToNat, String.reduceEq]
  refine ⟨by kernel_rfl, ⟨by omega, by omega, by omega⟩, ⟨by omega, by omega, by omega⟩, okDyn_num (·.i) (by kernel_rfl), ?_⟩
  refine .now (.val [64, 128] (.inr rfl) (by simp) (p := True) (v0 := .agg [.sl ⟨L + 1, 64⟩ 0 n, .sl ⟨L + 1, 128⟩ 0 m, .nilS, .int .i64 0, .int .i64 (-1), .nilS]) ?_ trivial ?_ ?_ ⟨?_, ?_, ?_, ?_, trivial⟩ ?_)
  · simp only [resVal, resVals, resVal1, one, Nat.add_zero, go_sem, Meths.get, meths, Nat.reduceSub, Nat.reduceAdd, Nat.reduceMul, Nat.reduceEqDiff, Nat.reduceLT, Nat.reduceLeDiff, Nat.reduceBEq, Nat.reduceBNe, reduceIte, reduceCtorEq, Int.reduceToNat, String.reduceEq]
  · simp [nmA, nmAL, Dn]
  · simp [Tx.rn, Tx.rnL, sg, List.idxOf, List.findIdx, List.findIdx.go]
  · simp
  · rw [kp_at0 (by simp)]
    exact .pure (by simp [Tx.look, zrs, eI])
  · simp
  · rw [kp_at (by simp)]
    exact .pure (by simp [Tx.look, zrs, eI])
  · simp [UpdAll, keys]
theorem ints_ok {F : SF} {L nx : Nat} (xs ys : List Int) (hx : xs.length ≤ 1000000) (hy : ys.length ≤ 1000000) :
    Con Try.prog 14 [.fs 1 (xs.map eI), .fs 1 (ys.map eI)] F L nx nx (.bool (xs == ys)) [] [] := by
  refine Con.body (cxOk (L + 1)) rfl rfl (fn := Try.f14) (c := Try.f14.body.getD .skip) (by kernel_rfl) (by rfl) (by kernel_rfl) rfl (by simp) ?_
  intro F3 hF1 hF2
  simp only [Try.f14, cx, Nat.add_zero, go_sem, Meths.get, meths, Nat.reduceSub, Nat.reduceAdd, Nat.reduceMul, Nat.reduceEqDiff, Nat.reduceLT, Nat.reduceLeDiff, Nat.reduceBEq, Nat.reduceBNe, reduceIte, reduceCtorEq, Int.reduceToNat, String.reduceEq]
  simp only [List.length_map]
  refine brB.mk (fun hne => ?_) (fun heq => ?_)
  · refine .bool (.inr rfl) rfl ?_ trivial
    symm
    simp only [beq_eq_false_iff_ne]
    rintro rfl
    simp at hne
  · have hl : xs.length = ys.length := by have := heq; simp at this; omega
    refine loopK.intro _ _ (I := fun i : Nat => ⟨[some (.fs 1 (xs.map eI)), some (.fs 1 (ys.map eI)), none, none, none, some (.int .i64 i), none, none, none, none, none, none, none, none, none, none, none, none, none, none, none, none, none, none, none, none], [], 1000 * (i + 1)⟩) (pre := fun i => i ≤ xs.length ∧ ∀ j, j < i → xs.getD j 0 = ys.getD j 0) (μ := fun i => xs.length - i) 0 ⟨by omega, by intro j h; omega⟩ ?_ ?_
    · exact Sub.of (fun n hn => hF2 n (by have : n.l = L + 1 := hn; omega)) (by simp only [go_sem, resVal, resVals, resVal1, one, Wk, WkL, WkLL, wkN, wkNL, wkNLL, UpdIn, UpdAll, BW, plainP, plainPL, subT, subH, subK, and_self, true_or, or_true, List.not_mem_nil, List.mem_cons, forall_eq, imp_self, implies_true, Nat.reduceSub, Nat.reduceAdd, Nat.reduceMul, Nat.reduceEqDiff, Nat.reduceLT, Nat.reduceLeDiff, Nat.reduceBEq, Nat.reduceBNe, reduceIte, reduceCtorEq, Int.reduceToNat, String.reduceEq, List.length_map, Int.natCast_zero]) trivial trivial (by simp)
    · rintro i ⟨hi, hp⟩
      by_cases hlt : i < xs.length
      · have f1 : decide ((i : Int) < (xs.length : Int)) = true := dT (by omega)
        have r0 := getD_eI xs hlt
        have r1 := getD_eI ys (show i < ys.length by omega)
        have i1 : Go.Sx.inI64 ((i : Int) + 1) := ⟨by omega, by omega⟩
        simp only [f1, r0, r1, eI, List.length_map, Nat.add_zero, go_sem, Meths.get, meths, Nat.reduceSub, Nat.reduceAdd, Nat.reduceMul, Nat.reduceEqDiff, Nat.reduceLT, Nat.reduceLeDiff, Nat.reduceBEq, Nat.reduceBNe, reduceIte, reduceCtorEq, Int.reduceToNat, String.reduceEq]
        refine ⟨by kernel_rfl, ⟨by omega, by omega⟩, hlt, ⟨by omega, by omega⟩, by omega, okDyn_num (·.i) (by kernel_rfl), brB.mk (fun hne => ?_) (fun heq => ⟨i1, i + 1, ⟨by omega, fun j hj => ?_⟩, by omega, ?_⟩)⟩
        · refine .bool (.inr rfl) rfl ?_ trivial
          symm
          simp only [beq_eq_false_iff_ne]
          rintro rfl
          simp at hne
        · rcases Nat.lt_or_ge j i with h | h
          · exact hp j h
          · have : j = i := by omega
            subst this
            simpa using heq
        · exact Sub.of (fun n hn => hF2 n (by have : n.l = L + 1 := hn; omega)) (by simp only [go_sem, resVal, resVals, resVal1, one, Wk, WkL, WkLL, wkN, wkNL, wkNLL, UpdIn, UpdAll, BW, plainP, plainPL, subT, subH, subK, and_self, true_or, or_true, List.not_mem_nil, List.mem_cons, forall_eq, imp_self, implies_true, Nat.reduceSub, Nat.reduceAdd, Nat.reduceMul, Nat.reduceEqDiff, Nat.reduceLT, Nat.reduceLeDiff, Nat.reduceBEq, Nat.reduceBNe, reduceIte, reduceCtorEq, Int.reduceToNat, String.reduceEq, Int.natCast_succ]) trivial trivial (by simp; omega)
      · have f1 : decide ((i : Int) < (xs.length : Int)) = false := dF (by omega)
        simp only [f1, List.length_map, Nat.add_zero, go_sem, Meths.get, meths, Nat.reduceSub, Nat.reduceAdd, Nat.reduceMul, Nat.reduceEqDiff, Nat.reduceLT, Nat.reduceLeDiff, Nat.reduceBEq, Nat.reduceBNe, reduceIte, reduceCtorEq, Int.reduceToNat, String.reduceEq]
        refine .bool (.inr rfl) rfl ?_ trivial
        symm
        simp only [beq_iff_eq]
        apply List.ext_getElem hl
        intro k h1 h2
        have := hp k (by omega)
        simpa [List.getD_eq_getElem?_getD, h1, h2] using this
/-! tannoyref35.Draft.Start -/
theorem set_eI (xs : List Int) (k : Nat) (v : Int) : (xs.map eI).set k [.int .i64 v] = (xs.set k v).map eI := by simp [List.map_set, eI]
theorem start_ok {F : SF} {L nx : Nat} (o i : Nat) (f a b : Int) (w r : PV) (ho : o < 256) (hi : i < 256) (ha1 : 0 ≤ a) (ha2 : a < 65536) (hb1 : 0 ≤ b) (hb2 : b < 65536) :
    Con Try.prog 10 [.agg [.int .u8 o, .int .u8 i, .int .u32 f, .int .u16 a, .int .u16 b, w, r]] F L nx (nx + 2) (.agg [.sl ⟨L, nx⟩ 0 (1 + o % 16), .sl ⟨L, nx + 1⟩ 0 (1 + i % 16), .nilS, .int .i64 0, .int .i64 (-1), .nilS])
      [(⟨L, nx⟩, .rows 3 1 true true ((((zrs (1 + o % 16)).set 0 a).set (o % 16) b).map eI)), (⟨L, nx + 1⟩, .rows 3 1 true true (((zrs (1 + i % 16)).set 0 b).map eI))] [] := by
  refine Con.bodyN (cxOk (L + 1)) rfl rfl (fn := Try.f10) (c := Try.f10.body.getD .skip) (by kernel_rfl) (by rfl) (by kernel_rfl) rfl (by simp) ?_
  intro F3 hF1 hF2
  have t1 : ((o : Int).tmod 16) = ((o % 16 : Nat) : Int) := rfl
  have t2 : ((i : Int).tmod 16) = ((i % 16 : Nat) : Int) := rfl
  have t3 : ((1 : Int) + ((o % 16 : Nat) : Int)) = ((1 + o % 16 : Nat) : Int) := by omega
  have t4 : ((1 : Int) + ((i % 16 : Nat) : Int)) = ((1 + i % 16 : Nat) : Int) := by omega
  simp only [Try.f10, cx, t1, t2, t3, t4, Nat.add_zero, go_sem, Meths.get, meths, Nat.reduceSub, Nat.reduceAdd, Nat.reduceMul, Nat.reduceEqDiff, Nat.reduceLT, Nat.reduceLeDiff, Nat.reduceBEq, Nat.reduceBNe, reduceIte, reduceCtorEq, Int.reduceToNat, String.reduceEq]
  refine ⟨by omega, ⟨by omega, by omega⟩, ⟨by omega, by omega⟩, by omega, ⟨by omega, by omega⟩, ⟨by omega, by omega⟩, CallVC.same (refNew_ok _ _ (by omega) (by omega)) ?_⟩
  have l1 : ((zrs (1 + o % 16)).map eI).length = 1 + o % 16 := by simp [zrs]
  have l2 : ((zrs (1 + i % 16)).map eI).length = 1 + i % 16 := by simp [zrs]
  have e1 : (((1 + o % 16 : Nat) : Int) - 1).toNat = o % 16 := by omega
  have z0 := getD_eI (zrs (1 + o % 16)) (i := 0) (by simp [zrs]; omega)
  have z1 := getD_eI (zrs (1 + i % 16)) (i := 0) (by simp [zrs]; omega)
  have z2 := getD_eI ((zrs (1 + o % 16)).set 0 a) (i := o % 16) (by simp [zrs])
  have l3 : (((zrs (1 + o % 16)).set 0 a).map eI).length = 1 + o % 16 := by simp [zrs]
  simp only [l1, l2, l3, z0, z1, z2, e1, eI, set_eI, Nat.add_zero, go_sem, Meths.get, meths, Nat.reduceSub, Nat.reduceAdd, Nat.reduceMul, Nat.reduceEqDiff, Nat.reduceLT, Nat.reduceLeDiff, Nat.reduceBEq, Nat.reduceBNe, reduceIte, reduceCtorEq, Int.reduceToNat, String.reduceEq]
  repeat refine And.intro (by first | omega | exact ⟨by omega, by omega⟩ | exact ⟨by omega, by omega, by omega⟩ | exact ⟨⟨by omega, by omega⟩, by omega, by omega⟩ | exact okDyn_num (fun x => x.i) (by kernel_rfl) | kernel_rfl | exact okDyn_num (fun _ => 0) (by kernel_rfl)) ?_
  refine .now (.val [384, 385] (.inr rfl) (by simp) (p := True) (v0 := .agg [.sl ⟨L + 1, 384⟩ 0 (1 + o % 16), .sl ⟨L + 1, 385⟩ 0 (1 + i % 16), .nilS, .int .i64 0, .int .i64 (-1), .nilS]) ?_ trivial ?_ ?_ ⟨?_, ?_, ?_, ?_, trivial⟩ ?_)
  · simp only [resVal, resVals, resVal1, one, Nat.add_zero, go_sem, Meths.get, meths, Nat.reduceSub, Nat.reduceAdd, Nat.reduceMul, Nat.reduceEqDiff, Nat.reduceLT, Nat.reduceLeDiff, Nat.reduceBEq, Nat.reduceBNe, reduceIte, reduceCtorEq, Int.reduceToNat, String.reduceEq]
  · simp [nmA, nmAL, Dn]
  · simp [Tx.rn, Tx.rnL, sg, List.idxOf, List.findIdx, List.findIdx.go]
  · simp
  · rw [kp_at0 (by simp)]
    exact .pure (by simp [Tx.look])
  · simp
  · rw [kp_at (by simp)]
    exact .pure (by simp [Tx.look])
  · simp [UpdAll, keys]
/-! tannoyref35.Words.Message -/
def msgText (sz : Nat) : List UInt8 := (List.range (1 + sz % 3300)).map fun i => UInt8.ofNat ((i / 7 + sz) % 256)
def msgRow (sz N i : Nat) : List (List PV) := (List.range N).map fun j => [.int .u8 (if j < i then ((j / 7 + sz) % 256 : Nat) else 0)]
theorem msgRow_set (sz N i : Nat) (h : i < N) : (msgRow sz N i).set i (PV.int .u8 (IntKind.u8.wrap (((i / 7 : Nat) : Int) + sz)) :: List.drop 1 ((msgRow sz N i).getD i [])) = msgRow sz N (i + 1) := by
  have hg : List.drop 1 ((msgRow sz N i).getD i []) = [] := by simp [msgRow, List.getD_eq_getElem?_getD, h]
  rw [hg]
  apply List.ext_getElem?
  intro k
  rw [List.getElem?_set]
  by_cases hk : i = k
  · subst hk
    simp only [if_true, msgRow, List.length_map, List.length_range, h, List.getElem?_map, List.getElem?_range h, Option.map_some]
    have : i < i + 1 := by omega
    simp only [this, if_true, IntKind.wrap_u8]
    congr 3
  · rw [if_neg hk]
    simp only [msgRow, List.getElem?_map]
    cases hr : (List.range N)[k]? with
    | none => rfl
    | some j =>
      have : j = k := by
        obtain ⟨h1, h2⟩ := List.getElem?_eq_some_iff.1 hr
        simpa using h2.symm
      subst this
      have e : (j < i) = (j < i + 1) := by apply propext; omega
      simp only [Option.map_some, e]
theorem msgRow_str (sz N : Nat) : bytesP (msgRow sz N N) = (List.range N).map fun i => UInt8.ofNat ((i / 7 + sz) % 256) := by
  simp only [bytesP, msgRow, List.map_map]
  apply List.map_congr_left
  intro j hj
  simp only [List.mem_range] at hj
  simp only [Function.comp, hj, if_true, byteP, Int.toNat_natCast]
theorem message_ok {F : SF} {L nx : Nat} (st kd sz n : Nat) (lo : Bool) (hst : st < 256) (hkd : kd < 256) (hsz : sz < 65536) (hn : 1 ≤ n) (hn2 : n ≤ 16) :
    Con Try.prog 11 [.agg [.int .u8 st, .int .u8 kd, .int .u16 sz, .bool lo], .int .i64 n] F L nx nx (.agg [.int .i64 ((st % n : Nat) : Int), .int .i64 ((50 + kd % 4 : Nat) : Int), .bool lo, .str (msgText sz)]) [] [] := by
  refine Con.body (cxOk (L + 1)) rfl rfl (fn := Try.f11) (c := Try.f11.body.getD .skip) (by kernel_rfl) (by rfl) (by kernel_rfl) rfl (by simp) ?_
  intro F3 hF1 hF2
  have t1 : ((sz : Int).tmod 3300) = ((sz % 3300 : Nat) : Int) := rfl
  have t2 : ((1 : Int) + ((sz % 3300 : Nat) : Int)) = ((1 + sz % 3300 : Nat) : Int) := by omega
  simp only [Try.f11, cx, t1, t2, Nat.add_zero, go_sem, Meths.get, meths, Nat.reduceSub, Nat.reduceAdd, Nat.reduceMul, Nat.reduceEqDiff, Nat.reduceLT, Nat.reduceLeDiff, Nat.reduceBEq, Nat.reduceBNe, reduceIte, reduceCtorEq, Int.reduceToNat, String.reduceEq]
  repeat refine And.intro (by first | omega | exact ⟨by omega, by omega⟩ | exact ⟨by omega, by omega, by omega⟩ | exact ⟨⟨by omega, by omega⟩, by omega, by omega⟩ | exact okDyn_num (fun x => x.i) (by kernel_rfl) | kernel_rfl | exact okDyn_num (fun _ => 0) (by kernel_rfl)) ?_
  refine loopK.intro _ _ (I := fun i : Nat => ⟨[none, some (.int .i64 n), some (.ptr ⟨L + 1, 0⟩ 0 0), none, some (.ptr ⟨L + 1, 32⟩ 0 0), some (.int .i64 ((1 + sz % 3300 : Nat) : Int)), some (.sl ⟨L + 1, 288⟩ 0 (1 + sz % 3300)), some (.int .i64 i), none, none, none, none, none, none, none, none, none, none, none, none, none, none, none, none, none, none, none, none, none, none, none, none, none, none, none, none, none, none, none, none, none, none, none, none, none, none],
    [(⟨L + 1, 0⟩, .rows 30 4 true true [[.int .u8 st, .int .u8 kd, .int .u16 sz, .bool lo]]), (⟨L + 1, 32⟩, .rows 37 4 true true [[.int .i64 0, .int .i64 0, .bool false, .str []]]), (⟨L + 1, 288⟩, .rows 5 1 true true (msgRow sz (1 + sz % 3300) i))], 1000 * (i + 1)⟩) (pre := fun i => i ≤ 1 + sz % 3300) (μ := fun i => 1 + sz % 3300 - i) 0 (by omega) ?_ ?_
  · refine Sub.of (fun n hn => hF2 n (by have : n.l = L + 1 := hn; omega)) (by simp only [go_sem, resVal, resVals, resVal1, one, Wk, WkL, WkLL, wkN, wkNL, wkNLL, UpdIn, UpdAll, BW, plainP, plainPL, subT, subH, subK, and_self, true_or, or_true, List.not_mem_nil, List.mem_cons, forall_eq, imp_self, implies_true, Nat.reduceSub, Nat.reduceAdd, Nat.reduceMul, Nat.reduceEqDiff, Nat.reduceLT, Nat.reduceLeDiff, Nat.reduceBEq, Nat.reduceBNe, reduceIte, reduceCtorEq, Int.reduceToNat, String.reduceEq, Int.natCast_zero]) ?_ (by simp only [go_sem, resVal, resVals, resVal1, one, Wk, WkL, WkLL, wkN, wkNL, wkNLL, UpdIn, UpdAll, BW, plainP, plainPL, subT, subH, subK, and_self, true_or, or_true, List.not_mem_nil, List.mem_cons, forall_eq, imp_self, implies_true, Nat.reduceSub, Nat.reduceAdd, Nat.reduceMul, Nat.reduceEqDiff, Nat.reduceLT, Nat.reduceLeDiff, Nat.reduceBEq, Nat.reduceBNe, reduceIte, reduceCtorEq, Int.reduceToNat, String.reduceEq]) (by simp)
    simp [subH, Tx.look, msgRow, List.map_const']
  · intro i hi
    have lr : (msgRow sz (1 + sz % 3300) i).length = 1 + sz % 3300 := by simp [msgRow]
    by_cases hlt : i < 1 + sz % 3300
    · have f1 : decide ((i : Int) < ((1 + sz % 3300 : Nat) : Int)) = true := dT (by omega)
      have t3 : ((i : Int).tdiv 7) = ((i / 7 : Nat) : Int) := rfl
      simp only [f1, lr, t3, List.length_map, Nat.add_zero, go_sem, Meths.get, meths, Nat.reduceSub, Nat.reduceAdd, Nat.reduceMul, Nat.reduceEqDiff, Nat.reduceLT, Nat.reduceLeDiff, Nat.reduceBEq, Nat.reduceBNe, reduceIte, reduceCtorEq, Int.reduceToNat, String.reduceEq]
      repeat refine And.intro (by first | omega | exact ⟨by omega, by omega⟩ | exact ⟨by omega, by omega, by omega⟩ | exact ⟨⟨by omega, by omega⟩, by omega, by omega⟩ | exact okDyn_num (fun x => x.i) (by kernel_rfl) | kernel_rfl | exact okDyn_num (fun _ => 0) (by kernel_rfl)) ?_
      refine ⟨i + 1, by omega, by omega, ?_⟩
      rw [msgRow_set _ _ _ hlt]
      refine Sub.of (fun n hn => hF2 n (by have : n.l = L + 1 := hn; omega)) (by simp only [go_sem, resVal, resVals, resVal1, one, Wk, WkL, WkLL, wkN, wkNL, wkNLL, UpdIn, UpdAll, BW, plainP, plainPL, subT, subH, subK, and_self, true_or, or_true, List.not_mem_nil, List.mem_cons, forall_eq, imp_self, implies_true, Nat.reduceSub, Nat.reduceAdd, Nat.reduceMul, Nat.reduceEqDiff, Nat.reduceLT, Nat.reduceLeDiff, Nat.reduceBEq, Nat.reduceBNe, reduceIte, reduceCtorEq, Int.reduceToNat, String.reduceEq, Int.natCast_succ]) ?_ (by simp only [go_sem, resVal, resVals, resVal1, one, Wk, WkL, WkLL, wkN, wkNL, wkNLL, UpdIn, UpdAll, BW, plainP, plainPL, subT, subH, subK, and_self, true_or, or_true, List.not_mem_nil, List.mem_cons, forall_eq, imp_self, implies_true, Nat.reduceSub, Nat.reduceAdd, Nat.reduceMul, Nat.reduceEqDiff, Nat.reduceLT, Nat.reduceLeDiff, Nat.reduceBEq, Nat.reduceBNe, reduceIte, reduceCtorEq, Int.reduceToNat, String.reduceEq]) (by simp; omega)
      simp [subH, Tx.look]
    · have f1 : decide ((i : Int) < ((1 + sz % 3300 : Nat) : Int)) = false := dF (by omega)
      have t3 : ((st : Int).tmod (max (n : Int) 1)) = ((st % n : Nat) : Int) := by rw [show max (n : Int) 1 = (n : Int) by omega]; rfl
      have t4 : ((kd : Int).tmod 4) = ((kd % 4 : Nat) : Int) := rfl
      have t6 : ((50 : Int) + ((kd % 4 : Nat) : Int)) = ((50 + kd % 4 : Nat) : Int) := by omega
      simp only [f1, lr, t3, t4, t6, List.length_map, Nat.add_zero, go_sem, Meths.get, meths, Nat.reduceSub, Nat.reduceAdd, Nat.reduceMul, Nat.reduceEqDiff, Nat.reduceLT, Nat.reduceLeDiff, Nat.reduceBEq, Nat.reduceBNe, reduceIte, reduceCtorEq, Int.reduceToNat, String.reduceEq]
      repeat refine And.intro (by first | omega | exact ⟨by omega, by omega⟩ | exact ⟨by omega, by omega, by omega⟩ | exact ⟨⟨by omega, by omega⟩, by omega, by omega⟩ | exact okDyn_num (fun x => x.i) (by kernel_rfl) | kernel_rfl | exact okDyn_num (fun _ => 0) (by kernel_rfl)) ?_
      have e : i = 1 + sz % 3300 := by omega
      subst e
      have t5 : List.take (1 + sz % 3300) (msgRow sz (1 + sz % 3300) (1 + sz % 3300)) = msgRow sz (1 + sz % 3300) (1 + sz % 3300) := List.take_of_length_le (by omega)
      rw [t5]
      refine ⟨⟨by omega, fun row hr => ?_⟩, okDyn_num (·.i) (by kernel_rfl), ?_⟩
      · simp only [msgRow, List.mem_map] at hr
        obtain ⟨j, _, rfl⟩ := hr
        exact ⟨_, rfl⟩
      · rw [msgRow_str]
        exact PostF.same (p := True) (.inr rfl) (by simp only [resVal, resVals, resVal1, one, msgText, Nat.add_zero, go_sem, Meths.get, meths, Nat.reduceSub, Nat.reduceAdd, Nat.reduceMul, Nat.reduceEqDiff, Nat.reduceLT, Nat.reduceLeDiff, Nat.reduceBEq, Nat.reduceBNe, reduceIte, reduceCtorEq, Int.reduceToNat, String.reduceEq]) trivial (by simp [Tx.nf, nfl]) (by simp [UpdAll, keys])
end Go.Proofs.Ytfhhbkehlfipgaa
end
