/- Lemmas for the walk: C0, C1, C2, C3, C4, D0. -/
import Derived.Test.YtfhhbkehlfipgaaTxTab
import Derived.Test.YtfhhbkehlfipgaaTxE
section
set_option linter.unusedSimpArgs false
set_option linter.unusedVariables false
set_option linter.unnecessarySimpa false
set_option linter.unusedSectionVars false
namespace Go.Proofs.Ytfhhbkehlfipgaa
open Go.Tx
theorem BN_dead {L nx : Nat} {news : List Nat} {G : SF} {ob : Option SBlk} : BN L nx news G ob .dead := by
  cases ob with
  | none => trivial
  | some b => cases b <;> trivial
theorem nB {i k : Nat} (h : k < 10000) : (10000 * (i + 1) = k) = False := by apply eq_false; omega
theorem nB' {i k : Nat} (h : k < 10000) : (k = 10000 * (i + 1)) = False := by apply eq_false; omega
end Go.Proofs.Ytfhhbkehlfipgaa
end

section
set_option linter.unusedSimpArgs false
set_option linter.unusedVariables false
set_option linter.unnecessarySimpa false
set_option linter.unusedSectionVars false
namespace Go.Proofs.Ytfhhbkehlfipgaa
open Go.Tx
set_option maxRecDepth 100000
set_option linter.unusedSimpArgs false
set_option linter.unusedVariables false
/-! streams.behind -/
theorem behind_ok {F : SF} {L nx : Nat} (x b : Int) (hx : 0 ≤ x) (hx2 : x ≤ 4294967295) (h0 : 0 ≤ b) (h1 : b ≤ 32) : Con Try.prog 44 [.int .i64 x, .int .i64 b] F L nx nx (.int .i64 ((x + 1) % 2 ^ b.toNat)) [] [] := by
  refine Con.body (cxOk (L + 1)) rfl rfl (fn := Try.f44) (c := Try.f44.body.getD .skip) (by kernel_rfl) (by rfl) (by kernel_rfl) rfl (by simp) ?_
  intro F3 hF1 hF2
  have e := shl1 h0 (by omega)
  have e2 := and_mask (x + 1) b.toNat (by omega)
  have e3 := pow_le h0 h1
  simp only [Try.f44, cx, e, e2, Nat.add_zero, go_sem, Meths.get, meths, Nat.reduceSub, Nat.reduceAdd, Nat.reduceMul, Nat.reduceEqDiff, Nat.reduceLT, Nat.reduceLeDiff, Nat.reduceBEq, Nat.reduceBNe, reduceIte, reduceCtorEq, Int.reduceToNat, String.reduceEq]
  exact ⟨⟨by omega, by omega⟩, h0, ⟨by omega, by omega⟩, .int (.inr rfl) rfl rfl trivial⟩
/-! octets.Ahead -/
def lead (x y b : Int) : Int := if (x - y) % 2 ^ b.toNat / 2 ^ (b - 1).toNat = 1 then (x - y) % 2 ^ b.toNat - 2 ^ b.toNat else (x - y) % 2 ^ b.toNat
theorem ahead_ok {F : SF} {L nx : Nat} (x y b : Int) (h0 : 1 ≤ b) (h1 : b ≤ 32) (hx : 0 ≤ x) (hx2 : x < 2 ^ b.toNat) (hy : 0 ≤ y) (hy2 : y < 2 ^ b.toNat) : Con Try.prog 85 [.int .i64 x, .int .i64 y, .int .i64 b] F L nx nx (.tup [.int .i64 (lead x y b), .int .i64 0]) [] [] := by
  refine Con.body (cxOk (L + 1)) rfl rfl (fn := Try.f85) (c := Try.f85.body.getD .skip) (by kernel_rfl) (by rfl) (by kernel_rfl) rfl (by simp) ?_
  intro F3 hF1 hF2
  have e := shl1 (b := b) (by omega) (by omega)
  have e2 := and_mask (x - y) b.toNat (by omega)
  have e3 := pow_le (b := b) (by omega) h1
  have e4 := shr_eq ((x - y) % 2 ^ b.toNat) (b := b - 1) (by omega) (by omega)
  have m0 := Int.emod_nonneg (x - y) (show (2 : Int) ^ b.toNat ≠ 0 by omega)
  have m1 := Int.emod_lt_of_pos (x - y) (show (0 : Int) < 2 ^ b.toNat by omega)
  have f1 := dF (show ¬ (b < 1) by omega)
  have f2 := dF (show ¬ (32 < b) by omega)
  have f3 := dF (show ¬ (x < 0) by omega)
  have f4 := dF (show ¬ (y < 0) by omega)
  have f5 := neF (shr0 (b := b) (by omega) (by omega) hx hx2)
  have f6 := neF (shr0 (b := b) (by omega) (by omega) hy hy2)
  by_cases hl : (x - y) % 2 ^ b.toNat / 2 ^ (b - 1).toNat = 1
  all_goals
    have g := hl
    first | (have g := eqT hl) | (have g := eqF hl)
    simp only [Try.f85, cx, e, e2, e4, f1, f2, f3, f4, f5, f6, g, Nat.add_zero, go_sem, Meths.get, meths, Nat.reduceSub, Nat.reduceAdd, Nat.reduceMul, Nat.reduceEqDiff, Nat.reduceLT, Nat.reduceLeDiff, Nat.reduceBEq, Nat.reduceBNe, reduceIte, reduceCtorEq, Int.reduceToNat, String.reduceEq]
    have i1 : Go.Sx.inI64 (x - y) := ⟨by omega, by omega⟩
    have i2 : Go.Sx.inI64 ((2 : Int) ^ b.toNat - 1) := ⟨by omega, by omega⟩
    have i3 : Go.Sx.inI64 (b - 1) := ⟨by omega, by omega⟩
    have i4 : Go.Sx.inI64 ((x - y) % 2 ^ b.toNat - 2 ^ b.toNat) := ⟨by omega, by omega⟩
    have i5 : 0 ≤ b := by omega
    have i6 : 0 ≤ b - 1 := by omega
    simp only [i1, i2, i3, i4, i5, i6, true_and]
    exact .of (.inr rfl) rfl ⟨trivial, trivial, trivial⟩ (by simp only [lead, hl, go_sem, resVal, resVals, resVal1, one, Wk, WkL, WkLL, wkN, wkNL, wkNLL, UpdIn, UpdAll, BW, plainP, plainPL, subT, subH, subK, and_self, true_or, or_true, List.not_mem_nil, List.mem_cons, forall_eq, imp_self, implies_true, Nat.reduceSub, Nat.reduceAdd, Nat.reduceMul, Nat.reduceEqDiff, Nat.reduceLT, Nat.reduceLeDiff, Nat.reduceBEq, Nat.reduceBNe, reduceIte, reduceCtorEq, Int.reduceToNat, String.reduceEq]) (by intro n hn; cases hn) rfl trivial trivial
/-! streams.lead -/
theorem lead_ok {F : SF} {L nx : Nat} (x y b : Int) (h0 : 1 ≤ b) (h1 : b ≤ 32) (hx : 0 ≤ x) (hx2 : x < 2 ^ b.toNat) (hy : 0 ≤ y) (hy2 : y < 2 ^ b.toNat) : Con Try.prog 48 [.int .i64 x, .int .i64 y, .int .i64 b] F L nx nx (.int .i64 (lead x y b)) [] [] := by
  refine Con.body (cxOk (L + 1)) rfl rfl (fn := Try.f48) (c := Try.f48.body.getD .skip) (by kernel_rfl) (by rfl) (by kernel_rfl) rfl (by simp) ?_
  intro F3 hF1 hF2
  simp only [Try.f48, cx, Nat.add_zero, go_sem, Meths.get, meths, Nat.reduceSub, Nat.reduceAdd, Nat.reduceMul, Nat.reduceEqDiff, Nat.reduceLT, Nat.reduceLeDiff, Nat.reduceBEq, Nat.reduceBNe, reduceIte, reduceCtorEq, Int.reduceToNat, String.reduceEq]
  refine CallVC.pure (args2 := [_, _, _]) ⟨rfl, rfl, rfl, trivial⟩ (ahead_ok x y b h0 h1 hx hx2 hy hy2) rfl ?_
  simp only [Nat.add_zero, go_sem, Meths.get, meths, Nat.reduceSub, Nat.reduceAdd, Nat.reduceMul, Nat.reduceEqDiff, Nat.reduceLT, Nat.reduceLeDiff, Nat.reduceBEq, Nat.reduceBNe, reduceIte, reduceCtorEq, Int.reduceToNat, String.reduceEq]
  exact .int (.inr rfl) rfl rfl trivial
end Go.Proofs.Ytfhhbkehlfipgaa
end

section
set_option linter.unusedSimpArgs false
set_option linter.unusedVariables false
set_option linter.unnecessarySimpa false
set_option linter.unusedSectionVars false
namespace Go.Proofs.Ytfhhbkehlfipgaa
open Go.Tx
set_option maxRecDepth 100000
set_option linter.unusedSimpArgs false
set_option linter.unusedVariables false
/-! slices.IndexFunc of ints -/
theorem indexFunc_ok {F : SF} {L nx : Nat} (xs : List Int) (g : FuncId) (fl cl : List PV) (p : Int → Bool) (rd : List Nm) (hrd : ∀ n ∈ rd, n.l ≤ L) (hlen : xs.length ≤ 1000000) (hcl : ∀ x ∈ xs, ∀ L' nx', L ≤ L' → Con Try.prog g (fl ++ [.int .i64 x] ++ cl) F L' nx' nx' (.bool (p x)) [] rd) :
    Con Try.prog 94 [.fs 1 (xs.map eI), .fn (.func g) fl cl] F L nx nx (.int .i64 (idxI p xs)) [] rd := by
  refine Con.body (cxOk (L + 1)) rfl rfl (fn := Try.f94) (c := Try.f94.body.getD .skip) (by kernel_rfl) (by rfl) (by kernel_rfl) rfl hrd ?_
  intro F3 hF1 hF2
  simp only [Try.f94, cx, Nat.add_zero, go_sem, Meths.get, meths, Nat.reduceSub, Nat.reduceAdd, Nat.reduceMul, Nat.reduceEqDiff, Nat.reduceLT, Nat.reduceLeDiff, Nat.reduceBEq, Nat.reduceBNe, reduceIte, reduceCtorEq, Int.reduceToNat, String.reduceEq]
  refine loopK.intro _ _ (I := fun i : Nat => ⟨[some (.fs 1 (xs.map eI)), some (.fn (.func g) fl cl), none, none, none, none, none, some (.int .i64 xs.length), some (.int .i64 i), none, none, none, none, none, none, none, none, none, none], [], 1000 * (i + 1)⟩) (pre := fun i => i ≤ xs.length ∧ ∀ (j : Nat) (hj : j < xs.length), j < i → p xs[j] = false) (μ := fun i => xs.length - i) 0 ⟨by omega, by intro j _ h; omega⟩ ?_ ?_
  · refine Sub.of (fun n hn => hF2 n (by have : n.l = L + 1 := hn; omega)) ?_ trivial trivial (by simp)
    simp only [go_sem, resVal, resVals, resVal1, one, Wk, WkL, WkLL, wkN, wkNL, wkNLL, UpdIn, UpdAll, BW, plainP, plainPL, subT, subH, subK, and_self, true_or, or_true, List.not_mem_nil, List.mem_cons, forall_eq, imp_self, implies_true, Nat.reduceSub, Nat.reduceAdd, Nat.reduceMul, Nat.reduceEqDiff, Nat.reduceLT, Nat.reduceLeDiff, Nat.reduceBEq, Nat.reduceBNe, reduceIte, reduceCtorEq, Int.reduceToNat, String.reduceEq, List.length_map, Int.natCast_zero]
  · rintro i ⟨hi, hp⟩
    by_cases hlt : i < xs.length
    · have g1 : decide ((i : Int) < (xs.length : Int)) = true := dT (by omega)
      have hx : xs.getD i 0 = xs[i] := by simp [hlt, List.getD_eq_getElem?_getD]
      simp only [g1, getD_eI xs hlt, eI, hx, Nat.add_zero, go_sem, Meths.get, meths, Nat.reduceSub, Nat.reduceAdd, Nat.reduceMul, Nat.reduceEqDiff, Nat.reduceLT, Nat.reduceLeDiff, Nat.reduceBEq, Nat.reduceBNe, reduceIte, reduceCtorEq, Int.reduceToNat, String.reduceEq]
      refine ⟨⟨by omega, by simp; omega⟩, by simp; exact hlt, CallVC.same ((hcl xs[i] (List.getElem_mem hlt) _ _ (by omega)).agree hF1) ?_⟩
      have i1 : Go.Sx.inI64 ((i : Int) + 1) := ⟨by omega, by omega⟩
      cases hpi : p xs[i]
      · simp only [Nat.add_zero, go_sem, Meths.get, meths, Nat.reduceSub, Nat.reduceAdd, Nat.reduceMul, Nat.reduceEqDiff, Nat.reduceLT, Nat.reduceLeDiff, Nat.reduceBEq, Nat.reduceBNe, reduceIte, reduceCtorEq, Int.reduceToNat, String.reduceEq]
        refine ⟨i1, i + 1, ⟨by omega, fun j hj hji => ?_⟩, by omega, Sub.of (fun n hn => hF2 n (by have : n.l = L + 1 := hn; omega)) ?_ trivial trivial (by simp; omega)⟩
        · by_cases he : j = i
          · subst he; exact hpi
          · exact hp j hj (by omega)
        · simp only [go_sem, resVal, resVals, resVal1, one, Wk, WkL, WkLL, wkN, wkNL, wkNLL, UpdIn, UpdAll, BW, plainP, plainPL, subT, subH, subK, and_self, true_or, or_true, List.not_mem_nil, List.mem_cons, forall_eq, imp_self, implies_true, Nat.reduceSub, Nat.reduceAdd, Nat.reduceMul, Nat.reduceEqDiff, Nat.reduceLT, Nat.reduceLeDiff, Nat.reduceBEq, Nat.reduceBNe, reduceIte, reduceCtorEq, Int.reduceToNat, String.reduceEq, Int.natCast_add, Int.cast_ofNat_Int]
      · simp only [Nat.add_zero, go_sem, Meths.get, meths, Nat.reduceSub, Nat.reduceAdd, Nat.reduceMul, Nat.reduceEqDiff, Nat.reduceLT, Nat.reduceLeDiff, Nat.reduceBEq, Nat.reduceBNe, reduceIte, reduceCtorEq, Int.reduceToNat, String.reduceEq]
        exact .int (.inr rfl) rfl (idxI_stop hlt hp hpi).symm trivial
    · have g1 : decide ((i : Int) < (xs.length : Int)) = false := dF (by omega)
      simp only [g1, Nat.add_zero, go_sem, Meths.get, meths, Nat.reduceSub, Nat.reduceAdd, Nat.reduceMul, Nat.reduceEqDiff, Nat.reduceLT, Nat.reduceLeDiff, Nat.reduceBEq, Nat.reduceBNe, reduceIte, reduceCtorEq, Int.reduceToNat, String.reduceEq]
      exact .int (.inr rfl) rfl (idxI_end (fun j hj => hp j hj (by omega))).symm trivial
end Go.Proofs.Ytfhhbkehlfipgaa
end

section
set_option linter.unusedSimpArgs false
set_option linter.unusedVariables false
set_option linter.unnecessarySimpa false
set_option linter.unusedSectionVars false
namespace Go.Proofs.Ytfhhbkehlfipgaa
open Go.Tx
set_option maxRecDepth 100000
set_option linter.unusedSimpArgs false
set_option linter.unusedVariables false
/-! slices.ContainsFunc of ints -/
theorem containsFunc_ok {F : SF} {L nx : Nat} (xs : List Int) (g : FuncId) (fl cl : List PV) (p : Int → Bool) (rd : List Nm) (hrd : ∀ n ∈ rd, n.l ≤ L) (hlen : xs.length ≤ 1000000) (hcl : ∀ x ∈ xs, ∀ L' nx', L ≤ L' → Con Try.prog g (fl ++ [.int .i64 x] ++ cl) F L' nx' nx' (.bool (p x)) [] rd) :
    Con Try.prog 66 [.fs 1 (xs.map eI), .fn (.func g) fl cl] F L nx nx (.bool (xs.any p)) [] rd := by
  refine Con.body (cxOk (L + 1)) rfl rfl (fn := Try.f66) (c := Try.f66.body.getD .skip) (by kernel_rfl) (by rfl) (by kernel_rfl) rfl hrd ?_
  intro F3 hF1 hF2
  simp only [Try.f66, cx, Nat.add_zero, go_sem, Meths.get, meths, Nat.reduceSub, Nat.reduceAdd, Nat.reduceMul, Nat.reduceEqDiff, Nat.reduceLT, Nat.reduceLeDiff, Nat.reduceBEq, Nat.reduceBNe, reduceIte, reduceCtorEq, Int.reduceToNat, String.reduceEq]
  refine CallVC.same ((indexFunc_ok xs g fl cl p rd (fun n hn => by have := hrd n hn; omega) hlen (fun x hx L' nx' hL => hcl x hx L' nx' (by omega))).agree hF1) ?_
  simp only [Nat.add_zero, go_sem, Meths.get, meths, Nat.reduceSub, Nat.reduceAdd, Nat.reduceMul, Nat.reduceEqDiff, Nat.reduceLT, Nat.reduceLeDiff, Nat.reduceBEq, Nat.reduceBNe, reduceIte, reduceCtorEq, Int.reduceToNat, String.reduceEq]
  exact .bool (.inr rfl) rfl (idxI_any p xs) trivial
/-! streams.serial$1 -/
def serB (b x : Int) : Bool := decide (0 ≤ x) && decide (x < 2 ^ b.toNat)
theorem serial1_ok {F : SF} {L nx : Nat} (x b : Int) (n : Nm) (e : TypeId) (o p : Bool) (hn : n.l ≤ L) (hF : F n = some (.rows e 1 o p [[.int .i64 b]])) (h0 : 0 ≤ b) (h1 : b ≤ 32) : Con Try.prog 81 [.int .i64 x, .ptr n 0 0] F L nx nx (.bool (!serB b x)) [] [n] := by
  refine Con.body (cxOk (L + 1)) rfl rfl (fn := Try.f81) (c := Try.f81.body.getD .skip) (by kernel_rfl) (by rfl) (by kernel_rfl) rfl (by simpa using hn) ?_
  intro F3 hF1 hF2
  have hF := (hF1 n (by simp)).trans hF
  have e3 := pow_le h0 h1
  by_cases hx : x < 0
  · have f1 := dT hx
    simp only [Try.f81, cx, hF, f1, Nat.add_zero, go_sem, Meths.get, meths, Nat.reduceSub, Nat.reduceAdd, Nat.reduceMul, Nat.reduceEqDiff, Nat.reduceLT, Nat.reduceLeDiff, Nat.reduceBEq, Nat.reduceBNe, reduceIte, reduceCtorEq, Int.reduceToNat, String.reduceEq]
    exact .bool (.inr rfl) rfl (by simp [serB]; omega) trivial
  · have f1 := dF hx
    have f2 := shr_eq x h0 (by omega)
    by_cases hb : x < 2 ^ b.toNat
    · have f3 := neF (shr0 h0 (by omega) (by omega) hb)
      simp only [Try.f81, cx, hF, f1, f3, Nat.add_zero, go_sem, Meths.get, meths, Nat.reduceSub, Nat.reduceAdd, Nat.reduceMul, Nat.reduceEqDiff, Nat.reduceLT, Nat.reduceLeDiff, Nat.reduceBEq, Nat.reduceBNe, reduceIte, reduceCtorEq, Int.reduceToNat, String.reduceEq]
      exact ⟨h0, .bool (.inr rfl) rfl (by simp [serB]; omega) trivial⟩
    · have f3 : (x.fdiv (2 ^ min b.toNat 64) != 0) = true := neT (by
        rw [f2]
        have := Int.le_ediv_of_mul_le (show (0 : Int) < 2 ^ b.toNat by omega) (show 1 * 2 ^ b.toNat ≤ x by omega)
        omega)
      simp only [Try.f81, cx, hF, f1, f3, Nat.add_zero, go_sem, Meths.get, meths, Nat.reduceSub, Nat.reduceAdd, Nat.reduceMul, Nat.reduceEqDiff, Nat.reduceLT, Nat.reduceLeDiff, Nat.reduceBEq, Nat.reduceBNe, reduceIte, reduceCtorEq, Int.reduceToNat, String.reduceEq]
      exact ⟨h0, .bool (.inr rfl) rfl (by simp [serB]; omega) trivial⟩
/-! streams.serial -/
theorem serial_ok {F : SF} {L nx : Nat} (b : Int) (xs : List Int) (h0 : 0 ≤ b) (h1 : b ≤ 32) (hlen : xs.length ≤ 1000000) : Con Try.prog 42 [.int .i64 b, .fs 1 (xs.map eI)] F L nx nx (.bool (xs.all (serB b))) [] [] := by
  refine Con.body (cxOk (L + 1)) rfl rfl (fn := Try.f42) (c := Try.f42.body.getD .skip) (by kernel_rfl) (by rfl) (by kernel_rfl) rfl (by simp) ?_
  intro F3 hF1 hF2
  simp only [Try.f42, cx, Nat.add_zero, go_sem, Meths.get, meths, Nat.reduceSub, Nat.reduceAdd, Nat.reduceMul, Nat.reduceEqDiff, Nat.reduceLT, Nat.reduceLeDiff, Nat.reduceBEq, Nat.reduceBNe, reduceIte, reduceCtorEq, Int.reduceToNat, String.reduceEq]
  refine CallVC.same (containsFunc_ok xs 81 [] [.ptr ⟨L + 1, 0⟩ 0 0] (fun x => !serB b x) [⟨L + 1, 0⟩] (by simp) hlen (fun x hx L' nx' hL => serial1_ok x b ⟨L + 1, 0⟩ 3 true true hL (by simp) h0 h1)) ?_
  simp only [Nat.add_zero, go_sem, Meths.get, meths, Nat.reduceSub, Nat.reduceAdd, Nat.reduceMul, Nat.reduceEqDiff, Nat.reduceLT, Nat.reduceLeDiff, Nat.reduceBEq, Nat.reduceBNe, reduceIte, reduceCtorEq, Int.reduceToNat, String.reduceEq]
  exact .bool (.inr rfl) rfl (by rw [List.all_eq_not_any_not]) ⟨.inl rfl, trivial⟩
/-! streams.listed -/
def okAt (xs : List Int) (n : Int) (i : Nat) : Bool := decide (0 ≤ xs.getD i 0) && decide (xs.getD i 0 < n) && (i == 0 || decide (xs.getD (i - 1) 0 < xs.getD i 0))
def listedB (xs : List Int) (n : Int) : Bool := (List.range xs.length).all (okAt xs n)
theorem listed_ok {F : SF} {L nx : Nat} (xs : List Int) (n : Int) (hlen : xs.length ≤ 1000000) : Con Try.prog 46 [.fs 1 (xs.map eI), .int .i64 n] F L nx nx (.bool (listedB xs n)) [] [] := by
  refine Con.body (cxOk (L + 1)) rfl rfl (fn := Try.f46) (c := Try.f46.body.getD .skip) (by kernel_rfl) (by rfl) (by kernel_rfl) rfl (by simp) ?_
  intro F3 hF1 hF2
  simp only [Try.f46, cx, Nat.add_zero, go_sem, Meths.get, meths, Nat.reduceSub, Nat.reduceAdd, Nat.reduceMul, Nat.reduceEqDiff, Nat.reduceLT, Nat.reduceLeDiff, Nat.reduceBEq, Nat.reduceBNe, reduceIte, reduceCtorEq, Int.reduceToNat, String.reduceEq]
  refine loopK.intro _ _ (I := fun i : Nat => ⟨[some (.fs 1 (xs.map eI)), some (.int .i64 n), none, none, none, none, none, some (.fs 1 (xs.map eI)), some (.int .i64 xs.length), some (.int .i64 i), none, none, none, none, none, none, none, none, none, none, none, none, none, none, none, none, none, none, none, none, none, none, none, none, none], [], 1000 * (i + 1)⟩) (pre := fun i => i ≤ xs.length ∧ ∀ j, j < i → okAt xs n j = true) (μ := fun i => xs.length - i) 0 ⟨by omega, by intro j h; omega⟩ ?_ ?_
  · exact Sub.of (fun n hn => hF2 n (by have : n.l = L + 1 := hn; omega)) (by simp only [go_sem, resVal, resVals, resVal1, one, Wk, WkL, WkLL, wkN, wkNL, wkNLL, UpdIn, UpdAll, BW, plainP, plainPL, subT, subH, subK, and_self, true_or, or_true, List.not_mem_nil, List.mem_cons, forall_eq, imp_self, implies_true, Nat.reduceSub, Nat.reduceAdd, Nat.reduceMul, Nat.reduceEqDiff, Nat.reduceLT, Nat.reduceLeDiff, Nat.reduceBEq, Nat.reduceBNe, reduceIte, reduceCtorEq, Int.reduceToNat, String.reduceEq, List.length_map, Int.natCast_zero]) trivial trivial (by simp)
  · rintro i ⟨hi, hp⟩
    by_cases hlt : i < xs.length
    · have g1 : decide ((i : Int) < (xs.length : Int)) = true := dT (by omega)
      have e1 : ((i : Int) - 1).toNat = i - 1 := by omega
      have i1 : Go.Sx.inI64 ((i : Int) + 1) := ⟨by omega, by omega⟩
      have i2 : Go.Sx.inI64 ((i : Int) - 1) := ⟨by omega, by omega⟩
      have r0 := getD_eI xs hlt
      have r1 := getD_eI xs (i := i - 1) (by omega)
      have hl := len_eI xs
      have no : okAt xs n i = false → listedB xs n = false := by
        intro h
        unfold listedB
        rw [List.all_eq_false]
        exact ⟨i, by simpa using hlt, by simp [h]⟩
      have yes : okAt xs n i = true → ∀ j, j < i + 1 → okAt xs n j = true := by
        intro h j hj
        by_cases he : j = i
        · subst he; exact h
        · exact hp j (by omega)
      by_cases c1 : xs.getD i 0 < 0
      · have f1 := dT c1
        simp only [g1, r0, eI, f1, hl, Nat.add_zero, go_sem, Meths.get, meths, Nat.reduceSub, Nat.reduceAdd, Nat.reduceMul, Nat.reduceEqDiff, Nat.reduceLT, Nat.reduceLeDiff, Nat.reduceBEq, Nat.reduceBNe, reduceIte, reduceCtorEq, Int.reduceToNat, String.reduceEq]
        exact ⟨⟨by omega, by omega⟩, hlt, .bool (.inr rfl) rfl (no (by simp only [okAt]; rw [dF (by omega)]; rfl)).symm trivial⟩
      have f1 := dF c1
      by_cases c2 : n ≤ xs.getD i 0
      · have f2 := dT c2
        simp only [g1, r0, eI, f1, f2, hl, Nat.add_zero, go_sem, Meths.get, meths, Nat.reduceSub, Nat.reduceAdd, Nat.reduceMul, Nat.reduceEqDiff, Nat.reduceLT, Nat.reduceLeDiff, Nat.reduceBEq, Nat.reduceBNe, reduceIte, reduceCtorEq, Int.reduceToNat, String.reduceEq]
        exact ⟨⟨by omega, by omega⟩, hlt, .bool (.inr rfl) rfl (no (by simp only [okAt]; rw [dF (show ¬ xs.getD i 0 < n by omega)]; simp)).symm trivial⟩
      have f2 := dF c2
      by_cases c3 : i = 0
      · have f3 : decide ((0 : Int) < (i : Int)) = false := dF (by omega)
        simp only [g1, r0, eI, f1, f2, f3, hl, Nat.add_zero, go_sem, Meths.get, meths, Nat.reduceSub, Nat.reduceAdd, Nat.reduceMul, Nat.reduceEqDiff, Nat.reduceLT, Nat.reduceLeDiff, Nat.reduceBEq, Nat.reduceBNe, reduceIte, reduceCtorEq, Int.reduceToNat, String.reduceEq]
        exact ⟨⟨by omega, by omega⟩, hlt, i1, i + 1, ⟨by omega, yes (by simp [okAt, c3] at c1 c2 ⊢; omega)⟩, by omega, Sub.of (fun n hn => hF2 n (by have : n.l = L + 1 := hn; omega)) (by simp only [go_sem, resVal, resVals, resVal1, one, Wk, WkL, WkLL, wkN, wkNL, wkNLL, UpdIn, UpdAll, BW, plainP, plainPL, subT, subH, subK, and_self, true_or, or_true, List.not_mem_nil, List.mem_cons, forall_eq, imp_self, implies_true, Nat.reduceSub, Nat.reduceAdd, Nat.reduceMul, Nat.reduceEqDiff, Nat.reduceLT, Nat.reduceLeDiff, Nat.reduceBEq, Nat.reduceBNe, reduceIte, reduceCtorEq, Int.reduceToNat, String.reduceEq, Int.natCast_add, Int.cast_ofNat_Int]) trivial trivial (by simp; omega)⟩
      · have f3 : decide ((0 : Int) < (i : Int)) = true := dT (by omega)
        by_cases c4 : xs.getD i 0 ≤ xs.getD (i - 1) 0
        · have f4 := dT c4
          simp only [g1, r0, r1, e1, eI, f1, f2, f3, f4, hl, Nat.add_zero, go_sem, Meths.get, meths, Nat.reduceSub, Nat.reduceAdd, Nat.reduceMul, Nat.reduceEqDiff, Nat.reduceLT, Nat.reduceLeDiff, Nat.reduceBEq, Nat.reduceBNe, reduceIte, reduceCtorEq, Int.reduceToNat, String.reduceEq]
          refine ⟨⟨by omega, by omega⟩, hlt, i2, ⟨by omega, by omega⟩, by omega, .bool (.inr rfl) rfl (no ?_).symm trivial⟩
          simp only [okAt]
          rw [dF (show ¬ xs.getD (i - 1) 0 < xs.getD i 0 by omega)]
          simp [c3]
        · have f4 := dF c4
          simp only [g1, r0, r1, e1, eI, f1, f2, f3, f4, hl, Nat.add_zero, go_sem, Meths.get, meths, Nat.reduceSub, Nat.reduceAdd, Nat.reduceMul, Nat.reduceEqDiff, Nat.reduceLT, Nat.reduceLeDiff, Nat.reduceBEq, Nat.reduceBNe, reduceIte, reduceCtorEq, Int.reduceToNat, String.reduceEq]
          refine ⟨⟨by omega, by omega⟩, hlt, i2, ⟨by omega, by omega⟩, by omega, i1, i + 1, ⟨by omega, yes ?_⟩, by omega, Sub.of (fun n hn => hF2 n (by have : n.l = L + 1 := hn; omega)) (by simp only [go_sem, resVal, resVals, resVal1, one, Wk, WkL, WkLL, wkN, wkNL, wkNLL, UpdIn, UpdAll, BW, plainP, plainPL, subT, subH, subK, and_self, true_or, or_true, List.not_mem_nil, List.mem_cons, forall_eq, imp_self, implies_true, Nat.reduceSub, Nat.reduceAdd, Nat.reduceMul, Nat.reduceEqDiff, Nat.reduceLT, Nat.reduceLeDiff, Nat.reduceBEq, Nat.reduceBNe, reduceIte, reduceCtorEq, Int.reduceToNat, String.reduceEq, Int.natCast_add, Int.cast_ofNat_Int]) trivial trivial (by simp; omega)⟩
          simp only [okAt]
          rw [dT (show xs.getD (i - 1) 0 < xs.getD i 0 by omega), dT (show 0 ≤ xs.getD i 0 by omega), dT (show xs.getD i 0 < n by omega)]
          simp
    · have g1 : decide ((i : Int) < (xs.length : Int)) = false := dF (by omega)
      simp only [g1, Nat.add_zero, go_sem, Meths.get, meths, Nat.reduceSub, Nat.reduceAdd, Nat.reduceMul, Nat.reduceEqDiff, Nat.reduceLT, Nat.reduceLeDiff, Nat.reduceBEq, Nat.reduceBNe, reduceIte, reduceCtorEq, Int.reduceToNat, String.reduceEq]
      refine .bool (.inr rfl) rfl ?_ trivial
      symm
      unfold listedB
      rw [List.all_eq_true]
      intro j hj
      exact hp j (by have := List.mem_range.1 hj; omega)
/-! slices.Index of ints -/
theorem index_ok {F : SF} {L nx : Nat} (xs : List Int) (y : Int) (hlen : xs.length ≤ 1000000) : Con Try.prog 82 [.fs 1 (xs.map eI), .int .i64 y] F L nx nx (.int .i64 (idxI (fun x => y == x) xs)) [] [] := by
  refine Con.body (cxOk (L + 1)) rfl rfl (fn := Try.f82) (c := Try.f82.body.getD .skip) (by kernel_rfl) (by rfl) (by kernel_rfl) rfl (by simp) ?_
  intro F3 hF1 hF2
  simp only [Try.f82, cx, Nat.add_zero, go_sem, Meths.get, meths, Nat.reduceSub, Nat.reduceAdd, Nat.reduceMul, Nat.reduceEqDiff, Nat.reduceLT, Nat.reduceLeDiff, Nat.reduceBEq, Nat.reduceBNe, reduceIte, reduceCtorEq, Int.reduceToNat, String.reduceEq]
  refine loopK.intro _ _ (I := fun i : Nat => ⟨[some (.fs 1 (xs.map eI)), some (.int .i64 y), none, none, none, none, none, some (.int .i64 xs.length), some (.int .i64 i), none, none, none, none, none, none, none, none, none, none], [], 1000 * (i + 1)⟩) (pre := fun i => i ≤ xs.length ∧ ∀ (j : Nat) (hj : j < xs.length), j < i → (y == xs[j]) = false) (μ := fun i => xs.length - i) 0 ⟨by omega, by intro j _ h; omega⟩ ?_ ?_
  · exact Sub.of (fun n hn => hF2 n (by have : n.l = L + 1 := hn; omega)) (by simp only [go_sem, resVal, resVals, resVal1, one, Wk, WkL, WkLL, wkN, wkNL, wkNLL, UpdIn, UpdAll, BW, plainP, plainPL, subT, subH, subK, and_self, true_or, or_true, List.not_mem_nil, List.mem_cons, forall_eq, imp_self, implies_true, Nat.reduceSub, Nat.reduceAdd, Nat.reduceMul, Nat.reduceEqDiff, Nat.reduceLT, Nat.reduceLeDiff, Nat.reduceBEq, Nat.reduceBNe, reduceIte, reduceCtorEq, Int.reduceToNat, String.reduceEq, List.length_map, Int.natCast_zero]) trivial trivial (by simp)
  · rintro i ⟨hi, hp⟩
    by_cases hlt : i < xs.length
    · have g1 : decide ((i : Int) < (xs.length : Int)) = true := dT (by omega)
      have hx : xs.getD i 0 = xs[i] := by simp [hlt, List.getD_eq_getElem?_getD]
      have i1 : Go.Sx.inI64 ((i : Int) + 1) := ⟨by omega, by omega⟩
      have hl := len_eI xs
      cases hpi : (y == xs[i])
      · simp only [g1, getD_eI xs hlt, eI, hx, hpi, hl, Nat.add_zero, go_sem, Meths.get, meths, Nat.reduceSub, Nat.reduceAdd, Nat.reduceMul, Nat.reduceEqDiff, Nat.reduceLT, Nat.reduceLeDiff, Nat.reduceBEq, Nat.reduceBNe, reduceIte, reduceCtorEq, Int.reduceToNat, String.reduceEq]
        refine ⟨⟨by omega, by omega⟩, hlt, i1, i + 1, ⟨by omega, fun j hj hji => ?_⟩, by omega, Sub.of (fun n hn => hF2 n (by have : n.l = L + 1 := hn; omega)) (by simp only [go_sem, resVal, resVals, resVal1, one, Wk, WkL, WkLL, wkN, wkNL, wkNLL, UpdIn, UpdAll, BW, plainP, plainPL, subT, subH, subK, and_self, true_or, or_true, List.not_mem_nil, List.mem_cons, forall_eq, imp_self, implies_true, Nat.reduceSub, Nat.reduceAdd, Nat.reduceMul, Nat.reduceEqDiff, Nat.reduceLT, Nat.reduceLeDiff, Nat.reduceBEq, Nat.reduceBNe, reduceIte, reduceCtorEq, Int.reduceToNat, String.reduceEq, Int.natCast_add, Int.cast_ofNat_Int]) trivial trivial (by simp; omega)⟩
        by_cases he : j = i
        · subst he; exact hpi
        · exact hp j hj (by omega)
      · simp only [g1, getD_eI xs hlt, eI, hx, hpi, hl, Nat.add_zero, go_sem, Meths.get, meths, Nat.reduceSub, Nat.reduceAdd, Nat.reduceMul, Nat.reduceEqDiff, Nat.reduceLT, Nat.reduceLeDiff, Nat.reduceBEq, Nat.reduceBNe, reduceIte, reduceCtorEq, Int.reduceToNat, String.reduceEq]
        exact ⟨⟨by omega, by omega⟩, hlt, .int (.inr rfl) rfl (idxI_stop hlt hp hpi).symm trivial⟩
    · have g1 : decide ((i : Int) < (xs.length : Int)) = false := dF (by omega)
      simp only [g1, Nat.add_zero, go_sem, Meths.get, meths, Nat.reduceSub, Nat.reduceAdd, Nat.reduceMul, Nat.reduceEqDiff, Nat.reduceLT, Nat.reduceLeDiff, Nat.reduceBEq, Nat.reduceBNe, reduceIte, reduceCtorEq, Int.reduceToNat, String.reduceEq]
      exact .int (.inr rfl) rfl (idxI_end (fun j hj => hp j hj (by omega))).symm trivial
/-! slices.Contains of ints -/
theorem contains_ok {F : SF} {L nx : Nat} (xs : List Int) (y : Int) (hlen : xs.length ≤ 1000000) : Con Try.prog 43 [.fs 1 (xs.map eI), .int .i64 y] F L nx nx (.bool (xs.any fun x => y == x)) [] [] := by
  refine Con.body (cxOk (L + 1)) rfl rfl (fn := Try.f43) (c := Try.f43.body.getD .skip) (by kernel_rfl) (by rfl) (by kernel_rfl) rfl (by simp) ?_
  intro F3 hF1 hF2
  simp only [Try.f43, cx, Nat.add_zero, go_sem, Meths.get, meths, Nat.reduceSub, Nat.reduceAdd, Nat.reduceMul, Nat.reduceEqDiff, Nat.reduceLT, Nat.reduceLeDiff, Nat.reduceBEq, Nat.reduceBNe, reduceIte, reduceCtorEq, Int.reduceToNat, String.reduceEq]
  refine CallVC.same (index_ok xs y hlen) ?_
  simp only [Nat.add_zero, go_sem, Meths.get, meths, Nat.reduceSub, Nat.reduceAdd, Nat.reduceMul, Nat.reduceEqDiff, Nat.reduceLT, Nat.reduceLeDiff, Nat.reduceBEq, Nat.reduceBNe, reduceIte, reduceCtorEq, Int.reduceToNat, String.reduceEq]
  exact .bool (.inr rfl) rfl (idxI_any _ xs) trivial
end Go.Proofs.Ytfhhbkehlfipgaa
end

section
set_option linter.unusedSimpArgs false
set_option linter.unusedVariables false
set_option linter.unnecessarySimpa false
set_option linter.unusedSectionVars false
namespace Go.Proofs.Ytfhhbkehlfipgaa
open Go.Tx
set_option maxRecDepth 100000
set_option linter.unusedSimpArgs false
set_option linter.unusedVariables false
/-! slices.Clone of ints -/
theorem cloneI_ok {F : SF} {L nx : Nat} (xs : List Int) (hlen : xs.length ≤ 1000000) :
    Con Try.prog 13 [.fs 1 (xs.map eI)] F L nx (nx + 1) (.sl ⟨L, nx⟩ 0 xs.length) [(⟨L, nx⟩, .rows 3 1 true true (xs.map eI))] [] := by
  refine Con.bodyN (cxOk (L + 1)) rfl rfl (fn := Try.f13) (c := Try.f13.body.getD .skip) (by kernel_rfl) (by rfl) (by kernel_rfl) rfl (by simp) ?_
  intro F3 hF1 hF2
  simp only [Try.f13, cx, Nat.add_zero, go_sem, Meths.get, meths, Nat.reduceSub, Nat.reduceAdd, Nat.reduceMul, Nat.reduceEqDiff, Nat.reduceLT, Nat.reduceLeDiff, Nat.reduceBEq, Nat.reduceBNe, reduceIte, reduceCtorEq, Int.reduceToNat, String.reduceEq]
  refine nilK.intro fun b hb => ?_
  cases b with
  | true =>
    have hx := hb rfl
    simp only [List.length_map, List.length_eq_zero_iff] at hx
    subst hx
    simp only [Nat.add_zero, go_sem, Meths.get, meths, Nat.reduceSub, Nat.reduceAdd, Nat.reduceMul, Nat.reduceEqDiff, Nat.reduceLT, Nat.reduceLeDiff, Nat.reduceBEq, Nat.reduceBNe, reduceIte, reduceCtorEq, Int.reduceToNat, String.reduceEq]
    refine ⟨_, Sub.nilName 2 3 (wd := 1) (by omega) rfl, .sl1 (g := 96) (.inr rfl) rfl ⟨trivial, trivial⟩ ?_ ⟨.inl rfl, trivial⟩⟩
    simp [updH, setH, Tx.look]
  | false =>
    simp only [Nat.add_zero, go_sem, Meths.get, meths, Nat.reduceSub, Nat.reduceAdd, Nat.reduceMul, Nat.reduceEqDiff, Nat.reduceLT, Nat.reduceLeDiff, Nat.reduceBEq, Nat.reduceBNe, reduceIte, reduceCtorEq, Int.reduceToNat, String.reduceEq]
    rw [List.length_map]
    exact ⟨⟨by omega, by omega⟩, .now (.sl1 (g := 128) (.inr rfl) rfl ⟨trivial, trivial⟩ (by simp [Tx.look]) ⟨.inl rfl, .inl rfl, trivial⟩)⟩
end Go.Proofs.Ytfhhbkehlfipgaa
end

section
set_option linter.unusedSimpArgs false
set_option linter.unusedVariables false
set_option linter.unnecessarySimpa false
set_option linter.unusedSectionVars false
namespace Go.Proofs.Ytfhhbkehlfipgaa
open Go.Tx
set_option maxRecDepth 100000
set_option linter.unusedSimpArgs false
set_option linter.unusedVariables false
/-! pieces, messages, and what the functions of streams compute of them -/
structure Dat where
  tsn : Int
  st : Int
  sq : Int
  pr : Int
  fi : Bool
  la : Bool
  lo : Bool
  pl : List UInt8
  deriving DecidableEq, Inhabited
def Dat.row (d : Dat) : List PV := [.int .i64 d.tsn, .int .i64 d.st, .int .i64 d.sq, .int .i64 d.pr, .bool d.fi, .bool d.la, .bool d.lo, .str d.pl]
def Dat.ok (d : Dat) : Bool := (serB 32 d.tsn && serB 32 d.pr) && ((serB 16 d.st && serB 16 d.sq) && (decide (1 ≤ (d.pl.length : Int)) && (decide ((d.pl.length : Int) ≤ 1100) && (!d.lo || d.sq == 0))))
structure Msg where
  st : Int
  pr : Int
  lo : Bool
  tx : List UInt8
  deriving DecidableEq, Inhabited
def Msg.row (m : Msg) : List PV := [.int .i64 m.st, .int .i64 m.pr, .bool m.lo, .str m.tx]
def Msg.zero : Msg := ⟨0, 0, false, []⟩
/-- The piece with a number. -/
def getT (ps : List Dat) (t : Int) : Option Dat := ps.find? fun d => d.tsn == t
/-- The message that goes on with a piece; what of it there is already. -/
def compG (ps : List Dat) (f : Dat) : Nat → Dat → List UInt8 → List Int → Option (List UInt8 × List Int)
  | 0, _, _, _ => none
  | k + 1, d, tx, ns =>
    if d.st != f.st || d.sq != f.sq || d.lo != f.lo || (d.fi && !ns.isEmpty) || ns.contains d.tsn then none
    else if d.la then some (tx ++ d.pl, ns ++ [d.tsn])
    else match getT ps ((d.tsn + 1) % 4294967296) with
      | none => none
      | some d' => compG ps f k d' (tx ++ d.pl) (ns ++ [d.tsn])
def complete (ps : List Dat) (f : Dat) : Option (Msg × List Int) :=
  if f.fi then (compG ps f (ps.length + 1) f [] []).map fun x => (⟨f.st, f.pr, f.lo, x.1⟩, x.2) else none
def dueG (inn : List Int) (ps : List Dat) : Option (Msg × List Int) :=
  ps.findSome? fun d => if !d.lo && d.sq != inn.getD d.st.toNat 0 then none else complete ps d
def withoutG (ps : List Dat) (h : Dat → Bool) : List Dat := ps.filter fun d => !h d
/-- What stays when a stream goes on. -/
def oldB (inn : List Int) (st : Int) (d : Dat) : Bool := d.st == st && !d.lo && decide (lead d.sq (inn.getD st.toNat 0) 16 < 0)
def nextI (inn : List Int) (st sq : Int) : List Int := inn.set st.toNat ((sq + 1) % 65536)
def nextP (inn : List Int) (ps : List Dat) (st sq : Int) : List Dat := withoutG ps (oldB (nextI inn st sq) st)
def delG : Nat → List Int → List Dat → List Msg → List Int × List Dat × List Msg
  | 0, inn, ps, out => (inn, ps, out)
  | k + 1, inn, ps, out =>
    match dueG inn ps with
    | none => (inn, ps, out)
    | some (m, ns) =>
      let ps2 := withoutG ps fun d => ns.contains d.tsn
      if m.lo then delG k inn ps2 (out ++ [m])
      else delG k (nextI inn m.st (inn.getD m.st.toNat 0)) (nextP inn ps2 m.st (inn.getD m.st.toNat 0)) (out ++ [m])
/-- A state's pieces that wait, as Check wants them. -/
def partOk (inn : List Int) (d : Dat) : Bool := d.ok && decide (d.st < inn.length) && (d.lo || decide (0 ≤ lead d.sq (inn.getD d.st.toNat 0) 16))
structure PsOk (inn : List Int) (ps : List Dat) : Prop where
  len : ps.length ≤ 80
  all : ∀ d ∈ ps, partOk inn d = true
  nodup : (ps.map Dat.tsn).Nodup
theorem getT_mem {ps : List Dat} {t : Int} {d : Dat} (h : getT ps t = some d) : d ∈ ps ∧ d.tsn = t := by
  unfold getT at h
  exact ⟨List.mem_of_find?_eq_some h, by simpa using List.find?_some h⟩
theorem nodup_sub {α : Type} [DecidableEq α] : ∀ {l m : List α}, l.Nodup → (∀ x ∈ l, x ∈ m) → l.length ≤ m.length
  | [], m, _, _ => Nat.zero_le _
  | a :: l, m, h, hs => by
    have ha : a ∈ m := hs a (by simp)
    have h2 := List.nodup_cons.1 h
    have := nodup_sub (l := l) (m := m.erase a) h2.2 (fun x hx => (List.mem_erase_of_ne (by rintro rfl; exact h2.1 hx)).2 (hs x (by simp [hx])))
    rw [List.length_erase_of_mem ha] at this
    have h3 : 0 < m.length := List.length_pos_of_mem ha
    simp only [List.length_cons]; omega
end Go.Proofs.Ytfhhbkehlfipgaa
end
