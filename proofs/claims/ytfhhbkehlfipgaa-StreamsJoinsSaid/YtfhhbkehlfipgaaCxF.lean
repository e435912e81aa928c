/- Lemmas for the walk: C12, C13, C14. -/
import Derived.Test.YtfhhbkehlfipgaaCxD
section
set_option linter.unusedSimpArgs false
set_option linter.unusedVariables false
set_option linter.unnecessarySimpa false
set_option linter.unusedSectionVars false
namespace Go.Proofs.Ytfhhbkehlfipgaa
open Go.Tx
set_option maxRecDepth 100000
set_option maxHeartbeats 1000000
set_option linter.unusedSimpArgs false
set_option linter.unusedVariables false
theorem kp_out {L nx : Nat} {news : List Nat} {n : Nm} (h : n.l < L ∨ n.i < nx ∨ news = []) : kp L nx news n = n := by
  unfold kp
  rw [if_neg]
  rintro ⟨h1, h2, h3⟩
  rcases h with h | h | h
  · omega
  · omega
  · subst h; simp at h3; omega
theorem kp_nil {L nx : Nat} {n : Nm} : kp L nx [] n = n := kp_out (.inr (.inr rfl))
theorem sg_out {L nx : Nat} {news : List Nat} {n : Nm} (h : n.l ≤ L) : sg L nx news n = n := by unfold sg; rw [if_neg (by omega)]
/-! strings.Builder: what chunk's buffers need -/
theorem noEscape_ok {F : SF} {L nx : Nat} (n : Nm) (r c : Nat) : Con Try.prog 102 [.ptr n r c] F L nx nx (.ptr n r c) [] [] := by
  refine ⟨Nat.le_refl _, fun F2 h2 E w args' hR hf hd hv => ?_⟩
  simp only [VRl] at hv
  obtain ⟨v, t, rfl, h1, rfl⟩ := hv
  have hr : (callFunc 102 [v].toArray).run Try.prog w = .ok (.value v) w := by rfl
  rw [hr]
  exact ⟨E, h1, StepR.refl hR, fun n a b => absurd a b⟩
theorem copyCheck0_ok {F : SF} {L nx : Nat} (n : Nm) (e : TypeId) (he : e = 181 ∨ e = 147) (p : Bool) (hn : n.l ≤ L) (hF : F n = some (.rows e 2 true p [[.nilP, .nilS]])) :
    Con Try.prog 100 [.ptr n 0 0] F L nx nx (.tup []) [(n, .rows e 2 true false [[.ptr n 0 0, .nilS]])] [n] := by
  show Con Try.prog 100 _ F L nx (nx + 0) _ _ _
  refine Con.bodyN (cxOk (L + 1)) rfl rfl (fn := Try.f100) (c := Try.f100.body.getD .skip) (by kernel_rfl) (by rfl) (by kernel_rfl) rfl  (by simp [hn]) ?_
  intro F3 hF1 hF2
  have hFn := (hF1 n (by simp)).trans hF
  rcases he with rfl | rfl
  all_goals
    simp only [Try.f100, cx, hFn, Nat.add_zero, go_sem, Meths.get, meths, Nat.reduceSub, Nat.reduceAdd, Nat.reduceMul, Nat.reduceEqDiff, Nat.reduceLT, Nat.reduceLeDiff, Nat.reduceBEq, Nat.reduceBNe, reduceIte, reduceCtorEq, Int.reduceToNat, String.reduceEq]
    refine CallVC.same (noEscape_ok n 0 0) ?_
    simp only [hFn, Nat.add_zero, go_sem, Meths.get, meths, Nat.reduceSub, Nat.reduceAdd, Nat.reduceMul, Nat.reduceEqDiff, Nat.reduceLT, Nat.reduceLeDiff, Nat.reduceBEq, Nat.reduceBNe, reduceIte, reduceCtorEq, Int.reduceToNat, String.reduceEq]
    refine .now (PostN.val [] (.inl rfl) List.nodup_nil (p := True) (v0 := .tup []) rfl trivial (by trivial) rfl ⟨hn, ?_, trivial⟩ (by simp [UpdAll, keys]))
    rw [kp_nil]
    exact .ren (by simp [Tx.look]; rfl) (by simp [rowsNm, nmA, nmAL, Dn, hn]) (by simp [Tx.rn, Tx.rnL, sg_out hn])
theorem copyCheck1_ok {F : SF} {L nx : Nat} (n : Nm) (e : TypeId) (he : e = 181 ∨ e = 147) (buf : PV) (hn : n.l ≤ L) (hF : F n = some (.rows e 2 true false [[.ptr n 0 0, buf]])) :
    Con Try.prog 100 [.ptr n 0 0] F L nx nx (.tup []) [] [n] := by
  show Con Try.prog 100 _ F L nx (nx + 0) _ _ _
  refine Con.bodyN (cxOk (L + 1)) rfl rfl (fn := Try.f100) (c := Try.f100.body.getD .skip) (by kernel_rfl) (by rfl) (by kernel_rfl) rfl  (by simp [hn]) ?_
  intro F3 hF1 hF2
  have hFn := (hF1 n (by simp)).trans hF
  rcases he with rfl | rfl
  all_goals
    simp only [Try.f100, cx, hFn, Nat.add_zero, go_sem, Meths.get, meths, Nat.reduceSub, Nat.reduceAdd, Nat.reduceMul, Nat.reduceEqDiff, Nat.reduceLT, Nat.reduceLeDiff, Nat.reduceBEq, Nat.reduceBNe, reduceIte, reduceCtorEq, Int.reduceToNat, String.reduceEq]
    exact .now (PostN.val [] (.inl rfl) List.nodup_nil (p := True) (v0 := .tup []) rfl trivial (by trivial) rfl trivial (by simp [UpdAll, keys]))
/-- A builder behind a pointer: fresh, or with bytes. -/
def bldF (F : SF) (n : Nm) (e : TypeId) (b : Option Nm) (t : List UInt8) : Prop :=
  match b with
  | none => t = [] ∧ ∃ p, F n = some (.rows e 2 true p [[.nilP, .nilS]])
  | some m => t ≠ [] ∧ F n = some (.rows e 2 true false [[.ptr n 0 0, .sl m 0 t.length]]) ∧ F m = some (.rows 5 1 true true (t.map rowB)) ∧ m ≠ n
def bldU (n : Nm) (e : TypeId) (m : Nm) (t : List UInt8) : List (Nm × SBlk) :=
  [(n, .rows e 2 true false [[.ptr n 0 0, .sl m 0 t.length]]), (m, .rows 5 1 true true (t.map rowB))]
theorem writeString0_ok {F : SF} {L nx : Nat} (n : Nm) (e : TypeId) (he : e = 181 ∨ e = 147) (hn : n.l < L ∨ (n.l = L ∧ n.i < nx)) (s : List UInt8) (hs : s ≠ []) (hsl : s.length ≤ 1000000) (hb : bldF F n e none []) :
    Con Try.prog 75 [.ptr n 0 0, .str s] F L nx (nx + 1) (.tup [.int .i64 s.length, .nilI]) (bldU n e ⟨L, nx⟩ s) [n] := by
  refine Con.bodyN (cxOk (L + 1)) rfl rfl (fn := Try.f75) (c := Try.f75.body.getD .skip) (by kernel_rfl) (by rfl) (by kernel_rfl) rfl  (by simp; omega) ?_
  intro F3 hF1 hF2
  obtain ⟨_, p, hbp⟩ := hb
  have hFn := (hF1 n (by simp)).trans hbp
  have n1 : ∀ k, (n = (⟨L + 1, k⟩ : Nm)) = False := nm_out (by omega)
  have n2 : ∀ k, ((⟨L + 1, k⟩ : Nm) = n) = False := nm_out' (by omega)
  simp only [Try.f75, cx, hFn, Nat.add_zero, go_sem, Meths.get, meths, Nat.reduceSub, Nat.reduceAdd, Nat.reduceMul, Nat.reduceEqDiff, Nat.reduceLT, Nat.reduceLeDiff, Nat.reduceBEq, Nat.reduceBNe, reduceIte, reduceCtorEq, Int.reduceToNat, String.reduceEq]
  refine CallVC.same (copyCheck0_ok n e he p (by omega) (by simp [Tx.look, hFn])) ?_
  simp only [hFn, n1, n2, Nat.add_zero, go_sem, Meths.get, meths, Nat.reduceSub, Nat.reduceAdd, Nat.reduceMul, Nat.reduceEqDiff, Nat.reduceLT, Nat.reduceLeDiff, Nat.reduceBEq, Nat.reduceBNe, reduceIte, reduceCtorEq, Int.reduceToNat, String.reduceEq]
  have e1 : List.map (fun b : UInt8 => [PV.int .u8 b.toNat]) s = s.map rowB := rfl
  rw [e1, List.length_map]
  refine ⟨⟨by omega, by omega⟩, ?_⟩
  refine .now (PostN.val [288] (.inr rfl) (by simp) (p := True) (v0 := .tup [.int .i64 s.length, .nilI]) ?_ trivial ?_ ?_ ⟨by omega, ?_, Nat.le_refl _, ?_, trivial⟩ ?_)
  · simp only [resVal, resVals, resVal1, one, Nat.add_zero, go_sem, Meths.get, meths, Nat.reduceSub, Nat.reduceAdd, Nat.reduceMul, Nat.reduceEqDiff, Nat.reduceLT, Nat.reduceLeDiff, Nat.reduceBEq, Nat.reduceBNe, reduceIte, reduceCtorEq, Int.reduceToNat, String.reduceEq]
  · simp [nmA, nmAL, Dn]
  · simp [Tx.rn, Tx.rnL]
  · rw [kp_out (hn.imp id fun h => .inl h.2)]
    exact .ren (by simp [Tx.look]; rfl) (by simp [rowsNm, nmA, nmAL, Dn]; omega) (by simp [Tx.rn, Tx.rnL, sg_out (show n.l ≤ L by omega)]; simp [sg])
  · rw [kp_at0 (by simp)]
    exact .pure (by simp [Tx.look, n1, n2])
  · simp [UpdAll, keys, bldU]
theorem writeString1_ok {F : SF} {L nx : Nat} (n : Nm) (e : TypeId) (he : e = 181 ∨ e = 147) (hn : n.l < L ∨ (n.l = L ∧ n.i < nx)) (m : Nm) (hm : m.l < L ∨ (m.l = L ∧ m.i < nx)) (t s : List UInt8) (hs : s ≠ []) (hsl : t.length + s.length ≤ 1000000) (hb : bldF F n e (some m) t) :
    Con Try.prog 75 [.ptr n 0 0, .str s] F L nx (nx + 1) (.tup [.int .i64 s.length, .nilI]) ((m, .dead) :: bldU n e ⟨L, nx⟩ (t ++ s)) [n, m] := by
  refine Con.bodyN (cxOk (L + 1)) rfl rfl (fn := Try.f75) (c := Try.f75.body.getD .skip) (by kernel_rfl) (by rfl) (by kernel_rfl) rfl  (by simp; omega) ?_
  intro F3 hF1 hF2
  obtain ⟨ht, hb1, hb2, hmn⟩ := hb
  have hFn := (hF1 n (by simp)).trans hb1
  have hFm := (hF1 m (by simp)).trans hb2
  have n1 : ∀ k, (n = (⟨L + 1, k⟩ : Nm)) = False := nm_out (by omega)
  have n2 : ∀ k, ((⟨L + 1, k⟩ : Nm) = n) = False := nm_out' (by omega)
  have n3 : ∀ k, (m = (⟨L + 1, k⟩ : Nm)) = False := nm_out (by omega)
  have n4 : ∀ k, ((⟨L + 1, k⟩ : Nm) = m) = False := nm_out' (by omega)
  have n5 : (m = n) = False := by simp [hmn]
  have n6 : (n = m) = False := by simp [Ne.symm hmn]
  simp only [Try.f75, cx, hFn, Nat.add_zero, go_sem, Meths.get, meths, Nat.reduceSub, Nat.reduceAdd, Nat.reduceMul, Nat.reduceEqDiff, Nat.reduceLT, Nat.reduceLeDiff, Nat.reduceBEq, Nat.reduceBNe, reduceIte, reduceCtorEq, Int.reduceToNat, String.reduceEq]
  refine CallVC.same (copyCheck1_ok n e he _ (by omega) (by simp [Tx.look, hFn]; rfl)) ?_
  simp only [hFn, hFm, n1, n2, n3, n4, n5, n6, Nat.add_zero, go_sem, Meths.get, meths, Nat.reduceSub, Nat.reduceAdd, Nat.reduceMul, Nat.reduceEqDiff, Nat.reduceLT, Nat.reduceLeDiff, Nat.reduceBEq, Nat.reduceBNe, reduceIte, reduceCtorEq, Int.reduceToNat, String.reduceEq]
  have e1 : List.map (fun b : UInt8 => [PV.int .u8 b.toNat]) s = s.map rowB := rfl
  rw [e1]
  simp only [List.length_map]
  refine ⟨⟨trivial, by omega, by omega⟩, ?_⟩
  refine .now (PostN.val [288] (.inr rfl) (by simp) (p := True) (v0 := .tup [.int .i64 s.length, .nilI]) ?_ trivial ?_ ?_ ⟨by omega, ?_, by omega, ?_, Nat.le_refl _, ?_, trivial⟩ ?_)
  · simp only [resVal, resVals, resVal1, one, Nat.add_zero, go_sem, Meths.get, meths, Nat.reduceSub, Nat.reduceAdd, Nat.reduceMul, Nat.reduceEqDiff, Nat.reduceLT, Nat.reduceLeDiff, Nat.reduceBEq, Nat.reduceBNe, reduceIte, reduceCtorEq, Int.reduceToNat, String.reduceEq]
  · simp [nmA, nmAL, Dn]
  · simp [Tx.rn, Tx.rnL]
  · exact BN_dead
  · rw [kp_out (hn.imp id fun h => .inl h.2)]
    exact .ren (by simp [Tx.look, n1, n6]; rfl) (by simp [rowsNm, nmA, nmAL, Dn]; omega) (by simp [Tx.rn, Tx.rnL, sg_out (show n.l ≤ L by omega)]; simp [sg])
  · rw [kp_at0 (by simp)]
    exact .pure (by simp [Tx.look, n1, n2, n4])
  · simp [UpdAll, keys, bldU]
/-! (*strings.Builder).String -/
theorem rowB_bytes (t : List UInt8) : bytesP (t.map rowB) = t := by
  simp only [bytesP, List.map_map]
  conv => rhs; rw [← List.map_id t]
  apply List.map_congr_left
  intro x _
  simp [byteP, rowB]
theorem bString_ok {F : SF} {L nx : Nat} (n : Nm) (e : TypeId) (hn : n.l < L ∨ (n.l = L ∧ n.i < nx)) (m : Nm) (hm : m.l ≤ L) (t : List UInt8) (hsl : t.length ≤ 1000000) (hb : bldF F n e (some m) t) :
    Con Try.prog 77 [.ptr n 0 0] F L nx nx (.str t) [(m, .rows 5 1 false true (t.map rowB))] [n, m] := by
  refine Con.body (cxOk (L + 1)) rfl rfl (fn := Try.f77) (c := Try.f77.body.getD .skip) (by kernel_rfl) (by rfl) (by kernel_rfl) rfl  (by simp; omega) ?_
  intro F3 hF1 hF2
  obtain ⟨ht, hb1, hb2, hmn⟩ := hb
  have hFn := (hF1 n (by simp)).trans hb1
  have hFm := (hF1 m (by simp)).trans hb2
  have hl : 0 < t.length := List.length_pos_iff.2 ht
  have n5 : (m = n) = False := by simp [hmn]
  have n6 : (n = m) = False := by simp [Ne.symm hmn]
  have e2 : (t.map rowB).take t.length = t.map rowB := List.take_of_length_le (by simp)
  simp only [Try.f77, cx, hFn, hFm, n5, n6, e2, rowB_bytes, List.length_map, Nat.add_zero, go_sem, Meths.get, meths, Nat.reduceSub, Nat.reduceAdd, Nat.reduceMul, Nat.reduceEqDiff, Nat.reduceLT, Nat.reduceLeDiff, Nat.reduceBEq, Nat.reduceBNe, reduceIte, reduceCtorEq, Int.reduceToNat, String.reduceEq]
  refine ⟨by kernel_rfl, ⟨by omega, by omega⟩, ⟨by omega, by omega⟩, okDyn_num (fun x => if x = m then 1 else 0) (by simp only [numF, List.map, n6, if_true, if_false]; kernel_rfl), ?_⟩
  exact PostF.of (p := True) (v0 := .str t) (.inr rfl) (by simp only [resVal, resVals, resVal1, one, Nat.add_zero, go_sem, Meths.get, meths, Nat.reduceSub, Nat.reduceAdd, Nat.reduceMul, Nat.reduceEqDiff, Nat.reduceLT, Nat.reduceLeDiff, Nat.reduceBEq, Nat.reduceBNe, reduceIte, reduceCtorEq, Int.reduceToNat, String.reduceEq]) trivial (by simp only [Wk]) (by simp [wkN]) rfl ⟨hm, by simp [BW, Tx.look, hFm], trivial⟩ (by simp [UpdAll, keys])
/-! octets.Put -/
def putB (n v : Nat) : List UInt8 := (List.range n).map fun i => UInt8.ofNat (v / 256 ^ (n - 1 - i) % 256)
theorem putB_len (n v : Nat) : (putB n v).length = n := by simp [putB]
def putR (n v i : Nat) : List (List PV) := (List.range n).map fun j => [.int .u8 (if j < i then (v / 256 ^ (n - 1 - j) % 256 : Nat) else 0)]
theorem shrN (v k : Nat) {b : Int} (hb : b = 8 * k) (hk : k ≤ 7) : (v : Int).fdiv (2 ^ min b.toNat 64) = ((v / 256 ^ k : Nat) : Int) := by
  rw [shr_eq (v : Int) (by omega) (by omega)]
  have : b.toNat = 8 * k := by omega
  rw [this, Int.pow_mul]
  simp
theorem putR_set (n v i : Nat) (h : i < n) : (putR n v i).set i (PV.int .u8 (IntKind.u8.wrap ((v / 256 ^ (n - 1 - i) : Nat) : Int)) :: List.drop 1 ((putR n v i).getD i [])) = putR n v (i + 1) := by
  have hg : List.drop 1 ((putR n v i).getD i []) = [] := by simp [putR, List.getD_eq_getElem?_getD, h]
  rw [hg]
  apply List.ext_getElem?
  intro k
  rw [List.getElem?_set]
  by_cases hk : i = k
  · subst hk
    simp only [if_true, putR, List.length_map, List.length_range, h, List.getElem?_map, List.getElem?_range h, Option.map_some]
    have : i < i + 1 := by omega
    simp only [this, if_true, IntKind.wrap_u8]
    congr 3
  · rw [if_neg hk]
    simp only [putR, List.getElem?_map]
    cases hr : (List.range n)[k]? with
    | none => rfl
    | some j =>
      have : j = k := by
        obtain ⟨h1, h2⟩ := List.getElem?_eq_some_iff.1 hr
        simpa using h2.symm
      subst this
      have e : (j < i) = (j < i + 1) := by apply propext; omega
      simp only [Option.map_some, e]
theorem putR_str (n v : Nat) : bytesP (putR n v n) = putB n v := by
  simp only [bytesP, putR, putB, List.map_map]
  apply List.map_congr_left
  intro j hj
  simp only [List.mem_range] at hj
  simp only [Function.comp, hj, if_true, byteP, Int.toNat_natCast]
theorem put_ok {F : SF} {L nx : Nat} (n v : Nat) (h1 : 1 ≤ n) (h2 : n ≤ 7) (hv : v < 256 ^ n) :
    Con Try.prog 125 [.int .i64 n, .int .i64 v] F L nx nx (.tup [.str (putB n v), .int .i64 0]) [] [] := by
  refine Con.body (cxOk (L + 1)) rfl rfl (fn := Try.f125) (c := Try.f125.body.getD .skip) (by kernel_rfl) (by rfl) (by kernel_rfl) rfl (by simp) ?_
  intro F3 hF1 hF2
  have f1 : decide ((n : Int) < 1) = false := dF (by omega)
  have f2 : decide ((7 : Int) < (n : Int)) = false := dF (by omega)
  have f3 : decide ((v : Int) < 0) = false := dF (by omega)
  have f4 : ((v : Int).fdiv (2 ^ min ((8 : Int) * (n : Int)).toNat 64) != 0) = false := by
    rw [shrN v n rfl h2, Nat.div_eq_of_lt hv]; rfl
  simp only [Try.f125, cx, f1, f2, f3, f4, Nat.add_zero, go_sem, Meths.get, meths, Nat.reduceSub, Nat.reduceAdd, Nat.reduceMul, Nat.reduceEqDiff, Nat.reduceLT, Nat.reduceLeDiff, Nat.reduceBEq, Nat.reduceBNe, reduceIte, reduceCtorEq, Int.reduceToNat, String.reduceEq]
  repeat refine And.intro (by first | omega | exact ⟨by omega, by omega⟩ | exact ⟨by omega, by omega, by omega⟩ | exact ⟨⟨by omega, by omega⟩, by omega, by omega⟩ | exact okDyn_num (fun x => x.i) (by kernel_rfl) | kernel_rfl | exact okDyn_num (fun _ => 0) (by kernel_rfl)) ?_
  refine loopK.intro _ _ (I := fun i : Nat => ⟨[some (.int .i64 n), some (.int .i64 v), none, none, none, none, some (.sl ⟨L + 1, 640⟩ 0 n), none, none, none, none, none, none, none, none, none, none, none, none, none, none, none, none, none, none, none, none, none, some (.int .i64 n), some (.int .i64 i), none, none, none, none, none, none, none, none, none, none, none, none, none, none, none, none],
    [(⟨L + 1, 640⟩, .rows 5 1 true true (putR n v i))], 1000 * (i + 1)⟩) (pre := fun i => i ≤ n) (μ := fun i => n - i) 0 (by omega) ?_ ?_
  · refine Sub.of (fun n hn => hF2 n (by have : n.l = L + 1 := hn; omega)) (by simp only [go_sem, resVal, resVals, resVal1, one, Wk, WkL, WkLL, wkN, wkNL, wkNLL, UpdIn, UpdAll, BW, plainP, plainPL, subT, subH, subK, and_self, true_or, or_true, List.not_mem_nil, List.mem_cons, forall_eq, imp_self, implies_true, Nat.reduceSub, Nat.reduceAdd, Nat.reduceMul, Nat.reduceEqDiff, Nat.reduceLT, Nat.reduceLeDiff, Nat.reduceBEq, Nat.reduceBNe, reduceIte, reduceCtorEq, Int.reduceToNat, String.reduceEq, Int.natCast_zero]) ?_ (by simp only [go_sem, resVal, resVals, resVal1, one, Wk, WkL, WkLL, wkN, wkNL, wkNLL, UpdIn, UpdAll, BW, plainP, plainPL, subT, subH, subK, and_self, true_or, or_true, List.not_mem_nil, List.mem_cons, forall_eq, imp_self, implies_true, Nat.reduceSub, Nat.reduceAdd, Nat.reduceMul, Nat.reduceEqDiff, Nat.reduceLT, Nat.reduceLeDiff, Nat.reduceBEq, Nat.reduceBNe, reduceIte, reduceCtorEq, Int.reduceToNat, String.reduceEq]) (by simp)
    simp [subH, Tx.look, putR, List.map_const']
  · intro i hi
    have lr : (putR n v i).length = n := by simp [putR]
    by_cases hlt : i < n
    · have f5 : decide ((i : Int) < (n : Int)) = true := dT (by omega)
      have f6 : (v : Int).fdiv (2 ^ min ((8 : Int) * ((n : Int) - 1 - (i : Int))).toNat 64) = ((v / 256 ^ (n - 1 - i) : Nat) : Int) := shrN v (n - 1 - i) (by omega) (by omega)
      simp only [f5, f6, lr, putR_set _ _ _ hlt, Nat.add_zero, go_sem, Meths.get, meths, Nat.reduceSub, Nat.reduceAdd, Nat.reduceMul, Nat.reduceEqDiff, Nat.reduceLT, Nat.reduceLeDiff, Nat.reduceBEq, Nat.reduceBNe, reduceIte, reduceCtorEq, Int.reduceToNat, String.reduceEq]
      repeat refine And.intro (by first | omega | exact ⟨by omega, by omega⟩ | exact ⟨by omega, by omega, by omega⟩ | exact ⟨⟨by omega, by omega⟩, by omega, by omega⟩ | exact okDyn_num (fun x => x.i) (by kernel_rfl) | kernel_rfl | exact okDyn_num (fun _ => 0) (by kernel_rfl)) ?_
      refine ⟨i + 1, by omega, by omega, ?_⟩
      refine Sub.of (fun n hn => hF2 n (by have : n.l = L + 1 := hn; omega)) (by simp only [go_sem, resVal, resVals, resVal1, one, Wk, WkL, WkLL, wkN, wkNL, wkNLL, UpdIn, UpdAll, BW, plainP, plainPL, subT, subH, subK, and_self, true_or, or_true, List.not_mem_nil, List.mem_cons, forall_eq, imp_self, implies_true, Nat.reduceSub, Nat.reduceAdd, Nat.reduceMul, Nat.reduceEqDiff, Nat.reduceLT, Nat.reduceLeDiff, Nat.reduceBEq, Nat.reduceBNe, reduceIte, reduceCtorEq, Int.reduceToNat, String.reduceEq, Int.natCast_succ]) ?_ (by simp only [go_sem, resVal, resVals, resVal1, one, Wk, WkL, WkLL, wkN, wkNL, wkNLL, UpdIn, UpdAll, BW, plainP, plainPL, subT, subH, subK, and_self, true_or, or_true, List.not_mem_nil, List.mem_cons, forall_eq, imp_self, implies_true, Nat.reduceSub, Nat.reduceAdd, Nat.reduceMul, Nat.reduceEqDiff, Nat.reduceLT, Nat.reduceLeDiff, Nat.reduceBEq, Nat.reduceBNe, reduceIte, reduceCtorEq, Int.reduceToNat, String.reduceEq]) (by simp; omega)
      simp [subH, Tx.look]
    · have f5 : decide ((i : Int) < (n : Int)) = false := dF (by omega)
      have e : i = n := by omega
      subst e
      have e2 : List.take i (putR i v i) = putR i v i := List.take_of_length_le (by omega)
      simp only [f5, lr, e2, putR_str, Nat.add_zero, go_sem, Meths.get, meths, Nat.reduceSub, Nat.reduceAdd, Nat.reduceMul, Nat.reduceEqDiff, Nat.reduceLT, Nat.reduceLeDiff, Nat.reduceBEq, Nat.reduceBNe, reduceIte, reduceCtorEq, Int.reduceToNat, String.reduceEq]
      refine ⟨⟨by omega, fun row hr => ?_⟩, ?_⟩
      · simp only [putR, List.mem_map] at hr
        obtain ⟨j, _, rfl⟩ := hr
        exact ⟨_, rfl⟩
      · exact PostF.same (p := True) (.inr rfl) (by simp only [resVal, resVals, resVal1, one, Nat.add_zero, go_sem, Meths.get, meths, Nat.reduceSub, Nat.reduceAdd, Nat.reduceMul, Nat.reduceEqDiff, Nat.reduceLT, Nat.reduceLeDiff, Nat.reduceBEq, Nat.reduceBNe, reduceIte, reduceCtorEq, Int.reduceToNat, String.reduceEq]) trivial (by simp [Tx.nf, nfl]) (by simp [UpdAll, keys])
end Go.Proofs.Ytfhhbkehlfipgaa
end

section
set_option linter.unusedSimpArgs false
set_option linter.unusedVariables false
set_option linter.unnecessarySimpa false
set_option linter.unusedSectionVars false
namespace Go.Proofs.Ytfhhbkehlfipgaa
open Go.Tx
set_option maxRecDepth 100000
set_option maxHeartbeats 1000000
set_option linter.unusedSimpArgs false
set_option linter.unusedVariables false
/-! chunk.buffer.put -/
def eN (v : Nat) : List PV := [.int .i64 v]
def bldD : Option Nm → List (Nm × SBlk)
  | none => []
  | some m => [(m, .dead)]
def bldR (n : Nm) : Option Nm → List Nm
  | none => [n]
  | some m => [n, m]
/-- Where a builder may lie. -/
def bldL (L nx : Nat) : Option Nm → Prop
  | none => True
  | some m => m.l < L ∨ (m.l = L ∧ m.i < nx)
theorem writeString_ok {F : SF} {L nx : Nat} (n : Nm) (e : TypeId) (he : e = 181 ∨ e = 147) (hn : n.l < L ∨ (n.l = L ∧ n.i < nx)) (b : Option Nm) (hm : bldL L nx b) (t s : List UInt8) (hs : s ≠ []) (hsl : t.length + s.length ≤ 1000000) (hb : bldF F n e b t) :
    Con Try.prog 75 [.ptr n 0 0, .str s] F L nx (nx + 1) (.tup [.int .i64 s.length, .nilI]) (bldD b ++ bldU n e ⟨L, nx⟩ (t ++ s)) (bldR n b) := by
  cases b with
  | none =>
    have := hb.1
    subst this
    exact writeString0_ok n e he hn s hs (by simpa using hsl) hb
  | some m => exact writeString1_ok n e he hn m hm t s hs hsl hb
theorem flat_len (k : Nat) : ∀ l : List Nat, (l.flatMap (putB k)).length = l.length * k
  | [] => by simp
  | x :: l => by simp only [List.flatMap_cons, List.length_append, putB_len, List.length_cons, flat_len k l, Nat.succ_mul]; omega
theorem bput_ok {F : SF} {L nx : Nat} (n : Nm) (hn : n.l < L ∨ (n.l = L ∧ n.i < nx)) (b : Option Nm) (hm : bldL L nx b) (t : List UInt8) (k : Nat) (hk1 : 1 ≤ k) (hk2 : k ≤ 7) (vs : List Nat) (hv : ∀ v ∈ vs, v < 256 ^ k) (hv0 : vs ≠ []) (hvl : t.length + vs.length * 7 ≤ 1000000) (hb : bldF F n 181 b t) :
    Con Try.prog 124 [.ptr n 0 0, .int .i64 k, .fs 1 (vs.map eN)] F L nx (nx + 1) (.tup []) (bldD b ++ bldU n 181 ⟨L, nx⟩ (t ++ vs.flatMap (putB k))) (bldR n b) := by
  refine Con.bodyN (cxOk (L + 1)) rfl rfl (fn := Try.f124) (c := Try.f124.body.getD .skip) (by kernel_rfl) (by rfl) (by kernel_rfl) rfl  (by cases b <;> simp [bldR] <;> (try simp [bldL] at hm) <;> omega) ?_
  intro F3 hF1 hF2
  simp only [Try.f124, cx, Nat.add_zero, go_sem, Meths.get, meths, Nat.reduceSub, Nat.reduceAdd, Nat.reduceMul, Nat.reduceEqDiff, Nat.reduceLT, Nat.reduceLeDiff, Nat.reduceBEq, Nat.reduceBNe, reduceIte, reduceCtorEq, Int.reduceToNat, String.reduceEq]
  refine loopK.intro _ _ (I := fun i : Nat => ⟨[some (.ptr n 0 0), some (.int .i64 k), none, none, none, none, none, none, none, none, some (.fs 1 (vs.map eN)), some (.int .i64 vs.length), some (.int .i64 i), none, none, none, none, none, none, none, none, none, none, none, none, none, none, none],
    if i = 0 then [] else bldD b ++ bldU n 181 ⟨L + 1, 1000 * i + 480⟩ (t ++ (vs.take i).flatMap (putB k)), 1000 * (i + 1)⟩) (pre := fun i => i ≤ vs.length) (μ := fun i => vs.length - i) 0 (by omega) ?_ ?_
  · exact Sub.of (fun n hn => hF2 n (by have : n.l = L + 1 := hn; omega)) (by simp only [go_sem, resVal, resVals, resVal1, one, Wk, WkL, WkLL, wkN, wkNL, wkNLL, UpdIn, UpdAll, BW, plainP, plainPL, subT, subH, subK, and_self, true_or, or_true, List.not_mem_nil, List.mem_cons, forall_eq, imp_self, implies_true, Nat.reduceSub, Nat.reduceAdd, Nat.reduceMul, Nat.reduceEqDiff, Nat.reduceLT, Nat.reduceLeDiff, Nat.reduceBEq, Nat.reduceBNe, reduceIte, reduceCtorEq, Int.reduceToNat, String.reduceEq, Int.natCast_zero, List.length_map]) (by simp [subH]) (by simp only [go_sem, resVal, resVals, resVal1, one, Wk, WkL, WkLL, wkN, wkNL, wkNLL, UpdIn, UpdAll, BW, plainP, plainPL, subT, subH, subK, and_self, true_or, or_true, List.not_mem_nil, List.mem_cons, forall_eq, imp_self, implies_true, Nat.reduceSub, Nat.reduceAdd, Nat.reduceMul, Nat.reduceEqDiff, Nat.reduceLT, Nat.reduceLeDiff, Nat.reduceBEq, Nat.reduceBNe, reduceIte, reduceCtorEq, Int.reduceToNat, String.reduceEq]) (by simp)
  · intro i hi
    by_cases hlt : i < vs.length
    · have f1 : decide ((i : Int) < (vs.length : Int)) = true := dT (by omega)
      have r0 : (vs.map eN).getD i [] = [.int .i64 (vs.getD i 0 : Nat)] := by simp [hlt, List.getD_eq_getElem?_getD, eN]
      have hvi := hv (vs.getD i 0) (by rw [List.getD_eq_getElem?_getD, List.getElem?_eq_getElem hlt]; simp)
      have hpl : (putB k (vs.getD i 0)).length = k := putB_len _ _
      have hFb : bldF F3 n 181 b t := by
        cases b with
        | none => exact ⟨hb.1, hb.2.imp fun p h => (hF1 n (by simp [bldR])).trans h⟩
        | some m => exact ⟨hb.1, (hF1 n (by simp [bldR])).trans hb.2.1, (hF1 m (by simp [bldR])).trans hb.2.2.1, hb.2.2.2⟩
      have hmL : bldL (L + 1) 0 b := by
        cases b with
        | none => trivial
        | some m => simp only [bldL] at hm ⊢; omega
      have hne : putB k (vs.getD i 0) ≠ [] := by intro h; rw [h] at hpl; simp at hpl; omega
      have n1 : ∀ k, (n = (⟨L + 1, k⟩ : Nm)) = False := nm_out (by omega)
      have n2 : ∀ k, ((⟨L + 1, k⟩ : Nm) = n) = False := nm_out' (by omega)
      have htk : (vs.take i).flatMap (putB k) ++ putB k (vs.getD i 0) = (vs.take (i + 1)).flatMap (putB k) := by
        rw [List.take_add_one, List.flatMap_append, List.getD_eq_getElem?_getD, List.getElem?_eq_getElem hlt]; simp
      have hfl : ((vs.take i).flatMap (putB k)).length = i * k := by
        rw [flat_len, List.length_take, Nat.min_eq_left hi]
      have hik : i * k ≤ i * 7 := Nat.mul_le_mul_left _ hk2
      cases i with
      | zero =>
        simp only [f1, r0, List.length_map, Nat.add_zero, go_sem, Meths.get, meths, Nat.reduceSub, Nat.reduceAdd, Nat.reduceMul, Nat.reduceEqDiff, Nat.reduceLT, Nat.reduceLeDiff, Nat.reduceBEq, Nat.reduceBNe, reduceIte, reduceCtorEq, Int.reduceToNat, String.reduceEq]
        repeat refine And.intro (by first | omega | exact ⟨by omega, by omega⟩ | exact ⟨by omega, by omega, by omega⟩ | exact ⟨⟨by omega, by omega⟩, by omega, by omega⟩ | exact okDyn_num (fun x => x.i) (by kernel_rfl) | kernel_rfl | exact okDyn_num (fun _ => 0) (by kernel_rfl)) ?_
        refine CallVC.same (put_ok k (vs.getD 0 0) hk1 hk2 hvi) ?_
        simp only [Nat.add_zero, go_sem, Meths.get, meths, Nat.reduceSub, Nat.reduceAdd, Nat.reduceMul, Nat.reduceEqDiff, Nat.reduceLT, Nat.reduceLeDiff, Nat.reduceBEq, Nat.reduceBNe, reduceIte, reduceCtorEq, Int.reduceToNat, String.reduceEq]
        refine CallVC.same (writeString_ok n 181 (.inl rfl) (by omega) b ?_ t (putB k (vs.getD 0 0)) hne (by omega) hFb) ?_
        · cases b with
          | none => trivial
          | some m => exact .inl (by simp only [bldL] at hm; omega)
        simp only [Nat.add_zero, go_sem, Meths.get, meths, Nat.reduceSub, Nat.reduceAdd, Nat.reduceMul, Nat.reduceEqDiff, Nat.reduceLT, Nat.reduceLeDiff, Nat.reduceBEq, Nat.reduceBNe, reduceIte, reduceCtorEq, Int.reduceToNat, String.reduceEq]
        refine ⟨⟨by omega, by omega⟩, 1, by omega, by omega, ?_⟩
        rw [if_neg (by omega), ← htk]
        simp only [List.take_zero, List.flatMap_nil, List.nil_append]
        cases b with
        | none =>
          refine Sub.of (fun n hn => hF2 n (by have : n.l = L + 1 := hn; omega)) (by simp only [go_sem, resVal, resVals, resVal1, one, Wk, WkL, WkLL, wkN, wkNL, wkNLL, UpdIn, UpdAll, BW, plainP, plainPL, subT, subH, subK, and_self, true_or, or_true, List.not_mem_nil, List.mem_cons, forall_eq, imp_self, implies_true, Nat.reduceSub, Nat.reduceAdd, Nat.reduceMul, Nat.reduceEqDiff, Nat.reduceLT, Nat.reduceLeDiff, Nat.reduceBEq, Nat.reduceBNe, reduceIte, reduceCtorEq, Int.reduceToNat, String.reduceEq, Int.natCast_succ]) ?_ ?_ (by simp)
          · simp [subH, Tx.look, bldD, bldU, updH, setH, n1, n2]
          · simp [subK, keys, bldD, bldU, updH, setH, n1, n2]
        | some m =>
          have hmn := hb.2.2.2
          have n3 : ∀ k, (m = (⟨L + 1, k⟩ : Nm)) = False := nm_out (by simp only [bldL] at hm; omega)
          have n4 : ∀ k, ((⟨L + 1, k⟩ : Nm) = m) = False := nm_out' (by simp only [bldL] at hm; omega)
          have n5 : (m = n) = False := by simp [hmn]
          have n6 : (n = m) = False := by simp [Ne.symm hmn]
          refine Sub.of (fun n hn => hF2 n (by have : n.l = L + 1 := hn; omega)) (by simp only [go_sem, resVal, resVals, resVal1, one, Wk, WkL, WkLL, wkN, wkNL, wkNLL, UpdIn, UpdAll, BW, plainP, plainPL, subT, subH, subK, and_self, true_or, or_true, List.not_mem_nil, List.mem_cons, forall_eq, imp_self, implies_true, Nat.reduceSub, Nat.reduceAdd, Nat.reduceMul, Nat.reduceEqDiff, Nat.reduceLT, Nat.reduceLeDiff, Nat.reduceBEq, Nat.reduceBNe, reduceIte, reduceCtorEq, Int.reduceToNat, String.reduceEq, Int.natCast_succ]) ?_ ?_ (by simp)
          · simp [subH, Tx.look, bldD, bldU, updH, setH, n1, n2, n3, n4, n5, n6]
          · simp [subK, keys, bldD, bldU, updH, setH, n1, n2, n3, n4, n5, n6]
      | succ i =>
        simp only [f1, r0, List.length_map, Nat.add_zero, go_sem, Meths.get, meths, Nat.reduceSub, Nat.reduceAdd, Nat.reduceMul, Nat.reduceEqDiff, Nat.reduceLT, Nat.reduceLeDiff, Nat.reduceBEq, Nat.reduceBNe, reduceIte, reduceCtorEq, Int.reduceToNat, String.reduceEq]
        repeat refine And.intro (by first | omega | exact ⟨by omega, by omega⟩ | exact ⟨by omega, by omega, by omega⟩ | exact ⟨⟨by omega, by omega⟩, by omega, by omega⟩ | exact okDyn_num (fun x => x.i) (by kernel_rfl) | kernel_rfl | exact okDyn_num (fun _ => 0) (by kernel_rfl)) ?_
        refine CallVC.same (put_ok k (vs.getD (i + 1) 0) hk1 hk2 hvi) ?_
        simp only [Nat.add_zero, go_sem, Meths.get, meths, Nat.reduceSub, Nat.reduceAdd, Nat.reduceMul, Nat.reduceEqDiff, Nat.reduceLT, Nat.reduceLeDiff, Nat.reduceBEq, Nat.reduceBNe, reduceIte, reduceCtorEq, Int.reduceToNat, String.reduceEq]
        refine CallVC.same (writeString_ok n 181 (.inl rfl) (by omega) (some ⟨L + 1, 1000 * (i + 1) + 480⟩) ?_ (t ++ (vs.take (i + 1)).flatMap (putB k)) (putB k (vs.getD (i + 1) 0)) hne (by rw [List.length_append]; omega) ?_) ?_
        · exact .inr ⟨rfl, by simp only []; omega⟩
        · have hlen0 : t ++ (vs.take (i + 1)).flatMap (putB k) ≠ [] := by
            intro h
            have := congrArg List.length h
            rw [List.length_append, hfl] at this
            have : 1 * 1 ≤ (i + 1) * k := Nat.mul_le_mul (by omega) hk1
            simp at *; omega
          cases b with
          | none => exact ⟨hlen0, by simp [Tx.look, bldD, bldU], by simp [Tx.look, bldD, bldU, n2], by simp [n2]⟩
          | some m =>
            have hmn := hb.2.2.2
            have n3 : ∀ k, (m = (⟨L + 1, k⟩ : Nm)) = False := nm_out (by simp only [bldL] at hm; omega)
            have n4 : ∀ k, ((⟨L + 1, k⟩ : Nm) = m) = False := nm_out' (by simp only [bldL] at hm; omega)
            have n5 : (m = n) = False := by simp [hmn]
            have n6 : (n = m) = False := by simp [Ne.symm hmn]
            exact ⟨hlen0, by simp [Tx.look, bldD, bldU, n6], by simp [Tx.look, bldD, bldU, n2, n4], by simp [n2]⟩
        rw [show (1000 * (i + 1 + 1) + 32 + 32 + 32 + 32 + 32 + 32 + 32 + 32 + 32 + 32 + 32 + 32 + 32 + 32 + 32 : Nat) = 1000 * (i + 1 + 1) + 480 by omega]
        simp only [Nat.add_zero, go_sem, Meths.get, meths, Nat.reduceSub, Nat.reduceAdd, Nat.reduceMul, Nat.reduceEqDiff, Nat.reduceLT, Nat.reduceLeDiff, Nat.reduceBEq, Nat.reduceBNe, reduceIte, reduceCtorEq, Int.reduceToNat, String.reduceEq]
        refine ⟨⟨by omega, by omega⟩, i + 1 + 1, by omega, by omega, ?_⟩
        rw [if_neg (by omega), ← htk, ← List.append_assoc]
        have n7 : ((⟨L + 1, 1000 * (i + 1) + 480⟩ : Nm) = ⟨L + 1, 1000 * (i + 1 + 1) + 480⟩) = False := by simp; omega
        have n8 : ((⟨L + 1, 1000 * (i + 1 + 1) + 480⟩ : Nm) = ⟨L + 1, 1000 * (i + 1) + 480⟩) = False := by simp; omega
        cases b with
        | none =>
          refine Sub.of (fun n hn => hF2 n (by have : n.l = L + 1 := hn; omega)) (by simp only [go_sem, resVal, resVals, resVal1, one, Wk, WkL, WkLL, wkN, wkNL, wkNLL, UpdIn, UpdAll, BW, plainP, plainPL, subT, subH, subK, and_self, true_or, or_true, List.not_mem_nil, List.mem_cons, forall_eq, imp_self, implies_true, Nat.reduceSub, Nat.reduceAdd, Nat.reduceMul, Nat.reduceEqDiff, Nat.reduceLT, Nat.reduceLeDiff, Nat.reduceBEq, Nat.reduceBNe, reduceIte, reduceCtorEq, Int.reduceToNat, String.reduceEq, Int.natCast_succ]) ?_ ?_ (by simp only []; omega)
          · simp only [subH, Tx.look, bldD, bldU, updH, setH, n1, n2, n7, n8, List.cons_append, List.nil_append, if_true, if_false, and_self]
          · simp [subK, keys, bldD, bldU, updH, setH, n1, n2, n7, n8]
        | some m =>
          have hmn := hb.2.2.2
          have n3 : ∀ k, (m = (⟨L + 1, k⟩ : Nm)) = False := nm_out (by simp only [bldL] at hm; omega)
          have n4 : ∀ k, ((⟨L + 1, k⟩ : Nm) = m) = False := nm_out' (by simp only [bldL] at hm; omega)
          have n5 : (m = n) = False := by simp [hmn]
          have n6 : (n = m) = False := by simp [Ne.symm hmn]
          refine Sub.of (fun n hn => hF2 n (by have : n.l = L + 1 := hn; omega)) (by simp only [go_sem, resVal, resVals, resVal1, one, Wk, WkL, WkLL, wkN, wkNL, wkNLL, UpdIn, UpdAll, BW, plainP, plainPL, subT, subH, subK, and_self, true_or, or_true, List.not_mem_nil, List.mem_cons, forall_eq, imp_self, implies_true, Nat.reduceSub, Nat.reduceAdd, Nat.reduceMul, Nat.reduceEqDiff, Nat.reduceLT, Nat.reduceLeDiff, Nat.reduceBEq, Nat.reduceBNe, reduceIte, reduceCtorEq, Int.reduceToNat, String.reduceEq, Int.natCast_succ]) ?_ ?_ (by simp only []; omega)
          · simp only [subH, Tx.look, bldD, bldU, updH, setH, n1, n2, n3, n4, n5, n6, n7, n8, List.cons_append, List.nil_append, if_true, if_false, and_self]
          · simp [subK, keys, bldD, bldU, updH, setH, n1, n2, n3, n4, n5, n6, n7, n8]
    · have f1 : decide ((i : Int) < (vs.length : Int)) = false := dF (by omega)
      have e : i = vs.length := by omega
      subst e
      have hi0 : vs.length ≠ 0 := by intro h; exact hv0 (List.eq_nil_of_length_eq_zero h)
      have n1 : ∀ k, (n = (⟨L + 1, k⟩ : Nm)) = False := nm_out (by omega)
      have n2 : ∀ k, ((⟨L + 1, k⟩ : Nm) = n) = False := nm_out' (by omega)
      simp only [f1, List.take_length, Nat.add_zero, go_sem, Meths.get, meths, Nat.reduceSub, Nat.reduceAdd, Nat.reduceMul, Nat.reduceEqDiff, Nat.reduceLT, Nat.reduceLeDiff, Nat.reduceBEq, Nat.reduceBNe, reduceIte, reduceCtorEq, Int.reduceToNat, String.reduceEq]
      rw [if_neg hi0]
      have hnd : [1000 * vs.length + 480].Nodup := by simp
      cases b with
      | none =>
        refine .now (PostN.val [1000 * vs.length + 480] (.inl rfl) hnd (p := True) (v0 := .tup []) rfl trivial (by trivial) rfl ⟨by omega, ?_, Nat.le_refl _, ?_, trivial⟩ (by simp [UpdAll, keys, bldD, bldU]))
        · rw [kp_out (hn.imp id fun h => .inl h.2)]
          exact .ren (by simp [Tx.look, bldU, bldD]; rfl) (by simp [rowsNm, nmA, nmAL, Dn]; omega) (by simp [Tx.rn, Tx.rnL, sg_out (show n.l ≤ L by omega)]; simp [sg])
        · rw [kp_at0 (by simp)]
          exact .pure (by simp [Tx.look, bldU, bldD, n2])
      | some m =>
        have hmn := hb.2.2.2
        have n3 : ∀ k, (m = (⟨L + 1, k⟩ : Nm)) = False := nm_out (by simp only [bldL] at hm; omega)
        have n4 : ∀ k, ((⟨L + 1, k⟩ : Nm) = m) = False := nm_out' (by simp only [bldL] at hm; omega)
        have n6 : (n = m) = False := by simp [Ne.symm hmn]
        refine .now (PostN.val [1000 * vs.length + 480] (.inl rfl) hnd (p := True) (v0 := .tup []) rfl trivial (by trivial) rfl ⟨by simp only [bldL] at hm; omega, BN_dead, by omega, ?_, Nat.le_refl _, ?_, trivial⟩ (by simp [UpdAll, keys, bldD, bldU]))
        · rw [kp_out (hn.imp id fun h => .inl h.2)]
          exact .ren (by simp [Tx.look, bldU, bldD, n6]; rfl) (by simp [rowsNm, nmA, nmAL, Dn]; omega) (by simp [Tx.rn, Tx.rnL, sg_out (show n.l ≤ L by omega)]; simp [sg])
        · rw [kp_at0 (by simp)]
          exact .pure (by simp [Tx.look, bldU, bldD, n2, n4])
end Go.Proofs.Ytfhhbkehlfipgaa
end

section
set_option linter.unusedSimpArgs false
set_option linter.unusedVariables false
set_option linter.unnecessarySimpa false
set_option linter.unusedSectionVars false
namespace Go.Proofs.Ytfhhbkehlfipgaa
open Go.Tx
set_option maxRecDepth 100000
set_option maxHeartbeats 1000000
set_option linter.unusedSimpArgs false
set_option linter.unusedVariables false
/-! chunk.small -/
theorem small_ok {F : SF} {L nx : Nat} (b : Int) (xs : List Int) (h0 : 0 ≤ b) (h1 : b ≤ 32) (hlen : xs.length ≤ 1000000) : Con Try.prog 123 [.int .i64 b, .fs 1 (xs.map eI)] F L nx nx (.bool (xs.all (serB b))) [] [] := by
  refine Con.body (cxOk (L + 1)) rfl rfl (fn := Try.f123) (c := Try.f123.body.getD .skip) (by kernel_rfl) (by rfl) (by kernel_rfl) rfl (by simp) ?_
  intro F3 hF1 hF2
  simp only [Try.f123, cx, Nat.add_zero, go_sem, Meths.get, meths, Nat.reduceSub, Nat.reduceAdd, Nat.reduceMul, Nat.reduceEqDiff, Nat.reduceLT, Nat.reduceLeDiff, Nat.reduceBEq, Nat.reduceBNe, reduceIte, reduceCtorEq, Int.reduceToNat, String.reduceEq]
  refine loopK.intro _ _ (I := fun i : Nat => ⟨[some (.int .i64 b), none, none, none, none, none, none, some (.fs 1 (xs.map eI)), some (.int .i64 xs.length), some (.int .i64 i), none, none, none, none, none, none, none, none, none, none, none, none], [], 1000 * (i + 1)⟩) (pre := fun i => i ≤ xs.length ∧ ∀ j, j < i → serB b (xs.getD j 0) = true) (μ := fun i => xs.length - i) 0 ⟨by omega, by intro j h; omega⟩ ?_ ?_
  · exact Sub.of (fun n hn => hF2 n (by have : n.l = L + 1 := hn; omega)) (by simp only [go_sem, resVal, resVals, resVal1, one, Wk, WkL, WkLL, wkN, wkNL, wkNLL, UpdIn, UpdAll, BW, plainP, plainPL, subT, subH, subK, and_self, true_or, or_true, List.not_mem_nil, List.mem_cons, forall_eq, imp_self, implies_true, Nat.reduceSub, Nat.reduceAdd, Nat.reduceMul, Nat.reduceEqDiff, Nat.reduceLT, Nat.reduceLeDiff, Nat.reduceBEq, Nat.reduceBNe, reduceIte, reduceCtorEq, Int.reduceToNat, String.reduceEq, List.length_map, Int.natCast_zero]) trivial trivial (by simp)
  · rintro i ⟨hi, hp⟩
    have hpw : (1 : Int) ≤ 2 ^ b.toNat := (pow_le h0 h1).2
    by_cases hlt : i < xs.length
    · have f1 : decide ((i : Int) < (xs.length : Int)) = true := dT (by omega)
      have r0 := getD_eI xs hlt
      have bad : serB b (xs.getD i 0) = false → xs.all (serB b) = false := by
        intro h
        rw [List.all_eq_false]
        exact ⟨xs.getD i 0, by rw [List.getD_eq_getElem?_getD, List.getElem?_eq_getElem hlt]; simp, by rw [h]; decide⟩
      rcases Int.lt_or_le (xs.getD i 0) 0 with hn | hn
      · have f2 : decide (xs.getD i 0 < 0) = true := dT hn
        simp only [f1, f2, r0, eI, List.length_map, Nat.add_zero, go_sem, Meths.get, meths, Nat.reduceSub, Nat.reduceAdd, Nat.reduceMul, Nat.reduceEqDiff, Nat.reduceLT, Nat.reduceLeDiff, Nat.reduceBEq, Nat.reduceBNe, reduceIte, reduceCtorEq, Int.reduceToNat, String.reduceEq]
        repeat refine And.intro (by first | omega | exact ⟨by omega, by omega⟩ | exact ⟨by omega, by omega, by omega⟩ | exact ⟨⟨by omega, by omega⟩, by omega, by omega⟩ | exact okDyn_num (fun x => x.i) (by kernel_rfl) | kernel_rfl | exact okDyn_num (fun _ => 0) (by kernel_rfl)) ?_
        exact .bool (.inr rfl) rfl (bad (by unfold serB; rw [dF (show ¬ 0 ≤ xs.getD i 0 by omega)]; rfl)).symm trivial
      · have f2 : decide (xs.getD i 0 < 0) = false := dF (by omega)
        rcases Int.lt_or_le (xs.getD i 0) (2 ^ b.toNat) with hb | hb
        · have f3 := neF (shr0 h0 (by omega) hn hb)
          simp only [f1, f2, f3, r0, eI, List.length_map, Nat.add_zero, go_sem, Meths.get, meths, Nat.reduceSub, Nat.reduceAdd, Nat.reduceMul, Nat.reduceEqDiff, Nat.reduceLT, Nat.reduceLeDiff, Nat.reduceBEq, Nat.reduceBNe, reduceIte, reduceCtorEq, Int.reduceToNat, String.reduceEq]
          repeat refine And.intro (by first | omega | exact ⟨by omega, by omega⟩ | exact ⟨by omega, by omega, by omega⟩ | exact ⟨⟨by omega, by omega⟩, by omega, by omega⟩ | exact okDyn_num (fun x => x.i) (by kernel_rfl) | kernel_rfl | exact okDyn_num (fun _ => 0) (by kernel_rfl)) ?_
          refine ⟨i + 1, ⟨by omega, fun j hj => ?_⟩, by omega, ?_⟩
          · rcases Nat.lt_or_ge j i with h | h
            · exact hp j h
            · have : j = i := by omega
              subst this
              unfold serB; rw [dT hn, dT hb]; rfl
          · exact Sub.of (fun n hn => hF2 n (by have : n.l = L + 1 := hn; omega)) (by simp only [go_sem, resVal, resVals, resVal1, one, Wk, WkL, WkLL, wkN, wkNL, wkNLL, UpdIn, UpdAll, BW, plainP, plainPL, subT, subH, subK, and_self, true_or, or_true, List.not_mem_nil, List.mem_cons, forall_eq, imp_self, implies_true, Nat.reduceSub, Nat.reduceAdd, Nat.reduceMul, Nat.reduceEqDiff, Nat.reduceLT, Nat.reduceLeDiff, Nat.reduceBEq, Nat.reduceBNe, reduceIte, reduceCtorEq, Int.reduceToNat, String.reduceEq, Int.natCast_succ]) trivial trivial (by simp; omega)
        · have f3 : ((xs.getD i 0).fdiv (2 ^ min b.toNat 64) != 0) = true := neT (by
            rw [shr_eq _ h0 (by omega)]
            have := Int.le_ediv_of_mul_le (show (0 : Int) < 2 ^ b.toNat by omega) (show 1 * 2 ^ b.toNat ≤ xs.getD i 0 by omega)
            omega)
          simp only [f1, f2, f3, r0, eI, List.length_map, Nat.add_zero, go_sem, Meths.get, meths, Nat.reduceSub, Nat.reduceAdd, Nat.reduceMul, Nat.reduceEqDiff, Nat.reduceLT, Nat.reduceLeDiff, Nat.reduceBEq, Nat.reduceBNe, reduceIte, reduceCtorEq, Int.reduceToNat, String.reduceEq]
          repeat refine And.intro (by first | omega | exact ⟨by omega, by omega⟩ | exact ⟨by omega, by omega, by omega⟩ | exact ⟨⟨by omega, by omega⟩, by omega, by omega⟩ | exact okDyn_num (fun x => x.i) (by kernel_rfl) | kernel_rfl | exact okDyn_num (fun _ => 0) (by kernel_rfl)) ?_
          exact .bool (.inr rfl) rfl (bad (by unfold serB; rw [dF (show ¬ xs.getD i 0 < 2 ^ b.toNat by omega)]; simp)).symm trivial
    · have f1 : decide ((i : Int) < (xs.length : Int)) = false := dF (by omega)
      simp only [f1, List.length_map, Nat.add_zero, go_sem, Meths.get, meths, Nat.reduceSub, Nat.reduceAdd, Nat.reduceMul, Nat.reduceEqDiff, Nat.reduceLT, Nat.reduceLeDiff, Nat.reduceBEq, Nat.reduceBNe, reduceIte, reduceCtorEq, Int.reduceToNat, String.reduceEq]
      refine .bool (.inr rfl) rfl ?_ trivial
      symm
      rw [List.all_eq_true]
      intro x hx
      obtain ⟨j, hj, rfl⟩ := List.getElem_of_mem hx
      have := hp j (by omega)
      simpa [List.getD_eq_getElem?_getD, hj] using this
/-! chunk.reset.valid, for the resets that are valid -/
def rstP (kind num last res : Int) (streams : PV) : PV := .agg [.int .i64 kind, .int .i64 num, .int .i64 last, .int .i64 res, streams]
def incB (xs : List Int) : Bool := (List.range xs.length).all fun i => serB 16 (xs.getD i 0) && (i == 0 || decide (xs.getD (i - 1) 0 < xs.getD i 0))
def resetV (kind num last res : Int) (xs : List Int) : Bool :=
  incB xs && serB 32 num && serB 32 last && serB 8 res && (if kind = 2 then last == 0 && xs.isEmpty else kind == 1 && res == 0 && decide (1 ≤ xs.length) && decide (xs.length ≤ 30))
theorem resetValid_ok {F : SF} {L nx : Nat} (kind num last res : Int) (xs : List Int) (hlen : xs.length ≤ 1000000) :
    Con Try.prog 121 [rstP kind num last res (.fs 1 (xs.map eI))] F L nx nx (.bool (resetV kind num last res xs)) [] [] := by
  refine Con.body (cxOk (L + 1)) rfl rfl (fn := Try.f121) (c := Try.f121.body.getD .skip) (by kernel_rfl) (by rfl) (by kernel_rfl) rfl (by simp) ?_
  intro F3 hF1 hF2
  simp only [Try.f121, cx, rstP, Nat.add_zero, go_sem, Meths.get, meths, Nat.reduceSub, Nat.reduceAdd, Nat.reduceMul, Nat.reduceEqDiff, Nat.reduceLT, Nat.reduceLeDiff, Nat.reduceBEq, Nat.reduceBNe, reduceIte, reduceCtorEq, Int.reduceToNat, String.reduceEq]
  refine loopK.intro _ _ (I := fun i : Nat => ⟨[none, some (.ptr ⟨L + 1, 0⟩ 0 0), none, none, none, none, none, some (.fs 1 (xs.map eI)), some (.int .i64 xs.length), some (.int .i64 i), none, none, none, none, none, none, none, none, none, none, none, none, none, none, none, none, none, none, none, none, none, none, none, none, none, none, none, none, none, none, none, none, none, none, none, none, none, none, none, none, none, none, none, none, none, none, none, none, none, none, none, none, none, none, none, none, none, none, none, none, none, none, none, none, none, none, none, none, none, none, none, none, none, none, none, none, none, none, none, none], [(⟨L + 1, 0⟩, .rows 160 5 true true [[.int .i64 kind, .int .i64 num, .int .i64 last, .int .i64 res, .fs 1 (xs.map eI)]])], 10000 * (i + 1)⟩) (pre := fun i => i ≤ xs.length ∧ ∀ j, j < i → (serB 16 (xs.getD j 0) && (j == 0 || decide (xs.getD (j - 1) 0 < xs.getD j 0))) = true) (μ := fun i => xs.length - i) 0 ⟨by omega, by intro j h; omega⟩ ?_ ?_
  · exact Sub.of (fun n hn => hF2 n (by have : n.l = L + 1 := hn; omega)) (by simp only [go_sem, resVal, resVals, resVal1, one, Wk, WkL, WkLL, wkN, wkNL, wkNLL, UpdIn, UpdAll, BW, plainP, plainPL, subT, subH, subK, and_self, true_or, or_true, List.not_mem_nil, List.mem_cons, forall_eq, imp_self, implies_true, Nat.reduceSub, Nat.reduceAdd, Nat.reduceMul, Nat.reduceEqDiff, Nat.reduceLT, Nat.reduceLeDiff, Nat.reduceBEq, Nat.reduceBNe, reduceIte, reduceCtorEq, Int.reduceToNat, String.reduceEq, List.length_map, Int.natCast_zero]) (by simp [subH, Tx.look]) (by simp only [go_sem, resVal, resVals, resVal1, one, Wk, WkL, WkLL, wkN, wkNL, wkNLL, UpdIn, UpdAll, BW, plainP, plainPL, subT, subH, subK, and_self, true_or, or_true, List.not_mem_nil, List.mem_cons, forall_eq, imp_self, implies_true, Nat.reduceSub, Nat.reduceAdd, Nat.reduceMul, Nat.reduceEqDiff, Nat.reduceLT, Nat.reduceLeDiff, Nat.reduceBEq, Nat.reduceBNe, reduceIte, reduceCtorEq, Int.reduceToNat, String.reduceEq]) (by simp)
  · rintro i ⟨hi, hp⟩
    by_cases hlt : i < xs.length
    · have f1 : decide ((i : Int) < (xs.length : Int)) = true := dT (by omega)
      have r0 := getD_eI xs hlt
      have r1 := getD_eI xs (i := i - 1) (by omega)
      have e1 : ((i : Int) - 1).toNat = i - 1 := by omega
      have no : (serB 16 (xs.getD i 0) && (i == 0 || decide (xs.getD (i - 1) 0 < xs.getD i 0))) = false → resetV kind num last res xs = false := by
        intro h
        unfold resetV
        have : incB xs = false := by
          unfold incB
          rw [List.all_eq_false]
          exact ⟨i, by simpa using hlt, by rw [h]; decide⟩
        rw [this]; rfl
      have yes : (serB 16 (xs.getD i 0) && (i == 0 || decide (xs.getD (i - 1) 0 < xs.getD i 0))) = true → ∀ j, j < i + 1 → (serB 16 (xs.getD j 0) && (j == 0 || decide (xs.getD (j - 1) 0 < xs.getD j 0))) = true := by
        intro h j hj
        by_cases he : j = i
        · subst he; exact h
        · exact hp j (by omega)
      have go : ∀ j, (1 ≤ j → True) → True := fun _ _ => trivial
      cases hs : serB 16 (xs.getD i 0) with
      | false =>
        simp only [f1, r0, eI, List.length_map, nB, nB', Nat.add_zero, go_sem, Meths.get, meths, Nat.reduceSub, Nat.reduceAdd, Nat.reduceMul, Nat.reduceEqDiff, Nat.reduceLT, Nat.reduceLeDiff, Nat.reduceBEq, Nat.reduceBNe, reduceIte, reduceCtorEq, Int.reduceToNat, String.reduceEq]
        repeat refine And.intro (by first | omega | exact ⟨by omega, by omega⟩ | exact ⟨by omega, by omega, by omega⟩ | exact ⟨⟨by omega, by omega⟩, by omega, by omega⟩ | exact okDyn_num (fun x => x.i) (by kernel_rfl) | kernel_rfl | exact okDyn_num (fun _ => 0) (by kernel_rfl)) ?_
        refine CallVC.pure (args2 := [_, .fs 1 ([xs.getD i 0].map eI)]) ⟨rfl, by simp [Wk, eI, nB, nB'], trivial⟩ (small_ok 16 [xs.getD i 0] (by omega) (by omega) (by simp)) rfl ?_
        simp only [hs, nB, nB', Nat.add_zero, go_sem, Meths.get, meths, Nat.reduceSub, Nat.reduceAdd, Nat.reduceMul, Nat.reduceEqDiff, Nat.reduceLT, Nat.reduceLeDiff, Nat.reduceBEq, Nat.reduceBNe, reduceIte, reduceCtorEq, Int.reduceToNat, String.reduceEq]
        exact .bool (.inr rfl) rfl (no (by rw [hs]; rfl)).symm (by simp [UpdAll, keys])
      | true =>
        rcases Nat.eq_zero_or_pos i with h0 | h0
        · have f2 : decide ((0 : Int) < (i : Int)) = false := dF (by omega)
          simp only [f1, r0, eI, List.length_map, nB, nB', Nat.add_zero, go_sem, Meths.get, meths, Nat.reduceSub, Nat.reduceAdd, Nat.reduceMul, Nat.reduceEqDiff, Nat.reduceLT, Nat.reduceLeDiff, Nat.reduceBEq, Nat.reduceBNe, reduceIte, reduceCtorEq, Int.reduceToNat, String.reduceEq]
          repeat refine And.intro (by first | omega | exact ⟨by omega, by omega⟩ | exact ⟨by omega, by omega, by omega⟩ | exact ⟨⟨by omega, by omega⟩, by omega, by omega⟩ | exact okDyn_num (fun x => x.i) (by kernel_rfl) | kernel_rfl | exact okDyn_num (fun _ => 0) (by kernel_rfl)) ?_
          refine CallVC.pure (args2 := [_, .fs 1 ([xs.getD i 0].map eI)]) ⟨rfl, by simp [Wk, eI, nB, nB'], trivial⟩ (small_ok 16 [xs.getD i 0] (by omega) (by omega) (by simp)) rfl ?_
          simp only [hs, f2, nB, nB', Nat.add_zero, go_sem, Meths.get, meths, Nat.reduceSub, Nat.reduceAdd, Nat.reduceMul, Nat.reduceEqDiff, Nat.reduceLT, Nat.reduceLeDiff, Nat.reduceBEq, Nat.reduceBNe, reduceIte, reduceCtorEq, Int.reduceToNat, String.reduceEq]
          repeat refine And.intro (by first | omega | exact ⟨by omega, by omega⟩ | exact ⟨by omega, by omega, by omega⟩ | exact ⟨⟨by omega, by omega⟩, by omega, by omega⟩ | exact okDyn_num (fun x => x.i) (by kernel_rfl) | kernel_rfl | exact okDyn_num (fun _ => 0) (by kernel_rfl)) ?_
          refine ⟨i + 1, ⟨by omega, yes (by rw [hs, h0]; rfl)⟩, by omega, ?_⟩
          exact Sub.of (fun n hn => hF2 n (by have : n.l = L + 1 := hn; omega)) (by simp only [go_sem, resVal, resVals, resVal1, one, Wk, WkL, WkLL, wkN, wkNL, wkNLL, UpdIn, UpdAll, BW, plainP, plainPL, subT, subH, subK, and_self, true_or, or_true, List.not_mem_nil, List.mem_cons, forall_eq, imp_self, implies_true, Nat.reduceSub, Nat.reduceAdd, Nat.reduceMul, Nat.reduceEqDiff, Nat.reduceLT, Nat.reduceLeDiff, Nat.reduceBEq, Nat.reduceBNe, reduceIte, reduceCtorEq, Int.reduceToNat, String.reduceEq, Int.natCast_succ]) (by simp [subH, Tx.look, nB, nB']) (by simp only [go_sem, resVal, resVals, resVal1, one, Wk, WkL, WkLL, wkN, wkNL, wkNLL, UpdIn, UpdAll, BW, plainP, plainPL, subT, subH, subK, and_self, true_or, or_true, List.not_mem_nil, List.mem_cons, forall_eq, imp_self, implies_true, Nat.reduceSub, Nat.reduceAdd, Nat.reduceMul, Nat.reduceEqDiff, Nat.reduceLT, Nat.reduceLeDiff, Nat.reduceBEq, Nat.reduceBNe, reduceIte, reduceCtorEq, Int.reduceToNat, String.reduceEq]) (by simp only []; omega)
        · have f2 : decide ((0 : Int) < (i : Int)) = true := dT (by omega)
          have hq : (i == 0) = false := by simp; omega
          rcases Int.lt_or_le (xs.getD (i - 1) 0) (xs.getD i 0) with hc | hc
          · have f3 : decide (xs.getD i 0 ≤ xs.getD (i - 1) 0) = false := dF (by omega)
            simp only [f1, r0, eI, List.length_map, nB, nB', Nat.add_zero, go_sem, Meths.get, meths, Nat.reduceSub, Nat.reduceAdd, Nat.reduceMul, Nat.reduceEqDiff, Nat.reduceLT, Nat.reduceLeDiff, Nat.reduceBEq, Nat.reduceBNe, reduceIte, reduceCtorEq, Int.reduceToNat, String.reduceEq]
            repeat refine And.intro (by first | omega | exact ⟨by omega, by omega⟩ | exact ⟨by omega, by omega, by omega⟩ | exact ⟨⟨by omega, by omega⟩, by omega, by omega⟩ | exact okDyn_num (fun x => x.i) (by kernel_rfl) | kernel_rfl | exact okDyn_num (fun _ => 0) (by kernel_rfl)) ?_
            refine CallVC.pure (args2 := [_, .fs 1 ([xs.getD i 0].map eI)]) ⟨rfl, by simp [Wk, eI, nB, nB'], trivial⟩ (small_ok 16 [xs.getD i 0] (by omega) (by omega) (by simp)) rfl ?_
            simp only [hs, f2, f3, r1, e1, eI, nB, nB', List.length_map, Nat.add_zero, go_sem, Meths.get, meths, Nat.reduceSub, Nat.reduceAdd, Nat.reduceMul, Nat.reduceEqDiff, Nat.reduceLT, Nat.reduceLeDiff, Nat.reduceBEq, Nat.reduceBNe, reduceIte, reduceCtorEq, Int.reduceToNat, String.reduceEq]
            repeat refine And.intro (by first | omega | exact ⟨by omega, by omega⟩ | exact ⟨by omega, by omega, by omega⟩ | exact ⟨⟨by omega, by omega⟩, by omega, by omega⟩ | exact okDyn_num (fun x => x.i) (by kernel_rfl) | kernel_rfl | exact okDyn_num (fun _ => 0) (by kernel_rfl)) ?_
            refine ⟨i + 1, ⟨by omega, yes (by rw [hs, hq, dT hc]; rfl)⟩, by omega, ?_⟩
            exact Sub.of (fun n hn => hF2 n (by have : n.l = L + 1 := hn; omega)) (by simp only [go_sem, resVal, resVals, resVal1, one, Wk, WkL, WkLL, wkN, wkNL, wkNLL, UpdIn, UpdAll, BW, plainP, plainPL, subT, subH, subK, and_self, true_or, or_true, List.not_mem_nil, List.mem_cons, forall_eq, imp_self, implies_true, Nat.reduceSub, Nat.reduceAdd, Nat.reduceMul, Nat.reduceEqDiff, Nat.reduceLT, Nat.reduceLeDiff, Nat.reduceBEq, Nat.reduceBNe, reduceIte, reduceCtorEq, Int.reduceToNat, String.reduceEq, Int.natCast_succ]) (by simp [subH, Tx.look, nB, nB']) (by simp only [go_sem, resVal, resVals, resVal1, one, Wk, WkL, WkLL, wkN, wkNL, wkNLL, UpdIn, UpdAll, BW, plainP, plainPL, subT, subH, subK, and_self, true_or, or_true, List.not_mem_nil, List.mem_cons, forall_eq, imp_self, implies_true, Nat.reduceSub, Nat.reduceAdd, Nat.reduceMul, Nat.reduceEqDiff, Nat.reduceLT, Nat.reduceLeDiff, Nat.reduceBEq, Nat.reduceBNe, reduceIte, reduceCtorEq, Int.reduceToNat, String.reduceEq]) (by simp only []; omega)
          · have f3 : decide (xs.getD i 0 ≤ xs.getD (i - 1) 0) = true := dT hc
            simp only [f1, r0, eI, List.length_map, nB, nB', Nat.add_zero, go_sem, Meths.get, meths, Nat.reduceSub, Nat.reduceAdd, Nat.reduceMul, Nat.reduceEqDiff, Nat.reduceLT, Nat.reduceLeDiff, Nat.reduceBEq, Nat.reduceBNe, reduceIte, reduceCtorEq, Int.reduceToNat, String.reduceEq]
            repeat refine And.intro (by first | omega | exact ⟨by omega, by omega⟩ | exact ⟨by omega, by omega, by omega⟩ | exact ⟨⟨by omega, by omega⟩, by omega, by omega⟩ | exact okDyn_num (fun x => x.i) (by kernel_rfl) | kernel_rfl | exact okDyn_num (fun _ => 0) (by kernel_rfl)) ?_
            refine CallVC.pure (args2 := [_, .fs 1 ([xs.getD i 0].map eI)]) ⟨rfl, by simp [Wk, eI, nB, nB'], trivial⟩ (small_ok 16 [xs.getD i 0] (by omega) (by omega) (by simp)) rfl ?_
            simp only [hs, f2, f3, r1, e1, eI, nB, nB', List.length_map, Nat.add_zero, go_sem, Meths.get, meths, Nat.reduceSub, Nat.reduceAdd, Nat.reduceMul, Nat.reduceEqDiff, Nat.reduceLT, Nat.reduceLeDiff, Nat.reduceBEq, Nat.reduceBNe, reduceIte, reduceCtorEq, Int.reduceToNat, String.reduceEq]
            repeat refine And.intro (by first | omega | exact ⟨by omega, by omega⟩ | exact ⟨by omega, by omega, by omega⟩ | exact ⟨⟨by omega, by omega⟩, by omega, by omega⟩ | exact okDyn_num (fun x => x.i) (by kernel_rfl) | kernel_rfl | exact okDyn_num (fun _ => 0) (by kernel_rfl)) ?_
            exact .bool (.inr rfl) rfl (no (by rw [hs, hq, dF (show ¬ xs.getD (i - 1) 0 < xs.getD i 0 by omega)]; rfl)).symm (by simp [UpdAll, keys])
    · have f1 : decide ((i : Int) < (xs.length : Int)) = false := dF (by omega)
      have hinc : incB xs = true := by
        unfold incB
        rw [List.all_eq_true]
        intro j hj
        exact hp j (by simp at hj; omega)
      have hl0 : ((xs.length : Int) == 0) = xs.isEmpty := by cases xs <;> simp; omega
      have hl1 : decide ((xs.length : Int) ≥ 1) = decide (1 ≤ xs.length) := by simp; omega
      have hl1' : decide ((1 : Int) ≤ (xs.length : Int)) = decide (1 ≤ xs.length) := by simp; omega
      have hl30 : decide ((xs.length : Int) ≤ 30) = decide (xs.length ≤ 30) := by simp; omega
      have hV : resetV kind num last res xs = ((serB 32 num && serB 32 last) && (serB 8 res && (if (kind == 2) = true then last == 0 && xs.isEmpty else kind == 1 && res == 0 && decide (1 ≤ xs.length) && decide (xs.length ≤ 30)))) := by
        unfold resetV
        rw [hinc]
        simp [Bool.and_assoc]
      rw [hV]
      simp only [f1, List.length_map, nB, nB', Nat.add_zero, go_sem, Meths.get, meths, Nat.reduceSub, Nat.reduceAdd, Nat.reduceMul, Nat.reduceEqDiff, Nat.reduceLT, Nat.reduceLeDiff, Nat.reduceBEq, Nat.reduceBNe, reduceIte, reduceCtorEq, Int.reduceToNat, String.reduceEq]
      refine CallVC.pure (args2 := [_, .fs 1 ([num, last].map eI)]) ⟨rfl, by simp [Wk, eI, nB, nB'], trivial⟩ (small_ok 32 [num, last] (by omega) (by omega) (by simp)) rfl ?_
      cases h32 : (serB 32 num && serB 32 last) with
      | false =>
        simp only [h32, nB, nB', Nat.add_zero, go_sem, Meths.get, meths, Nat.reduceSub, Nat.reduceAdd, Nat.reduceMul, Nat.reduceEqDiff, Nat.reduceLT, Nat.reduceLeDiff, Nat.reduceBEq, Nat.reduceBNe, reduceIte, reduceCtorEq, Int.reduceToNat, String.reduceEq]
        exact .bool (.inr rfl) rfl rfl (by simp [UpdAll, keys])
      | true =>
        simp only [h32, nB, nB', Nat.add_zero, go_sem, Meths.get, meths, Nat.reduceSub, Nat.reduceAdd, Nat.reduceMul, Nat.reduceEqDiff, Nat.reduceLT, Nat.reduceLeDiff, Nat.reduceBEq, Nat.reduceBNe, reduceIte, reduceCtorEq, Int.reduceToNat, String.reduceEq]
        refine CallVC.pure (args2 := [_, .fs 1 ([res].map eI)]) ⟨rfl, by simp [Wk, eI, nB, nB', Tx.look, Nat.add_assoc], trivial⟩ (small_ok 8 [res] (by omega) (by omega) (by simp)) rfl ?_
        cases h8 : serB 8 res with
        | false =>
          simp only [h8, nB, nB', Nat.add_zero, go_sem, Meths.get, meths, Nat.reduceSub, Nat.reduceAdd, Nat.reduceMul, Nat.reduceEqDiff, Nat.reduceLT, Nat.reduceLeDiff, Nat.reduceBEq, Nat.reduceBNe, reduceIte, reduceCtorEq, Int.reduceToNat, String.reduceEq]
          exact .bool (.inr rfl) rfl rfl (by simp [UpdAll, keys])
        | true =>
          cases hk : (kind == 2) with
          | true =>
            cases hla : (last == 0) with
            | true =>
              simp only [h8, hk, hla, hl0, List.length_map, nB, nB', Nat.add_zero, go_sem, Meths.get, meths, Nat.reduceSub, Nat.reduceAdd, Nat.reduceMul, Nat.reduceEqDiff, Nat.reduceLT, Nat.reduceLeDiff, Nat.reduceBEq, Nat.reduceBNe, reduceIte, reduceCtorEq, Int.reduceToNat, String.reduceEq]
              exact .bool (.inr rfl) rfl rfl (by simp [UpdAll, keys])
            | false =>
              simp only [h8, hk, hla, nB, nB', Nat.add_zero, go_sem, Meths.get, meths, Nat.reduceSub, Nat.reduceAdd, Nat.reduceMul, Nat.reduceEqDiff, Nat.reduceLT, Nat.reduceLeDiff, Nat.reduceBEq, Nat.reduceBNe, reduceIte, reduceCtorEq, Int.reduceToNat, String.reduceEq]
              exact .bool (.inr rfl) rfl rfl (by simp [UpdAll, keys])
          | false =>
            cases hk1 : (kind == 1) with
            | false =>
              simp only [h8, hk, hk1, nB, nB', Nat.add_zero, go_sem, Meths.get, meths, Nat.reduceSub, Nat.reduceAdd, Nat.reduceMul, Nat.reduceEqDiff, Nat.reduceLT, Nat.reduceLeDiff, Nat.reduceBEq, Nat.reduceBNe, reduceIte, reduceCtorEq, Int.reduceToNat, String.reduceEq]
              exact .bool (.inr rfl) rfl rfl (by simp [UpdAll, keys])
            | true =>
              cases hr : (res == 0) with
              | false =>
                simp only [h8, hk, hk1, hr, nB, nB', Nat.add_zero, go_sem, Meths.get, meths, Nat.reduceSub, Nat.reduceAdd, Nat.reduceMul, Nat.reduceEqDiff, Nat.reduceLT, Nat.reduceLeDiff, Nat.reduceBEq, Nat.reduceBNe, reduceIte, reduceCtorEq, Int.reduceToNat, String.reduceEq]
                exact .bool (.inr rfl) rfl rfl (by simp [UpdAll, keys])
              | true =>
                cases ho : decide (1 ≤ xs.length) with
                | false =>
                  simp only [h8, hk, hk1, hr, hl1, hl1', ho, List.length_map, nB, nB', Nat.add_zero, go_sem, Meths.get, meths, Nat.reduceSub, Nat.reduceAdd, Nat.reduceMul, Nat.reduceEqDiff, Nat.reduceLT, Nat.reduceLeDiff, Nat.reduceBEq, Nat.reduceBNe, reduceIte, reduceCtorEq, Int.reduceToNat, String.reduceEq]
                  exact .bool (.inr rfl) rfl rfl (by simp [UpdAll, keys])
                | true =>
                  simp only [h8, hk, hk1, hr, hl1, hl1', ho, hl30, List.length_map, nB, nB', Nat.add_zero, go_sem, Meths.get, meths, Nat.reduceSub, Nat.reduceAdd, Nat.reduceMul, Nat.reduceEqDiff, Nat.reduceLT, Nat.reduceLeDiff, Nat.reduceBEq, Nat.reduceBNe, reduceIte, reduceCtorEq, Int.reduceToNat, String.reduceEq]
                  exact .bool (.inr rfl) rfl rfl (by simp [UpdAll, keys])
end Go.Proofs.Ytfhhbkehlfipgaa
end
