/- Lemmas for the walk: C45, C46. -/
import Derived.Test.YtfhhbkehlfipgaaCxQ
section
set_option linter.unusedSimpArgs false
set_option linter.unusedVariables false
set_option linter.unnecessarySimpa false
set_option linter.unusedSectionVars false
namespace Go.Proofs.Ytfhhbkehlfipgaa
open Go.Tx
set_option maxRecDepth 100000
set_option maxHeartbeats 16000000
set_option linter.unusedSimpArgs false
set_option linter.unusedVariables false
/-! slices of messages: Clone, Index, IndexFunc, DeleteFunc -/
theorem cloneM_ok {F : SF} {L nx : Nat} (rs : List (List PV)) (hlen : rs.length ≤ 1000000) :
    Con Try.prog 24 [.fs 4 rs] F L nx (nx + 1) (.sl ⟨L, nx⟩ 0 rs.length) [(⟨L, nx⟩, .rows 37 4 true true rs)] [] := by
  refine Con.bodyN (cxOk (L + 1)) rfl rfl (fn := Try.f24) (c := Try.f24.body.getD .skip) (by kernel_rfl) (by rfl) (by kernel_rfl) rfl (by simp) ?_
  intro F3 hF1 hF2
  simp only [Try.f24, cx, Nat.add_zero, go_sem, Meths.get, meths, Nat.reduceSub, Nat.reduceAdd, Nat.reduceMul, Nat.reduceEqDiff, Nat.reduceLT, Nat.reduceLeDiff, Nat.reduceBEq, Nat.reduceBNe, reduceIte, reduceCtorEq, Int.reduceToNat, String.reduceEq]
  refine nilK.intro fun b hb => ?_
  cases b with
  | true =>
    have hx := hb rfl
    simp only [List.length_eq_zero_iff] at hx
    subst hx
    simp only [Nat.add_zero, go_sem, Meths.get, meths, Nat.reduceSub, Nat.reduceAdd, Nat.reduceMul, Nat.reduceEqDiff, Nat.reduceLT, Nat.reduceLeDiff, Nat.reduceBEq, Nat.reduceBNe, reduceIte, reduceCtorEq, Int.reduceToNat, String.reduceEq]
    refine ⟨_, Sub.nilName 2 37 (wd := 4) (by omega) rfl, .sl1 (g := 96) (.inr rfl) rfl ⟨trivial, trivial⟩ ?_ ⟨.inl rfl, trivial⟩⟩
    simp [updH, setH, Tx.look]
  | false =>
    simp only [Nat.add_zero, go_sem, Meths.get, meths, Nat.reduceSub, Nat.reduceAdd, Nat.reduceMul, Nat.reduceEqDiff, Nat.reduceLT, Nat.reduceLeDiff, Nat.reduceBEq, Nat.reduceBNe, reduceIte, reduceCtorEq, Int.reduceToNat, String.reduceEq]
    exact ⟨⟨by omega, by omega⟩, .now (.sl1 (g := 128) (.inr rfl) rfl ⟨trivial, trivial⟩ (by simp [Tx.look]) ⟨.inl rfl, .inl rfl, trivial⟩)⟩
theorem rowM {l : List Msg} {i : Nat} (h : i < l.length) : (l.map Msg.row).getD i [] = (l[i]).row := by simp [h, List.getD_eq_getElem?_getD]
theorem indexM_ok {F : SF} {L nx : Nat} (l : List Msg) (m : Msg) (hlen : l.length ≤ 1000000) : Con Try.prog 25 [.fs 4 (l.map Msg.row), .agg m.row] F L nx nx (.int .i64 (idxI (fun y => eqM m y) l)) [] [] := by
  refine Con.body (cxOk (L + 1)) rfl rfl (fn := Try.f25) (c := Try.f25.body.getD .skip) (by kernel_rfl) (by rfl) (by kernel_rfl) rfl (by simp) ?_
  intro F3 hF1 hF2
  simp only [Try.f25, cx, Msg.row, List.length_map, nm_beq, Nat.reduceBEq, nB, nB', nS2, nS2', Nat.add_assoc, Nat.reduceAdd, Nat.add_zero, go_sem, Meths.get, meths, Nat.reduceSub, Nat.reduceAdd, Nat.reduceMul, Nat.reduceEqDiff, Nat.reduceLT, Nat.reduceLeDiff, Nat.reduceBEq, Nat.reduceBNe, reduceIte, reduceCtorEq, Int.reduceToNat, String.reduceEq]
  refine loopK.intro _ _ (I := fun i : Nat => ⟨[some (.fs 4 (l.map Msg.row)), none, none, some (.ptr ⟨L + 1, 0⟩ 0 0), none, none, none, some (.int .i64 l.length), some (.int .i64 i), none, none, none, none, none, none, none, none, none, none], [(⟨L + 1, 0⟩, .rows 37 4 true true [m.row])], 10000 * (i + 1)⟩) (pre := fun i => i ≤ l.length ∧ ∀ (j : Nat) (hj : j < l.length), j < i → eqM m l[j] = false) (μ := fun i => l.length - i) 0 ⟨by omega, by intro j _ h; omega⟩ ?_ ?_
  · refine Sub.of (fun n hn => hF2 n (by have : n.l = L + 1 := hn; omega)) (by simp only [go_sem, resVal, resVals, resVal1, one, Wk, WkL, WkLL, wkN, wkNL, wkNLL, UpdIn, UpdAll, BW, plainP, plainPL, subT, subH, subK, and_self, true_or, or_true, List.not_mem_nil, List.mem_cons, forall_eq, imp_self, implies_true, Nat.reduceSub, Nat.reduceAdd, Nat.reduceMul, Nat.reduceEqDiff, Nat.reduceLT, Nat.reduceLeDiff, Nat.reduceBEq, Nat.reduceBNe, reduceIte, reduceCtorEq, Int.reduceToNat, String.reduceEq, List.length_map, Int.natCast_zero, Msg.row]) ?_ (by simp [subK, keys]) (by simp)
    simp [subH, Tx.look, Msg.row]
  · rintro i ⟨hi, hp⟩
    by_cases hlt : i < l.length
    · have f1 : decide ((i : Int) < (l.length : Int)) = true := dT (by omega)
      have r0 := rowM hlt
      obtain ⟨y, hy⟩ : ∃ y, y = l[i] := ⟨_, rfl⟩
      rw [← hy] at r0
      have he : (m.st == y.st && (m.pr == y.pr && (m.lo == y.lo && m.tx == y.tx))) = eqM m y := rfl
      cases hpi : eqM m y
      · rw [hpi] at he
        simp only [f1, r0, he, Msg.row, List.length_map, nm_beq, Nat.reduceBEq, nB, nB', nS2, nS2', Nat.add_assoc, Nat.reduceAdd, Nat.add_zero, go_sem, Meths.get, meths, Nat.reduceSub, Nat.reduceAdd, Nat.reduceMul, Nat.reduceEqDiff, Nat.reduceLT, Nat.reduceLeDiff, Nat.reduceBEq, Nat.reduceBNe, reduceIte, reduceCtorEq, Int.reduceToNat, String.reduceEq]
        repeat refine And.intro (by first | omega | exact ⟨by omega, by omega⟩ | exact ⟨by omega, by omega, by omega⟩ | exact ⟨⟨by omega, by omega⟩, by omega, by omega⟩ | exact okDyn_num (fun x => x.i) (by kernel_rfl) | kernel_rfl | exact okDyn_num (fun _ => 0) (by kernel_rfl)) ?_
        refine ⟨i + 1, ⟨by omega, fun j hj hji => ?_⟩, by omega, ?_⟩
        · by_cases hji' : j = i
          · subst hji'; rw [← hy]; exact hpi
          · exact hp j hj (by omega)
        · refine Sub.of (fun n hn => hF2 n (by have : n.l = L + 1 := hn; omega)) (by simp only [go_sem, resVal, resVals, resVal1, one, Wk, WkL, WkLL, wkN, wkNL, wkNLL, UpdIn, UpdAll, BW, plainP, plainPL, subT, subH, subK, and_self, true_or, or_true, List.not_mem_nil, List.mem_cons, forall_eq, imp_self, implies_true, Nat.reduceSub, Nat.reduceAdd, Nat.reduceMul, Nat.reduceEqDiff, Nat.reduceLT, Nat.reduceLeDiff, Nat.reduceBEq, Nat.reduceBNe, reduceIte, reduceCtorEq, Int.reduceToNat, String.reduceEq, Int.natCast_succ, Msg.row]) ?_ (by simp [subK, keys]) (by simp only []; omega)
          simp [subH, Tx.look, Msg.row]
      · rw [hpi] at he
        simp only [f1, r0, he, Msg.row, List.length_map, nm_beq, Nat.reduceBEq, nB, nB', nS2, nS2', Nat.add_assoc, Nat.reduceAdd, Nat.add_zero, go_sem, Meths.get, meths, Nat.reduceSub, Nat.reduceAdd, Nat.reduceMul, Nat.reduceEqDiff, Nat.reduceLT, Nat.reduceLeDiff, Nat.reduceBEq, Nat.reduceBNe, reduceIte, reduceCtorEq, Int.reduceToNat, String.reduceEq]
        repeat refine And.intro (by first | omega | exact ⟨by omega, by omega⟩ | exact ⟨by omega, by omega, by omega⟩ | exact ⟨⟨by omega, by omega⟩, by omega, by omega⟩ | exact okDyn_num (fun x => x.i) (by kernel_rfl) | kernel_rfl | exact okDyn_num (fun _ => 0) (by kernel_rfl)) ?_
        exact .int (.inr rfl) rfl (idxI_stop hlt hp (by rw [← hy]; exact hpi)).symm (by simp [UpdAll, keys])
    · have f1 : decide ((i : Int) < (l.length : Int)) = false := dF (by omega)
      simp only [f1, nm_beq, Nat.reduceBEq, nB, nB', nS2, nS2', Nat.add_assoc, Nat.reduceAdd, Nat.add_zero, go_sem, Meths.get, meths, Nat.reduceSub, Nat.reduceAdd, Nat.reduceMul, Nat.reduceEqDiff, Nat.reduceLT, Nat.reduceLeDiff, Nat.reduceBEq, Nat.reduceBNe, reduceIte, reduceCtorEq, Int.reduceToNat, String.reduceEq]
      exact .int (.inr rfl) rfl (idxI_end (fun j hj => hp j hj (by omega))).symm (by simp [UpdAll, keys])
theorem indexFuncM_ok {F : SF} {L nx : Nat} (n : Nm) (hn : n.l ≤ L) (l : List Msg) (o : Bool) (g : FuncId) (fl cl : List PV) (p : Msg → Bool) (rd : List Nm) (hrd : ∀ m ∈ rd, m.l ≤ L) (hlen : l.length ≤ 1000) (hF : F n = some (.rows 37 4 o true (l.map Msg.row)))
    (hcl : ∀ x ∈ l, ∀ L' nx', L ≤ L' → Con Try.prog g (fl ++ [.agg x.row] ++ cl) F L' nx' nx' (.bool (p x)) [] rd) :
    Con Try.prog 54 [.sl n 0 l.length, .fn (.func g) fl cl] F L nx nx (.int .i64 (idxI p l)) [] (n :: rd) := by
  have hrd2 : ∀ m ∈ n :: rd, m.l ≤ L := fun m hm => (List.mem_cons.1 hm).elim (fun e => e ▸ hn) (hrd m)
  refine Con.body (cxOk (L + 1)) rfl rfl (fn := Try.f54) (c := Try.f54.body.getD .skip) (by kernel_rfl) (by rfl) (by kernel_rfl) rfl  hrd2 ?_
  intro F3 hF1 hF2
  have hF := (hF1 n (by simp)).trans hF
  have q5 := nm_out' hn
  have q6 := nm_out hn
  simp only [Try.f54, cx, hF, q5, q6, nm_beq, Nat.reduceBEq, nB, nB', nS2, nS2', Nat.add_assoc, Nat.reduceAdd, Nat.add_zero, go_sem, Meths.get, meths, Nat.reduceSub, Nat.reduceAdd, Nat.reduceMul, Nat.reduceEqDiff, Nat.reduceLT, Nat.reduceLeDiff, Nat.reduceBEq, Nat.reduceBNe, reduceIte, reduceCtorEq, Int.reduceToNat, String.reduceEq]
  refine loopK.intro _ _ (I := fun i : Nat => ⟨[some (.sl n 0 l.length), some (.fn (.func g) fl cl), none, none, none, none, none, some (.int .i64 l.length), some (.int .i64 i), none, none, none, none, none, none, none, none, none, none], [], 10000 * (i + 1)⟩) (pre := fun i => i ≤ l.length ∧ ∀ (j : Nat) (hj : j < l.length), j < i → p l[j] = false) (μ := fun i => l.length - i) 0 ⟨by omega, by intro j _ h; omega⟩ ?_ ?_
  · exact Sub.of (fun n hn => hF2 n (by have : n.l = L + 1 := hn; omega)) (by simp only [go_sem, resVal, resVals, resVal1, one, Wk, WkL, WkLL, wkN, wkNL, wkNLL, UpdIn, UpdAll, BW, plainP, plainPL, subT, subH, subK, and_self, true_or, or_true, List.not_mem_nil, List.mem_cons, forall_eq, imp_self, implies_true, Nat.reduceSub, Nat.reduceAdd, Nat.reduceMul, Nat.reduceEqDiff, Nat.reduceLT, Nat.reduceLeDiff, Nat.reduceBEq, Nat.reduceBNe, reduceIte, reduceCtorEq, Int.reduceToNat, String.reduceEq, List.length_map, Int.natCast_zero]) trivial trivial (by simp)
  · rintro i ⟨hi, hp⟩
    by_cases hlt : i < l.length
    · have f1 : decide ((i : Int) < (l.length : Int)) = true := dT (by omega)
      have r0 := rowM hlt
      have hc := fun nx' => hcl l[i] (List.getElem_mem hlt) (L + 1) nx' (by omega)
      obtain ⟨y, hy⟩ : ∃ y, y = l[i] := ⟨_, rfl⟩
      rw [← hy] at r0
      simp only [← hy] at hc
      simp only [f1, r0, hF, q5, q6, Msg.row, List.length_map, nm_beq, Nat.reduceBEq, nB, nB', nS2, nS2', Nat.add_assoc, Nat.reduceAdd, Nat.add_zero, go_sem, Meths.get, meths, Nat.reduceSub, Nat.reduceAdd, Nat.reduceMul, Nat.reduceEqDiff, Nat.reduceLT, Nat.reduceLeDiff, Nat.reduceBEq, Nat.reduceBNe, reduceIte, reduceCtorEq, Int.reduceToNat, String.reduceEq]
      repeat refine And.intro (by first | omega | exact ⟨by omega, by omega⟩ | exact ⟨by omega, by omega, by omega⟩ | exact ⟨⟨by omega, by omega⟩, by omega, by omega⟩ | exact okS (by kernel_rfl)) ?_
      rw [show ([.int .i64 y.st, .int .i64 y.pr, .bool y.lo, .str y.tx] : List PV) = y.row from rfl]
      refine CallVC.same ((hc _).agree (fun m hm => hF1 m (by simp [hm]))) ?_
      cases hpi : p y
      · simp only [Nat.add_zero, go_sem, Meths.get, meths, Nat.reduceSub, Nat.reduceAdd, Nat.reduceMul, Nat.reduceEqDiff, Nat.reduceLT, Nat.reduceLeDiff, Nat.reduceBEq, Nat.reduceBNe, reduceIte, reduceCtorEq, Int.reduceToNat, String.reduceEq]
        refine ⟨⟨by omega, by omega⟩, i + 1, ⟨by omega, fun j hj hji => ?_⟩, by omega, Sub.of (fun n hn => hF2 n (by have : n.l = L + 1 := hn; omega)) (by simp only [go_sem, resVal, resVals, resVal1, one, Wk, WkL, WkLL, wkN, wkNL, wkNLL, UpdIn, UpdAll, BW, plainP, plainPL, subT, subH, subK, and_self, true_or, or_true, List.not_mem_nil, List.mem_cons, forall_eq, imp_self, implies_true, Nat.reduceSub, Nat.reduceAdd, Nat.reduceMul, Nat.reduceEqDiff, Nat.reduceLT, Nat.reduceLeDiff, Nat.reduceBEq, Nat.reduceBNe, reduceIte, reduceCtorEq, Int.reduceToNat, String.reduceEq, Int.natCast_succ]) trivial trivial (by simp only []; omega)⟩
        by_cases he : j = i
        · subst he; rw [← hy]; exact hpi
        · exact hp j hj (by omega)
      · simp only [Nat.add_zero, go_sem, Meths.get, meths, Nat.reduceSub, Nat.reduceAdd, Nat.reduceMul, Nat.reduceEqDiff, Nat.reduceLT, Nat.reduceLeDiff, Nat.reduceBEq, Nat.reduceBNe, reduceIte, reduceCtorEq, Int.reduceToNat, String.reduceEq]
        exact .int (.inr rfl) rfl (idxI_stop hlt hp (by rw [← hy]; exact hpi)).symm trivial
    · have f1 : decide ((i : Int) < (l.length : Int)) = false := dF (by omega)
      simp only [f1, Nat.add_zero, go_sem, Meths.get, meths, Nat.reduceSub, Nat.reduceAdd, Nat.reduceMul, Nat.reduceEqDiff, Nat.reduceLT, Nat.reduceLeDiff, Nat.reduceBEq, Nat.reduceBNe, reduceIte, reduceCtorEq, Int.reduceToNat, String.reduceEq]
      exact .int (.inr rfl) rfl (idxI_end (fun j hj => hp j hj (by omega))).symm trivial
theorem joins1_ok {F : SF} {L nx : Nat} (m : Msg) (a : Nm) (ha : a.l ≤ L) (ea : TypeId) (o p : Bool) (st : Int) (hF : F a = some (.rows ea 1 o p [[.int .i64 st]])) :
    Con Try.prog 27 [.agg m.row, .ptr a 0 0] F L nx nx (.bool (!(ordB st m))) [] [a] := by
  refine Con.body (cxOk (L + 1)) rfl rfl (fn := Try.f27) (c := Try.f27.body.getD .skip) (by kernel_rfl) (by rfl) (by kernel_rfl) rfl  (by simpa using ha) ?_
  intro F3 hF1 hF2
  have hF := (hF1 a (by simp)).trans hF
  have q1 := nm_out' ha
  have q2 := nm_out ha
  unfold ordB
  cases h1 : m.st != st with
  | true =>
    have h2 : (m.st == st) = false := by simpa using h1
    simp only [Try.f27, cx, Msg.row, hF, q1, q2, h1, h2, Nat.add_zero, go_sem, Meths.get, meths, Nat.reduceSub, Nat.reduceAdd, Nat.reduceMul, Nat.reduceEqDiff, Nat.reduceLT, Nat.reduceLeDiff, Nat.reduceBEq, Nat.reduceBNe, reduceIte, reduceCtorEq, Int.reduceToNat, String.reduceEq]
    exact .bool (.inr rfl) rfl rfl (by simp [UpdAll, keys])
  | false =>
    have h2 : (m.st == st) = true := by simpa using h1
    simp only [Try.f27, cx, Msg.row, hF, q1, q2, h1, h2, Nat.add_zero, go_sem, Meths.get, meths, Nat.reduceSub, Nat.reduceAdd, Nat.reduceMul, Nat.reduceEqDiff, Nat.reduceLT, Nat.reduceLeDiff, Nat.reduceBEq, Nat.reduceBNe, reduceIte, reduceCtorEq, Int.reduceToNat, String.reduceEq]
    exact .bool (.inr rfl) rfl (by cases m.lo <;> rfl) (by simp [UpdAll, keys])
end Go.Proofs.Ytfhhbkehlfipgaa
end

section
set_option linter.unusedSimpArgs false
set_option linter.unusedVariables false
set_option linter.unnecessarySimpa false
set_option linter.unusedSectionVars false
namespace Go.Proofs.Ytfhhbkehlfipgaa
open Go.Tx
set_option maxRecDepth 100000
set_option maxHeartbeats 16000000
set_option linter.unusedSimpArgs false
set_option linter.unusedVariables false
/-! slices.DeleteFunc of messages -/
structure DfX where
  i : Nat
  j : Nat
  R : List (List PV)
def keptM (l : List Msg) (p : Msg → Bool) : List Msg := l.filter fun m => !p m
def dfI (l : List Msg) (p : Msg → Bool) (z : DfX) : Prop :=
  z.i < z.j ∧ z.j ≤ l.length ∧ z.R.length = l.length ∧ (keptM (l.take z.j) p).length = z.i ∧ z.R.take z.i = (keptM (l.take z.j) p).map Msg.row ∧ z.R.drop z.j = (l.drop z.j).map Msg.row ∧ ∀ r ∈ z.R, r.length = 4
theorem keptM_all {l : List Msg} {p : Msg → Bool} (h : ∀ (j : Nat) (hj : j < l.length), p l[j] = false) : keptM l p = l := by
  unfold keptM
  rw [List.filter_eq_self]
  intro m hm
  obtain ⟨j, hj, rfl⟩ := List.getElem_of_mem hm
  rw [h j hj]; rfl
theorem keptM_succ {l : List Msg} {p : Msg → Bool} {j : Nat} (h : j < l.length) : keptM (l.take (j + 1)) p = keptM (l.take j) p ++ if p l[j] then [] else [l[j]] := by
  unfold keptM
  rw [List.take_succ_eq_append_getElem h, List.filter_append]
  congr 1
  cases hp : p l[j] <;> simp [hp]
theorem idx_cases {l : List Msg} (p : Msg → Bool) : (idxI p l = -1 ∧ ∀ (j : Nat) (hj : j < l.length), p l[j] = false) ∨ ∃ i : Nat, ∃ h : i < l.length, idxI p l = i ∧ p l[i] = true ∧ ∀ (j : Nat) (hj : j < l.length), j < i → p l[j] = false := by
  unfold idxI
  cases hx : l.findIdx? p with
  | none =>
    left
    rw [List.findIdx?_eq_none_iff] at hx
    exact ⟨rfl, fun j hj => by simpa using hx _ (List.getElem_mem hj)⟩
  | some i =>
    right
    rw [List.findIdx?_eq_some_iff_getElem] at hx
    obtain ⟨h1, h2, h3⟩ := hx
    exact ⟨i, h1, rfl, h2, fun j hj hji => by simpa using h3 j hji⟩
theorem deleteFuncM_ok {F : SF} {L nx : Nat} (n : Nm) (hn : n.l < L ∨ (n.l = L ∧ n.i < nx)) (l : List Msg) (g : FuncId) (fl cl : List PV) (p : Msg → Bool) (rd : List Nm) (hrd : ∀ m ∈ rd, m.l ≤ L) (hnr : n ∉ rd) (hlen : l.length ≤ 1000) (hF : F n = some (.rows 37 4 true true (l.map Msg.row)))
    (hcl : ∀ x ∈ l, ∀ L' nx', L ≤ L' → Con Try.prog g (fl ++ [.agg x.row] ++ cl) F L' nx' nx' (.bool (p x)) [] rd) :
    Con Try.prog 29 [.sl n 0 l.length, .fn (.func g) fl cl] F L nx nx (.sl n 0 (keptM l p).length) [(n, .rows 37 4 true true ((keptM l p).map Msg.row ++ List.replicate (l.length - (keptM l p).length) zM))] (n :: rd) := by
  have hnl : n.l ≤ L := by omega
  have hrd2 : ∀ m ∈ n :: rd, m.l ≤ L := fun m hm => (List.mem_cons.1 hm).elim (fun e => e ▸ hnl) (hrd m)
  show Con Try.prog 29 _ F L nx (nx + 0) _ _ _
  refine Con.bodyN (cxOk (L + 1)) rfl rfl (fn := Try.f29) (c := Try.f29.body.getD .skip) (by kernel_rfl) (by rfl) (by kernel_rfl) rfl  hrd2 ?_
  intro F3 hF1 hF2
  have hF0 := hF
  have hF := (hF1 n (by simp)).trans hF
  have q5 := nm_out' hnl
  have q6 := nm_out hnl
  simp only [Try.f29, cx, hF, q5, q6, nm_beq, Nat.reduceBEq, nB, nB', nS2, nS2', Nat.add_assoc, Nat.reduceAdd, nm_self, Nat.add_zero, go_sem, Meths.get, meths, Nat.reduceSub, Nat.reduceAdd, Nat.reduceMul, Nat.reduceEqDiff, Nat.reduceLT, Nat.reduceLeDiff, Nat.reduceBEq, Nat.reduceBNe, reduceIte, reduceCtorEq, Int.reduceToNat, String.reduceEq]
  refine CallVC.same (indexFuncM_ok n (by omega) l true g fl cl p rd (fun m hm => by have := hrd m hm; omega) hlen (by simp only [hF]) (fun x hx L' nx' hL => (hcl x hx L' nx' (by omega)).agree (fun m hm => hF1 m (by simp [hm])))) ?_
  rcases idx_cases (l := l) p with ⟨e0, hno⟩ | ⟨i0, hi0, e0, hpi, hbe⟩
  · rw [e0]
    have f1 : ((-1 : Int) == -1) = true := rfl
    have ek := keptM_all hno
    rw [ek]
    simp only [f1, hF, q5, q6, nm_beq, Nat.reduceBEq, nB, nB', nS2, nS2', Nat.add_assoc, Nat.reduceAdd, nm_self, Nat.add_zero, go_sem, Meths.get, meths, Nat.reduceSub, Nat.reduceAdd, Nat.reduceMul, Nat.reduceEqDiff, Nat.reduceLT, Nat.reduceLeDiff, Nat.reduceBEq, Nat.reduceBNe, reduceIte, reduceCtorEq, Int.reduceToNat, String.reduceEq]
    refine .now (PostN.val [] (.inr rfl) (by simp) (p := True) (v0 := .sl n 0 l.length) ?_ trivial ?_ ?_ ⟨by omega, ?_, trivial⟩ ?_)
    · simp only [resVal, resVals, resVal1, one, Nat.add_zero, go_sem, Meths.get, meths, Nat.reduceSub, Nat.reduceAdd, Nat.reduceMul, Nat.reduceEqDiff, Nat.reduceLT, Nat.reduceLeDiff, Nat.reduceBEq, Nat.reduceBNe, reduceIte, reduceCtorEq, Int.reduceToNat, String.reduceEq]
    · simp [nmA, nmAL, Dn]; omega
    · simp [Tx.rn, Tx.rnL, sg_out hnl]
    · rw [kp_nil]
      exact .pure (by simp [Tx.look, hF])
    · simp [UpdAll, keys]
  · rw [e0]
    have f1 : ((i0 : Int) == -1) = false := eqF (by omega)
    have hk0 : keptM (l.take (i0 + 1)) p = l.take i0 := by
      rw [keptM_succ hi0, if_pos hpi, List.append_nil]
      refine keptM_all fun j hj => ?_
      simp only [List.length_take] at hj
      rw [List.getElem_take]
      exact hbe j (by omega) (by omega)
    simp only [f1, hF, q5, q6, nm_beq, Nat.reduceBEq, nB, nB', nS2, nS2', Nat.add_assoc, Nat.reduceAdd, nm_self, Nat.add_zero, go_sem, Meths.get, meths, Nat.reduceSub, Nat.reduceAdd, Nat.reduceMul, Nat.reduceEqDiff, Nat.reduceLT, Nat.reduceLeDiff, Nat.reduceBEq, Nat.reduceBNe, reduceIte, reduceCtorEq, Int.reduceToNat, String.reduceEq]
    repeat refine And.intro (by first | omega | exact ⟨by omega, by omega⟩ | exact ⟨by omega, by omega, by omega⟩ | exact ⟨⟨by omega, by omega⟩, by omega, by omega⟩ | exact okS (by kernel_rfl)) ?_
    refine loopK.intro _ _ (I := fun z : DfX => ⟨[some (.sl n 0 l.length), some (.fn (.func g) fl cl), none, none, none, some (.int .i64 z.i), some (.int .i64 z.j), none, none, none, none, none, none, none, none, none, none, none, none, none, none, none, none, none, none, none, none, none, none, none, none, none, none, none, none, none, none, none, none, none, none, none], [(n, .rows 37 4 true true z.R)], 10000 * (z.j + 1)⟩) (pre := dfI l p) (μ := fun z => l.length - z.j) ⟨i0, i0 + 1, l.map Msg.row⟩ ⟨by simp only []; omega, by simp only []; omega, by simp, by simp only [hk0]; simp; omega, by simp only [hk0]; rw [List.map_take], by simp only []; rw [List.map_drop], by simp only [List.mem_map]; rintro r ⟨m, _, rfl⟩; rfl⟩ ?_ ?_
    · refine Sub.of (fun n hn => hF2 n (by have : n.l = L + 1 := hn; omega)) (by simp only [go_sem, resVal, resVals, resVal1, one, Wk, WkL, WkLL, wkN, wkNL, wkNLL, UpdIn, UpdAll, BW, plainP, plainPL, subT, subH, subK, and_self, true_or, or_true, List.not_mem_nil, List.mem_cons, forall_eq, imp_self, implies_true, Nat.reduceSub, Nat.reduceAdd, Nat.reduceMul, Nat.reduceEqDiff, Nat.reduceLT, Nat.reduceLeDiff, Nat.reduceBEq, Nat.reduceBNe, reduceIte, reduceCtorEq, Int.reduceToNat, String.reduceEq, Int.natCast_succ]) ?_ (by simp [subK, keys]) (by simp only []; omega)
      simp [subH, Tx.look, hF]
    · rintro ⟨k, i, R⟩ ⟨h1, h2, h3, h4, h5, h6, h7⟩
      simp only at h1 h2 h3 h4 h5 h6 h7 ⊢
      by_cases hlt : i < l.length
      · have g1 : decide ((i : Int) < (l.length : Int)) = true := dT (by omega)
        have r0 : R.getD i [] = (l[i]).row := by
          have := congrArg (fun y => y[0]?) h6
          simp only [List.getElem?_drop, Nat.add_zero, List.getElem?_map] at this
          rw [List.getD_eq_getElem?_getD, this, List.getElem?_eq_getElem hlt]; rfl
        have hc := fun nx' => hcl l[i] (List.getElem_mem hlt) (L + 1) nx' (by omega)
        have hks := keptM_succ (p := p) hlt
        have hd6 : R.drop (i + 1) = (l.drop (i + 1)).map Msg.row := by
          have := congrArg (List.drop 1) h6
          rw [List.drop_drop, ← List.map_drop, List.drop_drop] at this
          exact this
        obtain ⟨y, hy⟩ : ∃ y, y = l[i] := ⟨_, rfl⟩
        rw [← hy] at r0 hks
        simp only [← hy] at hc
        simp only [g1, r0, q5, q6, Msg.row, List.length_map, nm_beq, Nat.reduceBEq, nB, nB', nS2, nS2', Nat.add_assoc, Nat.reduceAdd, nm_self, Nat.add_zero, go_sem, Meths.get, meths, Nat.reduceSub, Nat.reduceAdd, Nat.reduceMul, Nat.reduceEqDiff, Nat.reduceLT, Nat.reduceLeDiff, Nat.reduceBEq, Nat.reduceBNe, reduceIte, reduceCtorEq, Int.reduceToNat, String.reduceEq]
        repeat refine And.intro (by first | omega | exact ⟨by omega, by omega⟩ | exact ⟨by omega, by omega, by omega⟩ | exact ⟨⟨by omega, by omega⟩, by omega, by omega⟩ | exact okS (by kernel_rfl)) ?_
        rw [show ([.int .i64 y.st, .int .i64 y.pr, .bool y.lo, .str y.tx] : List PV) = y.row from rfl]
        refine CallVC.same ((hc _).agree (fun m hm => ?_)) ?_
        · have hml := hrd m hm
          have o2 := nm_out hml
          have hne : (m = n) = False := by apply eq_false; rintro rfl; exact hnr hm
          simp only [o2, hne, if_false]
          exact hF1 m (by simp [hm])
        cases hpy : p y with
        | true =>
          rw [hpy] at hks
          simp only [if_true, List.append_nil] at hks
          simp only [g1, r0, q5, q6, Msg.row, List.length_map, nm_beq, Nat.reduceBEq, nB, nB', nS2, nS2', Nat.add_assoc, Nat.reduceAdd, nm_self, Nat.add_zero, go_sem, Meths.get, meths, Nat.reduceSub, Nat.reduceAdd, Nat.reduceMul, Nat.reduceEqDiff, Nat.reduceLT, Nat.reduceLeDiff, Nat.reduceBEq, Nat.reduceBNe, reduceIte, reduceCtorEq, Int.reduceToNat, String.reduceEq]
          repeat refine And.intro (by first | omega | exact ⟨by omega, by omega⟩ | exact ⟨by omega, by omega, by omega⟩ | exact ⟨⟨by omega, by omega⟩, by omega, by omega⟩ | exact okS (by kernel_rfl)) ?_
          refine ⟨⟨k, i + 1, R⟩, ⟨by simp only []; omega, by simp only []; omega, h3, by simp only [hks]; exact h4, by simp only [hks]; exact h5, hd6, h7⟩, by simp only []; omega, ?_⟩
          refine Sub.of (fun n hn => hF2 n (by have : n.l = L + 1 := hn; omega)) (by simp only [go_sem, resVal, resVals, resVal1, one, Wk, WkL, WkLL, wkN, wkNL, wkNLL, UpdIn, UpdAll, BW, plainP, plainPL, subT, subH, subK, and_self, true_or, or_true, List.not_mem_nil, List.mem_cons, forall_eq, imp_self, implies_true, Nat.reduceSub, Nat.reduceAdd, Nat.reduceMul, Nat.reduceEqDiff, Nat.reduceLT, Nat.reduceLeDiff, Nat.reduceBEq, Nat.reduceBNe, reduceIte, reduceCtorEq, Int.reduceToNat, String.reduceEq, Int.natCast_succ]) ?_ (by simp [subK, keys]) (by simp only []; omega)
          simp [subH, Tx.look, q5, q6]
        | false =>
          rw [hpy] at hks
          simp only [if_false, Bool.false_eq_true] at hks
          simp only [g1, r0, q5, q6, Msg.row, Int.toNat_natCast, List.length_map, nm_beq, Nat.reduceBEq, nB, nB', nS2, nS2', Nat.add_assoc, Nat.reduceAdd, nm_self, Nat.add_zero, go_sem, Meths.get, meths, Nat.reduceSub, Nat.reduceAdd, Nat.reduceMul, Nat.reduceEqDiff, Nat.reduceLT, Nat.reduceLeDiff, Nat.reduceBEq, Nat.reduceBNe, reduceIte, reduceCtorEq, Int.reduceToNat, String.reduceEq]
          repeat refine And.intro (by first | omega | exact ⟨by omega, by omega⟩ | exact ⟨by omega, by omega, by omega⟩ | exact ⟨⟨by omega, by omega⟩, by omega, by omega⟩ | exact okS (by kernel_rfl)) ?_
          have hkR : k < R.length := by omega
          have hk4 : (R.getD k []).length = 4 := by
            rw [List.getD_eq_getElem?_getD, List.getElem?_eq_getElem hkR]
            exact h7 _ (List.getElem_mem hkR)
          have hset : (.int .i64 y.st :: .int .i64 y.pr :: .bool y.lo :: .str y.tx :: List.drop 4 (R.getD k []) : List PV) = y.row := by
            rw [List.drop_of_length_le (by omega)]; rfl
          have hset' := hset
          rw [List.getD_eq_getElem?_getD] at hset'
          refine ⟨⟨k + 1, i + 1, R.set k y.row⟩, ⟨by simp only []; omega, by simp only []; omega, by simp only [List.length_set]; exact h3, by simp only [hks]; simp; exact h4, ?_, ?_, ?_⟩, by simp only []; omega, ?_⟩
          · simp only [hks, List.map_append, ← h5, List.map_cons, List.map_nil]
            rw [List.take_succ_eq_append_getElem (by simpa using hkR), List.getElem_set_self, List.take_set_of_le (Nat.le_refl _)]
          · simp only []
            rw [List.drop_set_of_lt (by omega)]; exact hd6
          · intro r hr
            rcases List.mem_or_eq_of_mem_set hr with hr | rfl
            · exact h7 r hr
            · rfl
          · refine Sub.of (fun n hn => hF2 n (by have : n.l = L + 1 := hn; omega)) (by simp only [go_sem, resVal, resVals, resVal1, one, Wk, WkL, WkLL, wkN, wkNL, wkNLL, UpdIn, UpdAll, BW, plainP, plainPL, subT, subH, subK, and_self, true_or, or_true, List.not_mem_nil, List.mem_cons, forall_eq, imp_self, implies_true, Nat.reduceSub, Nat.reduceAdd, Nat.reduceMul, Nat.reduceEqDiff, Nat.reduceLT, Nat.reduceLeDiff, Nat.reduceBEq, Nat.reduceBNe, reduceIte, reduceCtorEq, Int.reduceToNat, String.reduceEq, Int.natCast_succ]) ?_ (by simp [subK, keys]) (by simp only []; omega)
            simp [subH, Tx.look, q5, q6, hset, hset']
      · have g1 : decide ((i : Int) < (l.length : Int)) = false := dF (by omega)
        have e : i = l.length := by omega
        rw [e, List.take_of_length_le (Nat.le_refl _)] at h4 h5
        simp only [g1, q5, q6, Int.toNat_natCast, nm_beq, Nat.reduceBEq, nB, nB', nS2, nS2', Nat.add_assoc, Nat.reduceAdd, nm_self, Nat.add_zero, go_sem, Meths.get, meths, Nat.reduceSub, Nat.reduceAdd, Nat.reduceMul, Nat.reduceEqDiff, Nat.reduceLT, Nat.reduceLeDiff, Nat.reduceBEq, Nat.reduceBNe, reduceIte, reduceCtorEq, Int.reduceToNat, String.reduceEq]
        repeat refine And.intro (by first | omega | exact ⟨by omega, by omega⟩ | exact ⟨by omega, by omega, by omega⟩ | exact ⟨⟨by omega, by omega⟩, by omega, by omega⟩ | exact okS (by kernel_rfl)) ?_
        have hRl : (List.take k R ++ List.replicate (l.length - k) zM ++ List.drop (k + (l.length - k)) R).length = l.length := by simp; omega
        have hRe : List.take k R ++ List.replicate (l.length - k) zM ++ List.drop (k + (l.length - k)) R = (keptM l p).map Msg.row ++ List.replicate (l.length - (keptM l p).length) zM := by
          rw [h5, h4, List.drop_of_length_le (by omega), List.append_nil]
        simp only [zM] at hRl hRe
        refine ⟨⟨by omega, by omega, by rw [hRl]; omega, .inl trivial⟩, ?_⟩
        refine .now (PostN.val [] (.inr rfl) (by simp) (p := True) (v0 := .sl n 0 (keptM l p).length) ?_ trivial ?_ ?_ ⟨by omega, ?_, trivial⟩ ?_)
        · simp only [resVal, resVals, resVal1, one, h4, Nat.sub_zero, Nat.add_zero, go_sem, Meths.get, meths, Nat.reduceSub, Nat.reduceAdd, Nat.reduceMul, Nat.reduceEqDiff, Nat.reduceLT, Nat.reduceLeDiff, Nat.reduceBEq, Nat.reduceBNe, reduceIte, reduceCtorEq, Int.reduceToNat, String.reduceEq]
        · simp [nmA, nmAL, Dn]; omega
        · simp [Tx.rn, Tx.rnL, sg_out hnl]
        · rw [kp_nil]
          exact .pure (by simp only [Tx.look, if_true, hRe]; rfl)
        · simp [UpdAll, keys]
end Go.Proofs.Ytfhhbkehlfipgaa
end
