/- Lemmas for the walk: C40, C41, C42, C43. -/
import Derived.Test.YtfhhbkehlfipgaaCxM
import Derived.Test.YtfhhbkehlfipgaaDxA
section
set_option linter.unusedSimpArgs false
set_option linter.unusedVariables false
set_option linter.unnecessarySimpa false
set_option linter.unusedSectionVars false
namespace Go.Proofs.Ytfhhbkehlfipgaa
open Go.Tx
set_option maxRecDepth 100000
set_option maxHeartbeats 16000000
set_option linter.unusedSimpArgs false
set_option linter.unusedVariables false
/-! slices.Delete -/
theorem nm_self (n : Nm) : (n == n) = true := by simp
def zD : List PV := [.int .i64 0, .int .i64 0, .int .i64 0, .int .i64 0, .bool false, .bool false, .bool false, .str []]
def delR (z : List PV) (rs : List (List PV)) (len i : Nat) : List (List PV) := rs.take i ++ (rs.take len).drop (i + 1) ++ [z] ++ rs.drop len
theorem delR_eq (z : List PV) {rs : List (List PV)} {len i : Nat} (hi : i < len) (hl : len ≤ rs.length) :
    (rs.take i ++ (rs.drop (i + 1)).take (len - (i + 1)) ++ rs.drop (len - 1)).take (len - 1) ++ List.replicate 1 z ++ (rs.take i ++ (rs.drop (i + 1)).take (len - (i + 1)) ++ rs.drop (len - 1)).drop (len - 1 + 1) = delR z rs len i := by
  obtain ⟨A, hA⟩ : ∃ A, A = rs.take i ++ (rs.drop (i + 1)).take (len - (i + 1)) := ⟨_, rfl⟩
  have h1 : A.length = len - 1 := by rw [hA]; simp; omega
  rw [← hA, List.take_append_of_le_length (by omega), List.take_of_length_le (by omega), show len - 1 + 1 = A.length + 1 by omega, List.drop_append, List.drop_drop]
  rw [List.drop_of_length_le (by omega), List.nil_append, show A.length + 1 - A.length = 1 by omega, show len - 1 + 1 = len by omega]
  unfold delR
  rw [hA, List.drop_take]
  rfl
theorem deleteD_ok {F : SF} {L nx : Nat} (n : Nm) (hn : n.l < L ∨ (n.l = L ∧ n.i < nx)) (rs : List (List PV)) (len i : Nat) (hi : i < len) (hl : len ≤ rs.length) (hlen : rs.length ≤ 1000) (hF : F n = some (.rows 43 8 true true rs)) :
    Con Try.prog 53 [.sl n 0 len, .int .i64 i, .int .i64 ((i + 1 : Nat) : Int)] F L nx nx (.sl n 0 (len - 1)) [(n, .rows 43 8 true true (delR zD rs len i))] [n] := by
  show Con Try.prog 53 _ F L nx (nx + 0) _ _ _
  refine Con.bodyN (cxOk (L + 1)) rfl rfl (fn := Try.f53) (c := Try.f53.body.getD .skip) (by kernel_rfl) (by rfl) (by kernel_rfl) rfl  (by simp; omega) ?_
  intro F3 hF1 hF2
  have hF := (hF1 n (by simp)).trans hF
  have hnl : n.l ≤ L := by omega
  have q5 := nm_out' hnl
  have q6 := nm_out hnl
  have e0 : ((rs.drop (i + 1)).take (len - (i + 1))).length = len - (i + 1) := by simp; omega
  have e2 : i + (len - (i + 1)) = len - 1 := by omega
  have e3 : len - (len - 1) = 1 := by omega
  have f1 : ((i : Int) == ((i + 1 : Nat) : Int)) = false := eqF (by omega)
  simp only [Try.f53, cx, hF, q5, q6, f1, nm_self, Nat.sub_zero, e0, e2, e3, nm_beq, Nat.reduceBEq, nB, nB', nS2, nS2', Nat.add_assoc, Nat.reduceAdd, Nat.add_zero, go_sem, Meths.get, meths, Nat.reduceSub, Nat.reduceAdd, Nat.reduceMul, Nat.reduceEqDiff, Nat.reduceLT, Nat.reduceLeDiff, Nat.reduceBEq, Nat.reduceBNe, reduceIte, reduceCtorEq, Int.reduceToNat, String.reduceEq]
  have hRl : (rs.take i ++ (rs.drop (i + 1)).take (len - (i + 1)) ++ rs.drop (len - 1)).length = rs.length := by simp; omega
  refine ⟨⟨by omega, by omega, by omega, by omega⟩, okS (by kernel_rfl), ⟨by omega, by omega, by omega, .inl trivial⟩, ⟨by omega, by omega, by omega, .inl trivial⟩, ⟨by omega, by omega⟩, okDyn_num (fun _ => 0) (by simp only [numF, List.map]; kernel_rfl), ⟨by omega, by omega, by rw [hRl]; omega, .inl trivial⟩, by rw [hRl]; omega, ?_⟩
  refine .now (PostN.val [] (.inr rfl) (by simp) (p := True) (v0 := .sl n 0 (len - 1)) ?_ trivial ?_ ?_ ⟨by omega, ?_, trivial⟩ ?_)
  · simp only [resVal, resVals, resVal1, one, Nat.add_zero, go_sem, Meths.get, meths, Nat.reduceSub, Nat.reduceAdd, Nat.reduceMul, Nat.reduceEqDiff, Nat.reduceLT, Nat.reduceLeDiff, Nat.reduceBEq, Nat.reduceBNe, reduceIte, reduceCtorEq, Int.reduceToNat, String.reduceEq]
  · simp [nmA, nmAL, Dn]; omega
  · simp [Tx.rn, Tx.rnL, sg_out hnl]
  · rw [kp_nil]
    have e4 := delR_eq zD hi hl
    simp only [List.replicate, zD] at e4
    exact .pure (by simp only [Tx.look, if_true, e4]; rfl)
  · simp [UpdAll, keys]
end Go.Proofs.Ytfhhbkehlfipgaa
end

section
set_option linter.unusedSimpArgs false
set_option linter.unusedVariables false
set_option linter.unnecessarySimpa false
set_option linter.unusedSectionVars false
namespace Go.Proofs.Ytfhhbkehlfipgaa
open Go.Tx
set_option maxRecDepth 100000
set_option maxHeartbeats 16000000
set_option linter.unusedSimpArgs false
set_option linter.unusedVariables false
/-! slices.Delete of messages; mixed -/
def zM : List PV := [.int .i64 0, .int .i64 0, .bool false, .str []]
theorem deleteM_ok {F : SF} {L nx : Nat} (n : Nm) (hn : n.l < L ∨ (n.l = L ∧ n.i < nx)) (rs : List (List PV)) (len i : Nat) (hi : i < len) (hl : len ≤ rs.length) (hlen : rs.length ≤ 1000) (hF : F n = some (.rows 37 4 true true rs)) :
    Con Try.prog 26 [.sl n 0 len, .int .i64 i, .int .i64 ((i + 1 : Nat) : Int)] F L nx nx (.sl n 0 (len - 1)) [(n, .rows 37 4 true true (delR zM rs len i))] [n] := by
  show Con Try.prog 26 _ F L nx (nx + 0) _ _ _
  refine Con.bodyN (cxOk (L + 1)) rfl rfl (fn := Try.f26) (c := Try.f26.body.getD .skip) (by kernel_rfl) (by rfl) (by kernel_rfl) rfl  (by simp; omega) ?_
  intro F3 hF1 hF2
  have hF := (hF1 n (by simp)).trans hF
  have hnl : n.l ≤ L := by omega
  have q5 := nm_out' hnl
  have q6 := nm_out hnl
  have e0 : ((rs.drop (i + 1)).take (len - (i + 1))).length = len - (i + 1) := by simp; omega
  have e2 : i + (len - (i + 1)) = len - 1 := by omega
  have e3 : len - (len - 1) = 1 := by omega
  have f1 : ((i : Int) == ((i + 1 : Nat) : Int)) = false := eqF (by omega)
  simp only [Try.f26, cx, hF, q5, q6, f1, nm_self, Nat.sub_zero, e0, e2, e3, nm_beq, Nat.reduceBEq, nB, nB', nS2, nS2', Nat.add_assoc, Nat.reduceAdd, Nat.add_zero, go_sem, Meths.get, meths, Nat.reduceSub, Nat.reduceAdd, Nat.reduceMul, Nat.reduceEqDiff, Nat.reduceLT, Nat.reduceLeDiff, Nat.reduceBEq, Nat.reduceBNe, reduceIte, reduceCtorEq, Int.reduceToNat, String.reduceEq]
  have hRl : (rs.take i ++ (rs.drop (i + 1)).take (len - (i + 1)) ++ rs.drop (len - 1)).length = rs.length := by simp; omega
  refine ⟨⟨by omega, by omega, by omega, by omega⟩, okS (by kernel_rfl), ⟨by omega, by omega, by omega, .inl trivial⟩, ⟨by omega, by omega, by omega, .inl trivial⟩, ⟨by omega, by omega⟩, okDyn_num (fun _ => 0) (by simp only [numF, List.map]; kernel_rfl), ⟨by omega, by omega, by rw [hRl]; omega, .inl trivial⟩, by rw [hRl]; omega, ?_⟩
  refine .now (PostN.val [] (.inr rfl) (by simp) (p := True) (v0 := .sl n 0 (len - 1)) ?_ trivial ?_ ?_ ⟨by omega, ?_, trivial⟩ ?_)
  · simp only [resVal, resVals, resVal1, one, Nat.add_zero, go_sem, Meths.get, meths, Nat.reduceSub, Nat.reduceAdd, Nat.reduceMul, Nat.reduceEqDiff, Nat.reduceLT, Nat.reduceLeDiff, Nat.reduceBEq, Nat.reduceBNe, reduceIte, reduceCtorEq, Int.reduceToNat, String.reduceEq]
  · simp [nmA, nmAL, Dn]; omega
  · simp [Tx.rn, Tx.rnL, sg_out hnl]
  · rw [kp_nil]
    have e4 := delR_eq zM hi hl
    simp only [List.replicate, zM] at e4
    exact .pure (by simp only [Tx.look, if_true, e4]; rfl)
  · simp [UpdAll, keys]
theorem delR_map {α : Type} (f : α → List PV) (z : List PV) (l : List α) (c i : Nat) (hi : i < l.length) : delR z (l.map f ++ List.replicate c z) l.length i = (l.eraseIdx i).map f ++ List.replicate (c + 1) z := by
  unfold delR
  have h1 : (l.map f ++ List.replicate c z).take l.length = l.map f := by rw [List.take_append_of_le_length (by simp), List.take_of_length_le (by simp)]
  have h2 : (l.map f ++ List.replicate c z).drop l.length = List.replicate c z := by rw [List.drop_append_of_le_length (by simp), List.drop_of_length_le (by simp)]; rfl
  rw [h1, h2, List.take_append_of_le_length (by simp; omega), ← List.map_take, ← List.map_drop, List.eraseIdx_eq_take_drop_succ, List.map_append]
  simp [List.replicate_succ]
def pickG (order : List Nat) (span i n : Nat) : Nat := if i < order.length then order.getD i 0 % min n span else 0
def mixG (order : List Nat) (span : Nat) : Nat → Nat → List Dat → List Dat → List Dat
  | 0, _, _, out => out
  | k + 1, i, rest, out => if rest.length = 0 then out else mixG order span k (i + 1) (rest.eraseIdx (pickG order span i rest.length)) (out ++ [rest.getD (pickG order span i rest.length) datZ])
theorem pickG_lt {order : List Nat} {span i n : Nat} (hs : 0 < span) (hn : 0 < n) : pickG order span i n < n := by
  unfold pickG
  split
  · exact Nat.lt_of_lt_of_le (Nat.mod_lt _ (by omega)) (by omega)
  · exact hn
theorem eraseIdx_perm {α : Type} {l : List α} {i : Nat} (h : i < l.length) : (l[i] :: l.eraseIdx i).Perm l := by
  rw [List.eraseIdx_eq_take_drop_succ]
  refine List.perm_middle.symm.trans ?_
  rw [← List.drop_eq_getElem_cons h, List.take_append_drop]
theorem mixG_perm (order : List Nat) (span : Nat) (hs : 0 < span) : ∀ (k i : Nat) (rest out : List Dat), rest.length ≤ k → (mixG order span k i rest out).Perm (out ++ rest)
  | 0, i, rest, out, h => by
    have : rest = [] := List.length_eq_zero_iff.1 (by omega)
    subst this
    simp [mixG]
  | k + 1, i, rest, out, h => by
    rw [mixG]
    split
    · have : rest = [] := List.length_eq_zero_iff.1 (by assumption)
      subst this; simp
    · have hlt := pickG_lt (order := order) (i := i) hs (show 0 < rest.length by omega)
      refine (mixG_perm order span hs k (i + 1) _ _ (by rw [List.length_eraseIdx]; split <;> omega)).trans ?_
      rw [List.append_assoc]
      refine List.Perm.append_left _ ?_
      rw [show rest.getD (pickG order span i rest.length) datZ = rest[pickG order span i rest.length] by simp [hlt, List.getD_eq_getElem?_getD]]
      exact eraseIdx_perm hlt
end Go.Proofs.Ytfhhbkehlfipgaa
end

section
set_option linter.unusedSimpArgs false
set_option linter.unusedVariables false
set_option linter.unnecessarySimpa false
set_option linter.unusedSectionVars false
namespace Go.Proofs.Ytfhhbkehlfipgaa
open Go.Tx
set_option maxRecDepth 100000
set_option maxHeartbeats 16000000
set_option linter.unusedSimpArgs false
set_option linter.unusedVariables false
/-! mixed -/
structure MixX where
  i : Nat
  q : Nat
  z : Nat
  rest : List Dat
  out : List Dat
def oU (k : Nat) : List PV := [.int .u8 k]
def mixI (order : List Nat) (span : Nat) (l : List Dat) (x : MixX) : Prop :=
  x.rest.length + x.i = l.length ∧ x.out.length = x.i ∧ x.z = x.i ∧ mixG order span x.rest.length x.i x.rest x.out = mixG order span l.length 0 l [] ∧ 161 ≤ x.q ∧ x.q < 10000 * (x.i + 1)
theorem mixed_ok {F : SF} {L nx : Nat} (l : List Dat) (order : List Nat) (span : Nat) (hs : 0 < span) (hs2 : span < 1000) (hl : l.length ≤ 500) (ho : ∀ k ∈ order, k < 256) (ho2 : order.length ≤ 9223372036854775807) :
    Con Try.prog 23 [.fs 8 (l.map Dat.row), .fs 1 (order.map oU), .int .i64 span] F L nx nx (.fs 8 ((mixG order span l.length 0 l []).map Dat.row)) [] [] := by
  refine Con.body (cxOk (L + 1)) rfl rfl (fn := Try.f23) (c := Try.f23.body.getD .skip) (by kernel_rfl) (by rfl) (by kernel_rfl) rfl (by simp) ?_
  intro F3 hF1 hF2
  simp only [Try.f23, cx, nm_beq, Nat.reduceBEq, nB, nB', nS2, nS2', Nat.add_assoc, Nat.reduceAdd, List.length_map, Nat.add_zero, go_sem, Meths.get, meths, Nat.reduceSub, Nat.reduceAdd, Nat.reduceMul, Nat.reduceEqDiff, Nat.reduceLT, Nat.reduceLeDiff, Nat.reduceBEq, Nat.reduceBNe, reduceIte, reduceCtorEq, Int.reduceToNat, String.reduceEq]
  refine CallVC.same (cloneD_ok (l.map Dat.row) (by simp; omega)) ?_
  simp only [nm_beq, Nat.reduceBEq, nB, nB', nS2, nS2', Nat.add_assoc, Nat.reduceAdd, List.length_map, Nat.add_zero, go_sem, Meths.get, meths, Nat.reduceSub, Nat.reduceAdd, Nat.reduceMul, Nat.reduceEqDiff, Nat.reduceLT, Nat.reduceLeDiff, Nat.reduceBEq, Nat.reduceBNe, reduceIte, reduceCtorEq, Int.reduceToNat, String.reduceEq]
  refine loopK.intro _ _ (I := fun x : MixX => ⟨[none, some (.fs 1 (order.map oU)), some (.int .i64 span), none, none, none, none, some (.sl ⟨L + 1, 64⟩ 0 x.rest.length), some (.sl ⟨L + 1, x.q⟩ 0 x.out.length), some (.int .i64 x.i), none, none, none, none, none, none, none, none, none, none, none, none, none, none, none, none, none, none, none, none, none, none, none, none, none, none, none, none, none, none, none, none, none, none, none],
    [(⟨L + 1, 64⟩, .rows 43 8 true true (x.rest.map Dat.row ++ List.replicate x.z zD)), (⟨L + 1, x.q⟩, .rows 43 8 true true (x.out.map Dat.row))], 10000 * (x.i + 1)⟩)
    (pre := mixI order span l) (μ := fun x => x.rest.length) ⟨0, 161, 0, l, []⟩ ⟨by simp, rfl, rfl, rfl, by simp, by simp⟩ ?_ ?_
  · refine Sub.trans (Sub.nilName 8 43 (wd := 8) (by omega) rfl) ?_
    refine Sub.of (fun n hn => hF2 n (by have : n.l = L + 1 := hn; omega)) (by simp only [List.length_nil, go_sem, resVal, resVals, resVal1, one, Wk, WkL, WkLL, wkN, wkNL, wkNLL, UpdIn, UpdAll, BW, plainP, plainPL, subT, subH, subK, and_self, true_or, or_true, List.not_mem_nil, List.mem_cons, forall_eq, imp_self, implies_true, Nat.reduceSub, Nat.reduceAdd, Nat.reduceMul, Nat.reduceEqDiff, Nat.reduceLT, Nat.reduceLeDiff, Nat.reduceBEq, Nat.reduceBNe, reduceIte, reduceCtorEq, Int.reduceToNat, String.reduceEq, Int.natCast_zero]) ?_ (by simp [subK, keys, updH, setH]) (by simp)
    simp [subH, Tx.look, updH, setH]
  · rintro ⟨i, q, z, rest, out⟩ ⟨h1, h2, h3, h4, k1, k2⟩
    simp only at h1 h2 h3 h4 k1 k2 ⊢
    have q_64 : (q = 64) = False := by apply eq_false; omega
    have n64_q : (64 = q) = False := by apply eq_false; omega
    have q_n1 : ∀ kk, (10000 * (i + 1) + kk = q) = False := fun kk => by apply eq_false; omega
    have q_n2 : ∀ kk, (q = 10000 * (i + 1) + kk) = False := fun kk => by apply eq_false; omega
    have q_n3 : (10000 * (i + 1) = q) = False := by apply eq_false; omega
    have q_n4 : (q = 10000 * (i + 1)) = False := by apply eq_false; omega
    have q_n5 : ∀ kk, ((⟨L + 1, q⟩ : Nm) == ⟨L + 1, 10000 * (i + 1) + kk⟩) = false := fun kk => by simp; omega
    by_cases hlt : 0 < rest.length
    · have f1 : decide ((0 : Int) < (rest.length : Int)) = true := dT (by omega)
      have hpk := pickG_lt (order := order) (i := i) hs hlt
      obtain ⟨k, hk⟩ : ∃ k, k = pickG order span i rest.length := ⟨_, rfl⟩
      rw [← hk] at hpk
      obtain ⟨m, hm⟩ : ∃ m, rest.length = m + 1 := ⟨rest.length - 1, by omega⟩
      have h4' := h4
      rw [hm, mixG, if_neg (by omega), ← hk] at h4'
      have r0 : (rest.map Dat.row ++ List.replicate z zD).getD k [] = (rest.getD k datZ).row := by
        rw [List.getD_eq_getElem?_getD, List.getElem?_append_left (by simpa using hpk)]
        simp [hpk, List.getD_eq_getElem?_getD]
      obtain ⟨d, hd⟩ : ∃ d, d = rest.getD k datZ := ⟨_, rfl⟩
      rw [← hd] at r0 h4'
      have hel : (rest.eraseIdx k).length = m := by rw [List.length_eraseIdx]; split <;> omega
      have hde := delR_map Dat.row zD rest z k hpk
      have hE : ∀ F L nx (n : Nm) (hn : n.l < L ∨ (n.l = L ∧ n.i < nx)) (hF : F n = some (.rows 43 8 true true (rest.map Dat.row ++ List.replicate z zD))), Con Try.prog 53 [.sl n 0 rest.length, .int .i64 k, .int .i64 ((k : Int) + 1)] F L nx nx (.sl n 0 m) [(n, .rows 43 8 true true ((rest.eraseIdx k).map Dat.row ++ List.replicate (z + 1) zD))] [n] := by
        intro F L nx n hn hF
        have := deleteD_ok (F := F) (L := L) (nx := nx) n hn (rest.map Dat.row ++ List.replicate z zD) rest.length k hpk (by simp) (by simp; omega) hF
        rw [hde, show rest.length - 1 = m by omega] at this
        exact this
      by_cases hio : i < order.length
      · have f2 : decide ((i : Int) < (order.length : Int)) = true := dT (by omega)
        have r1 : (order.map oU).getD i [] = [.int .u8 ((order.getD i 0 : Nat) : Int)] := by simp [hio, List.getD_eq_getElem?_getD, oU]
        have hk' : k = order.getD i 0 % min rest.length span := by rw [hk, pickG, if_pos hio]
        have t5 : ((order.getD i 0 : Nat) : Int).tmod (min (rest.length : Int) (span : Int)) = (k : Int) := by
          rw [show min (rest.length : Int) (span : Int) = ((min rest.length span : Nat) : Int) by omega, hk']; rfl
        simp only [f1, f2, r0, r1, t5, Int.toNat_natCast, Dat.row, nm_beq, Nat.reduceBEq, nB, nB', nS2, nS2', Nat.add_assoc, Nat.reduceAdd, q_64, n64_q, q_n1, q_n2, q_n3, q_n4, q_n5, List.length_map, Nat.add_zero, go_sem, Meths.get, meths, Nat.reduceSub, Nat.reduceAdd, Nat.reduceMul, Nat.reduceEqDiff, Nat.reduceLT, Nat.reduceLeDiff, Nat.reduceBEq, Nat.reduceBNe, reduceIte, reduceCtorEq, Int.reduceToNat, String.reduceEq]
        have hob : order.getD i 0 < 256 := ho _ (by simp [List.getD_eq_getElem?_getD, hio])
        repeat refine And.intro (by first | omega | exact ⟨by omega, by omega⟩ | (rw [List.length_append, List.length_map, List.length_replicate]; omega) | (simp; done)) ?_
        refine CallVC.same (hE _ _ _ ⟨L + 1, 64⟩ (.inr ⟨rfl, by simp only []; omega⟩) (by simp [q_64, n64_q, q_n1, q_n2, q_n3, q_n4, q_n5])) ?_
        simp only [Dat.row, nm_beq, Nat.reduceBEq, nB, nB', nS2, nS2', Nat.add_assoc, Nat.reduceAdd, q_64, n64_q, q_n1, q_n2, q_n3, q_n4, q_n5, List.length_map, Nat.add_zero, go_sem, Meths.get, meths, Nat.reduceSub, Nat.reduceAdd, Nat.reduceMul, Nat.reduceEqDiff, Nat.reduceLT, Nat.reduceLeDiff, Nat.reduceBEq, Nat.reduceBNe, reduceIte, reduceCtorEq, Int.reduceToNat, String.reduceEq]
        repeat refine And.intro (by first | omega | exact ⟨by omega, by omega⟩ | exact ⟨by omega, by omega, by omega⟩ | exact ⟨⟨by omega, by omega⟩, by omega, by omega⟩ | exact okS (by kernel_rfl)) ?_
        refine ⟨⟨i + 1, 10000 * (i + 1) + 800, z + 1, rest.eraseIdx k, out ++ [d]⟩, ⟨by simp only [hel]; omega, by simp; omega, by simp only []; omega, by rw [hel]; exact h4', by simp only []; omega, by simp only []; omega⟩, by simp only [hel]; omega, ?_⟩
        refine Sub.of (fun n hn => hF2 n (by have : n.l = L + 1 := hn; omega)) (by simp only [hel, List.length_append, List.length_cons, List.length_nil, go_sem, resVal, resVals, resVal1, one, Wk, WkL, WkLL, wkN, wkNL, wkNLL, UpdIn, UpdAll, BW, plainP, plainPL, subT, subH, subK, and_self, true_or, or_true, List.not_mem_nil, List.mem_cons, forall_eq, imp_self, implies_true, Nat.reduceSub, Nat.reduceAdd, Nat.reduceMul, Nat.reduceEqDiff, Nat.reduceLT, Nat.reduceLeDiff, Nat.reduceBEq, Nat.reduceBNe, reduceIte, reduceCtorEq, Int.reduceToNat, String.reduceEq, Int.natCast_succ]) ?_ (by simp [subK, keys]) (by simp only []; omega)
        simp [subH, Tx.look, Dat.row, List.replicate_succ, nm_beq, Nat.reduceBEq, nB, nB', nS2, nS2', Nat.add_assoc, Nat.reduceAdd, q_64, n64_q, q_n1, q_n2, q_n3, q_n4, q_n5]
      · have f2 : decide ((i : Int) < (order.length : Int)) = false := dF (by omega)
        have hk' : k = 0 := by rw [hk, pickG, if_neg hio]
        subst hk'
        simp only [Int.natCast_zero] at hE
        simp only [f1, f2, r0, Dat.row, nm_beq, Nat.reduceBEq, nB, nB', nS2, nS2', Nat.add_assoc, Nat.reduceAdd, q_64, n64_q, q_n1, q_n2, q_n3, q_n4, q_n5, List.length_map, Nat.add_zero, go_sem, Meths.get, meths, Nat.reduceSub, Nat.reduceAdd, Nat.reduceMul, Nat.reduceEqDiff, Nat.reduceLT, Nat.reduceLeDiff, Nat.reduceBEq, Nat.reduceBNe, reduceIte, reduceCtorEq, Int.reduceToNat, String.reduceEq]
        repeat refine And.intro (by first | omega | exact ⟨by omega, by omega⟩ | (rw [List.length_append, List.length_map, List.length_replicate]; omega) | (simp; done)) ?_
        refine CallVC.same (hE _ _ _ ⟨L + 1, 64⟩ (.inr ⟨rfl, by simp only []; omega⟩) (by simp [q_64, n64_q, q_n1, q_n2, q_n3, q_n4, q_n5])) ?_
        simp only [Dat.row, nm_beq, Nat.reduceBEq, nB, nB', nS2, nS2', Nat.add_assoc, Nat.reduceAdd, q_64, n64_q, q_n1, q_n2, q_n3, q_n4, q_n5, List.length_map, Nat.add_zero, go_sem, Meths.get, meths, Nat.reduceSub, Nat.reduceAdd, Nat.reduceMul, Nat.reduceEqDiff, Nat.reduceLT, Nat.reduceLeDiff, Nat.reduceBEq, Nat.reduceBNe, reduceIte, reduceCtorEq, Int.reduceToNat, String.reduceEq]
        repeat refine And.intro (by first | omega | exact ⟨by omega, by omega⟩ | exact ⟨by omega, by omega, by omega⟩ | exact ⟨⟨by omega, by omega⟩, by omega, by omega⟩ | exact okS (by kernel_rfl)) ?_
        refine ⟨⟨i + 1, 10000 * (i + 1) + 448, z + 1, rest.eraseIdx 0, out ++ [d]⟩, ⟨by simp only [hel]; omega, by simp; omega, by simp only []; omega, by rw [hel]; exact h4', by simp only []; omega, by simp only []; omega⟩, by simp only [hel]; omega, ?_⟩
        refine Sub.of (fun n hn => hF2 n (by have : n.l = L + 1 := hn; omega)) (by simp only [hel, List.length_append, List.length_cons, List.length_nil, go_sem, resVal, resVals, resVal1, one, Wk, WkL, WkLL, wkN, wkNL, wkNLL, UpdIn, UpdAll, BW, plainP, plainPL, subT, subH, subK, and_self, true_or, or_true, List.not_mem_nil, List.mem_cons, forall_eq, imp_self, implies_true, Nat.reduceSub, Nat.reduceAdd, Nat.reduceMul, Nat.reduceEqDiff, Nat.reduceLT, Nat.reduceLeDiff, Nat.reduceBEq, Nat.reduceBNe, reduceIte, reduceCtorEq, Int.reduceToNat, String.reduceEq, Int.natCast_succ]) ?_ (by simp [subK, keys]) (by simp only []; omega)
        simp [subH, Tx.look, Dat.row, List.replicate_succ, nm_beq, Nat.reduceBEq, nB, nB', nS2, nS2', Nat.add_assoc, Nat.reduceAdd, q_64, n64_q, q_n1, q_n2, q_n3, q_n4, q_n5]
    · have f1 : decide ((0 : Int) < (rest.length : Int)) = false := dF (by omega)
      rw [show rest.length = 0 by omega, mixG] at h4
      rw [← h4]
      simp only [f1, nm_beq, Nat.reduceBEq, nB, nB', nS2, nS2', Nat.add_assoc, Nat.reduceAdd, q_64, n64_q, q_n1, q_n2, q_n3, q_n4, q_n5, List.length_map, Nat.add_zero, go_sem, Meths.get, meths, Nat.reduceSub, Nat.reduceAdd, Nat.reduceMul, Nat.reduceEqDiff, Nat.reduceLT, Nat.reduceLeDiff, Nat.reduceBEq, Nat.reduceBNe, reduceIte, reduceCtorEq, Int.reduceToNat, String.reduceEq]
      exact PostF.of (p := True) (v0 := .sl ⟨L + 1, q⟩ 0 out.length ) (.inr rfl) (by simp only [resVal, resVals, resVal1, one, Nat.add_zero, go_sem, Meths.get, meths, Nat.reduceSub, Nat.reduceAdd, Nat.reduceMul, Nat.reduceEqDiff, Nat.reduceLT, Nat.reduceLeDiff, Nat.reduceBEq, Nat.reduceBNe, reduceIte, reduceCtorEq, Int.reduceToNat, String.reduceEq]) trivial (by simp [Wk, WkL, Tx.look, List.take_of_length_le, nB, nB', q_64, n64_q]) (by simp [wkN, wkNL]) (by simp [Tx.nf, nfl]) trivial (by simp [UpdAll, keys])
end Go.Proofs.Ytfhhbkehlfipgaa
end

section
set_option linter.unusedSimpArgs false
set_option linter.unusedVariables false
set_option linter.unnecessarySimpa false
set_option linter.unusedSectionVars false
namespace Go.Proofs.Ytfhhbkehlfipgaa
open Go.Tx
set_option maxRecDepth 100000
set_option maxHeartbeats 16000000
set_option linter.unusedSimpArgs false
set_option linter.unusedVariables false
/-! Same, where no piece waits; what the drafted words say -/
theorem sameDataF_ok {F : SF} {L nx : Nat} : Con Try.prog 51 [.fs 8 [], .fs 8 []] F L nx nx (.bool true) [] [] := by
  refine Con.body (cxOk (L + 1)) rfl rfl (fn := Try.f51) (c := Try.f51.body.getD .skip) (by kernel_rfl) (by rfl) (by kernel_rfl) rfl (by simp) ?_
  intro F3 hF1 hF2
  have f1 : decide ((0 : Int) < ((0 : Nat) : Int)) = false := rfl
  have f2 : (((0 : Nat) : Int) != ((0 : Nat) : Int)) = false := rfl
  simp only [Try.f51, cx, f2, Nat.add_zero, go_sem, Meths.get, meths, Nat.reduceSub, Nat.reduceAdd, Nat.reduceMul, Nat.reduceEqDiff, Nat.reduceLT, Nat.reduceLeDiff, Nat.reduceBEq, Nat.reduceBNe, reduceIte, reduceCtorEq, Int.reduceToNat, String.reduceEq]
  refine loopK.unit ?_
  simp only [f1, Nat.add_zero, go_sem, Meths.get, meths, Nat.reduceSub, Nat.reduceAdd, Nat.reduceMul, Nat.reduceEqDiff, Nat.reduceLT, Nat.reduceLeDiff, Nat.reduceBEq, Nat.reduceBNe, reduceIte, reduceCtorEq, Int.reduceToNat, String.reduceEq]
  exact .bool (.inr rfl) rfl rfl (by simp [UpdAll, keys])
theorem sameF_ok {F : SF} {L nx : Nat} (out inn asked : List Int) (num seen : Int) (h1 : out.length ≤ 1000000) (h2 : inn.length ≤ 1000000) (h3 : asked.length ≤ 1000000) :
    Con Try.prog 18 [strV out inn num seen asked [], strV out inn num seen asked []] F L nx nx (.bool true) [] [] := by
  refine Con.body (cxOk (L + 1)) rfl rfl (fn := Try.f18) (c := Try.f18.body.getD .skip) (by kernel_rfl) (by rfl) (by kernel_rfl) rfl (by simp) ?_
  intro F3 hF1 hF2
  have f1 : (num == num) = true := by simp
  have f2 : (seen == seen) = true := by simp
  simp only [Try.f18, cx, strV, List.map_nil, Nat.add_zero, go_sem, Meths.get, meths, Nat.reduceSub, Nat.reduceAdd, Nat.reduceMul, Nat.reduceEqDiff, Nat.reduceLT, Nat.reduceLeDiff, Nat.reduceBEq, Nat.reduceBNe, reduceIte, reduceCtorEq, Int.reduceToNat, String.reduceEq]
  refine CallVC.same (ints_ok out out h1 h1) ?_
  simp only [f1, f2, beq_self_eq_true, Nat.add_zero, go_sem, Meths.get, meths, Nat.reduceSub, Nat.reduceAdd, Nat.reduceMul, Nat.reduceEqDiff, Nat.reduceLT, Nat.reduceLeDiff, Nat.reduceBEq, Nat.reduceBNe, reduceIte, reduceCtorEq, Int.reduceToNat, String.reduceEq]
  refine CallVC.same (ints_ok inn inn h2 h2) ?_
  simp only [f1, f2, beq_self_eq_true, Nat.add_zero, go_sem, Meths.get, meths, Nat.reduceSub, Nat.reduceAdd, Nat.reduceMul, Nat.reduceEqDiff, Nat.reduceLT, Nat.reduceLeDiff, Nat.reduceBEq, Nat.reduceBNe, reduceIte, reduceCtorEq, Int.reduceToNat, String.reduceEq]
  refine CallVC.same (ints_ok asked asked h3 h3) ?_
  simp only [f1, f2, beq_self_eq_true, Nat.add_zero, go_sem, Meths.get, meths, Nat.reduceSub, Nat.reduceAdd, Nat.reduceMul, Nat.reduceEqDiff, Nat.reduceLT, Nat.reduceLeDiff, Nat.reduceBEq, Nat.reduceBNe, reduceIte, reduceCtorEq, Int.reduceToNat, String.reduceEq]
  refine CallVC.same sameDataF_ok ?_
  simp only [f1, f2, beq_self_eq_true, Nat.add_zero, go_sem, Meths.get, meths, Nat.reduceSub, Nat.reduceAdd, Nat.reduceMul, Nat.reduceEqDiff, Nat.reduceLT, Nat.reduceLeDiff, Nat.reduceBEq, Nat.reduceBNe, reduceIte, reduceCtorEq, Int.reduceToNat, String.reduceEq]
  exact .bool (.inr rfl) rfl rfl (by simp [UpdAll, keys])
structure Wd where
  st : Nat
  kd : Nat
  sz : Nat
  lo : Bool
def Wd.row (w : Wd) : List PV := [.int .u8 w.st, .int .u8 w.kd, .int .u16 w.sz, .bool w.lo]
def Wd.ok (w : Wd) : Prop := w.st < 256 ∧ w.kd < 256 ∧ w.sz < 65536
def Wd.msg (N : Nat) (w : Wd) : Msg := ⟨((w.st % N : Nat) : Int), ((50 + w.kd % 4 : Nat) : Int), w.lo, msgText w.sz⟩
def msgsW (N : Nat) (ws : List Wd) : List Msg := (ws.take 12).map (Wd.msg N)
theorem msgText_len (sz : Nat) : 1 ≤ (msgText sz).length ∧ (msgText sz).length ≤ 3300 := by simp [msgText]; omega
theorem msgsW_ok {N : Nat} (hN : 1 ≤ N) (ws : List Wd) : MsOk N (msgsW N ws) where
  len := by simp [msgsW]; omega
  st := fun m hm => by
    obtain ⟨w, _, rfl⟩ := List.mem_map.1 hm
    have := Nat.mod_lt w.st (show N > 0 by omega)
    simp only [Wd.msg]; omega
  pr := fun m hm => by
    obtain ⟨w, _, rfl⟩ := List.mem_map.1 hm
    simp only [Wd.msg]; omega
  t1 := fun m hm => by
    obtain ⟨w, _, rfl⟩ := List.mem_map.1 hm
    exact (msgText_len _).1
  t2 := fun m hm => by
    obtain ⟨w, _, rfl⟩ := List.mem_map.1 hm
    exact (msgText_len _).2
/-- The messages, one of them without Loose. -/
def setLo (l : List Msg) (x : Nat) : List Msg := l.set x { l.getD x Msg.zero with lo := false }
theorem setLo_ok {N : Nat} {l : List Msg} (h : MsOk N l) (x : Nat) (hx : x < l.length) : MsOk N (setLo l x) := by
  have hm := msA_mem hx
  have key : ∀ m ∈ setLo l x, ∃ m' ∈ l, m.st = m'.st ∧ m.pr = m'.pr ∧ m.tx = m'.tx := by
    intro m hm'
    rcases List.mem_or_eq_of_mem_set hm' with h | rfl
    · exact ⟨m, h, rfl, rfl, rfl⟩
    · exact ⟨_, hm, rfl, rfl, rfl⟩
  refine ⟨by simpa [setLo] using h.len, fun m hm => ?_, fun m hm => ?_, fun m hm => ?_, fun m hm => ?_⟩
  all_goals
    obtain ⟨m', a, b, c, d⟩ := key m hm
  · rw [b]; exact h.st _ a
  · rw [c]; exact h.pr _ a
  · rw [d]; exact h.t1 _ a
  · rw [d]; exact h.t2 _ a
theorem comes_valid : ∀ (l : List Dat) {inn : List Int} {ps : List Dat} (out : List Msg), PsOk inn ps → dueG inn ps = none → inn.all (serB 16) = true → (∀ d ∈ l, d.ok = true ∧ d.st < inn.length) → ps.length + l.length ≤ 80 →
    PsOk (comesG inn ps l out).1 (comesG inn ps l out).2.1 ∧ dueG (comesG inn ps l out).1 (comesG inn ps l out).2.1 = none ∧ (comesG inn ps l out).1.all (serB 16) = true ∧ (comesG inn ps l out).1.length = inn.length
  | [], inn, ps, out, h, hD, hi, _, _ => ⟨h, hD, hi, rfl⟩
  | d :: l, inn, ps, out, h, hD, hi, hl, hlen => by
    simp only [List.length_cons] at hlen
    obtain ⟨e1, e2⟩ := hl d (by simp)
    have hv := takeG_valid h hD hi (d := d) (by omega) e1 (by omega)
    have hle := takeG_le inn ps d
    have hln := takeG_len inn ps d
    obtain ⟨a, b, c, e⟩ := comes_valid l (out ++ (takeG inn ps d).2.2) hv.1 hv.2.1 hv.2.2 (fun x hx => by rw [hln]; exact hl x (by simp [hx])) (by omega)
    exact ⟨a, b, c, e.trans hln⟩
end Go.Proofs.Ytfhhbkehlfipgaa
end
