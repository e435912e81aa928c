/- Lemmas for the walk: YC15, YD0, YC21, YC23, T34, YC22. -/
import Derived.Test.YtfhhbkehlfipgaaP09
import Derived.Test.YtfhhbkehlfipgaaP08
set_option linter.all false
section
namespace Go.Proofs.Ytfhhbkehlfipgaa
open Go.Tx
set_option maxRecDepth 100000
set_option maxHeartbeats 1000000
theorem bput_call {F : SF} {L nx : Nat} {K : PV → List (Nm × SBlk) → List Nm → Nat → Prop} (n : Nm) (hn : n.l < L ∨ (n.l = L ∧ n.i < nx)) (b : Option Nm) (hm : bldL L nx b) (t : List UInt8) (k : Nat) (kk : Int) (hkk : kk = k) (hk1 : 1 ≤ k) (hk2 : k ≤ 7) (vs : List Nat) (hv : ∀ v ∈ vs, v < 256 ^ k) (hv0 : vs ≠ []) (hvl : t.length + vs.length * 7 ≤ 1000000)
  (m : Nm) (l : Nat) (hl : l = vs.length) (hFm : F m = some (.rows 3 1 true true (vs.map eN))) (hmn : n ≠ m) (hmb : b ≠ some m) (hb : bldF F n 181 b t) (t2 : List UInt8) (ht2 : t2 = t ++ vs.flatMap (putB k))
  (hk : K (.tup []) ([(m, .rows 3 1 false true (vs.map eN))] ++ (bldD b ++ bldU n 181 ⟨L, nx⟩ t2)) ([m] ++ bldR n b) (nx + 1)) : CallVC Try.prog 124 [.ptr n 0 0, .int .i64 kk, .sl m 0 l] F L nx K := by
 subst hkk; subst hl; subst ht2
 have e1 : wkNL [.ptr n 0 0, .int .i64 (k : Int), .sl m 0 vs.length] [.ptr n 0 0, .int .i64 (k : Int), .fs 1 (vs.map eN)] = [m] := by simp [wkNL, wkN]
 have e2 : unown F [m] = [(m, .rows 3 1 false true (vs.map eN))] := by simp [unown, hFm]
 refine CallVC.gen (args2 := [.ptr n 0 0, .int .i64 (k : Int), .fs 1 (vs.map eN)]) ?_ (bput_ok n hn b hm t k hk1 hk2 vs hv hv0 hvl ?_) ?_
 ·simp [Wk, WkL, hFm, List.take_of_length_le]
 ·rw [e1, e2]
  have hx : ∀ q, q ≠ m → (F.upd [(m, .rows 3 1 false true (vs.map eN))]) q = F q := by intro q hq; simp [SF.upd, SF.set, hq]
  cases b with
  | none => exact ⟨hb.1, hb.2.imp fun p h => (hx n hmn).trans h⟩
  | some m2 => exact ⟨hb.1, (hx n hmn).trans hb.2.1, (hx m2 (fun e => hmb (by rw [e]))).trans hb.2.2.1, hb.2.2.2⟩
 ·rw [e1, e2]; exact hk
theorem resetWrite2_ok {F : SF} {L nx : Nat} (n : Nm) (hn : n.l < L ∨ (n.l = L ∧ n.i < nx)) (num res : Nat) (last : Int) (xs : List Int) (h1 : num < 2 ^ 32) (h2 : res < 256) (hlen : xs.length ≤ 1000) (hb : bldF F n 181 none []) :
  Con Try.prog 122 [rstP 2 num last res (.fs 1 (xs.map eI)), .ptr n 0 0] F L nx (nx + 1) (.tup [.int .i64 130, .int .i64 0]) (bldU n 181 ⟨L, nx⟩ (putB 1 2 ++ putB 4 num ++ putB 1 res)) [n] := by
 refine bdyN Try.f122 (hrd := (by simp; omega)) ?_
 intro F3 hF1 hF2
 have hFb : bldF F3 n 181 none [] := ⟨rfl, hb.2.imp fun p h => (hF1 n (by simp)).trans h⟩
 have n1 : ∀ k, (n = (⟨L + 1, k⟩ : Nm)) = False := nm_out (by omega)
 have n2 : ∀ k, ((⟨L + 1, k⟩ : Nm) = n) = False := nm_out' (by omega)
 simp only [Try.f122, cx, rstP, Nat.add_zero, go_sem, meths]
 obtain ⟨t1, e1⟩ : ∃ t, t = putB 1 2 := ⟨_, rfl⟩
 obtain ⟨t2, e2⟩ : ∃ t, t = t1 ++ putB 4 num := ⟨_, rfl⟩
 obtain ⟨t3, e3⟩ : ∃ t, t = t2 ++ putB 1 res := ⟨_, rfl⟩
 have l1 : t1.length = 1 := by rw [e1, putB_len]
 have l2 : t2.length = 5 := by rw [e2, List.length_append, putB_len, l1]
 have z1 : t1 ≠ [] := by intro h; rw [h] at l1; simp at l1
 have z2 : t2 ≠ [] := by intro h; rw [h] at l2; simp at l2
 rw [← e1, ← e2, ← e3]
 refine bput_call n (.inl (show n.l < L + 1 by omega)) none trivial [] 1 1 rfl (by omega) (by omega) [2] (by simp) (by simp) (by simp) ⟨L + 1, 224⟩ 1 rfl (by simp [eN]) (by intro h; rw [n1] at h; exact h) (by simp) ⟨rfl, hFb.2.imp fun p h => by simp [h, n1]⟩ t1 (by simp [e1]) ?_
 simp only [bldD, bldU, n1, n2, Nat.add_zero, go_sem]
 refine bput_call n (.inl (show n.l < L + 1 by omega)) (some ⟨L + 1, 256⟩) (.inr ⟨rfl, by simp⟩) t1 4 4 rfl (by omega) (by omega) [num] (by simpa using h1) (by simp) (by simp; omega) ⟨L + 1, 385⟩ 1 rfl (by simp [eN, n2]) (by intro h; rw [n1] at h; exact h) (by simp) ⟨z1, by simp [n1], by simp [n2], by simp [n2]⟩ t2 (by simp [e2]) ?_
 simp only [bldD, bldU, n1, n2, Nat.add_zero, go_sem]
 refine bput_call n (.inl (show n.l < L + 1 by omega)) (some ⟨L + 1, 417⟩) (.inr ⟨rfl, by simp⟩) t2 1 1 rfl (by omega) (by omega) [res] (by simpa using h2) (by simp) (by simp; omega) ⟨L + 1, 674⟩ 1 rfl (by simp [eN, n2]) (by intro h; rw [n1] at h; exact h) (by simp) ⟨z2, by simp [n1], by simp [n2], by simp [n2]⟩ t3 (by simp [e3]) ?_
 simp only [bldD, bldU, n1, n2, go_sem]
 refine .now (PostN.val [706] (.inr rfl) (by simp) (p := True) (v0 := .tup [.int .i64 130, .int .i64 0]) ?_ trivial ?_ ?_ ⟨by omega, ?_, Nat.le_refl _, ?_, trivial⟩ ?_)
 ·simp only [resVal, resVals, resVal1, one, go_sem]
 ·simp [nmA, nmAL]
 ·simp [Tx.rn, Tx.rnL]
 ·rw [kp_out (hn.imp id fun h => .inl h.2)]
  exact .ren (by simp [Tx.look, n1]; rfl) (by simp [rowsNm, nmA, nmAL, Dn]; omega) (by simp [Tx.rn, Tx.rnL, sg_out (show n.l ≤ L by omega)]; simp [sg])
 ·rw [kp_at0 (by simp)]
  exact .pure (by simp [Tx.look, n2])
 ·simp [UpdAll, keys]
theorem resetWrite1_ok {F : SF} {L nx : Nat} (n : Nm) (hn : n.l < L ∨ (n.l = L ∧ n.i < nx)) (num last : Nat) (res : Int) (xs : List Nat) (h1 : num < 2 ^ 32) (h2 : last < 2 ^ 32) (hx : ∀ x ∈ xs, x < 256 ^ 2) (hx0 : xs ≠ []) (hlen : xs.length ≤ 1000) (hb : bldF F n 181 none []) :
  Con Try.prog 122 [rstP 1 num last res (.fs 1 (xs.map eN)), .ptr n 0 0] F L nx (nx + 1) (.tup [.int .i64 130, .int .i64 0]) (bldU n 181 ⟨L, nx⟩ (putB 1 1 ++ putB 4 num ++ (putB 4 last ++ xs.flatMap (putB 2)))) [n] := by
 refine bdyN Try.f122 (hrd := (by simp; omega)) ?_
 intro F3 hF1 hF2
 have hFb : bldF F3 n 181 none [] := ⟨rfl, hb.2.imp fun p h => (hF1 n (by simp)).trans h⟩
 have n1 : ∀ k, (n = (⟨L + 1, k⟩ : Nm)) = False := nm_out (by omega)
 have n2 : ∀ k, ((⟨L + 1, k⟩ : Nm) = n) = False := nm_out' (by omega)
 have f12 : ((1 : Int) == 2) = false := rfl
 simp only [Try.f122, cx, rstP, Nat.add_zero, go_sem, meths]
 obtain ⟨t1, e1⟩ : ∃ t, t = putB 1 1 := ⟨_, rfl⟩
 obtain ⟨t2, e2⟩ : ∃ t, t = t1 ++ putB 4 num := ⟨_, rfl⟩
 obtain ⟨t3, e3⟩ : ∃ t, t = t2 ++ putB 4 last := ⟨_, rfl⟩
 obtain ⟨t4, e4⟩ : ∃ t, t = t3 ++ xs.flatMap (putB 2) := ⟨_, rfl⟩
 have l1 : t1.length = 1 := by rw [e1, putB_len]
 have l2 : t2.length = 5 := by rw [e2, List.length_append, putB_len, l1]
 have l3 : t3.length = 9 := by rw [e3, List.length_append, putB_len, l2]
 have z1 : t1 ≠ [] := by intro h; rw [h] at l1; simp at l1
 have z2 : t2 ≠ [] := by intro h; rw [h] at l2; simp at l2
 have z3 : t3 ≠ [] := by intro h; rw [h] at l3; simp at l3
 rw [← e1, ← e2, ← List.append_assoc, ← e3, ← e4]
 refine bput_call n (.inl (show n.l < L + 1 by omega)) none trivial [] 1 1 rfl (by omega) (by omega) [1] (by simp) (by simp) (by simp) ⟨L + 1, 224⟩ 1 rfl (by simp [eN]) (by intro h; rw [n1] at h; exact h) (by simp) ⟨rfl, hFb.2.imp fun p h => by simp [h, n1]⟩ t1 (by simp [e1]) ?_
 simp only [bldD, bldU, n1, n2, Nat.add_zero, go_sem]
 refine bput_call n (.inl (show n.l < L + 1 by omega)) (some ⟨L + 1, 256⟩) (.inr ⟨rfl, by simp⟩) t1 4 4 rfl (by omega) (by omega) [num] (by simpa using h1) (by simp) (by simp; omega) ⟨L + 1, 385⟩ 1 rfl (by simp [eN, n2]) (by intro h; rw [n1] at h; exact h) (by simp) ⟨z1, by simp [n1], by simp [n2], by simp [n2]⟩ t2 (by simp [e2]) ?_
 simp only [bldD, bldU, n1, n2, f12, Nat.add_zero, go_sem]
 refine bput_call n (.inl (show n.l < L + 1 by omega)) (some ⟨L + 1, 417⟩) (.inr ⟨rfl, by simp⟩) t2 4 4 rfl (by omega) (by omega) [last] (by simpa using h2) (by simp) (by simp; omega) ⟨L + 1, 674⟩ 1 rfl (by simp [eN, n2]) (by intro h; rw [n1] at h; exact h) (by simp) ⟨z2, by simp [n1], by simp [n2], by simp [n2]⟩ t3 (by simp [e3]) ?_
 simp only [bldD, bldU, n1, n2, Nat.add_zero, go_sem]
 refine CallVC.same (bput_ok n (.inl (show n.l < L + 1 by omega)) (some ⟨L + 1, 706⟩) (.inr ⟨rfl, by simp⟩) t3 2 (by omega) (by omega) xs hx hx0 (by omega) ⟨z3, by simp [n1], by simp [n2], by simp [n2]⟩) ?_
 rw [← e4]
 simp only [bldD, bldU, n1, n2, go_sem]
 refine .now (PostN.val [835] (.inr rfl) (by simp) (p := True) (v0 := .tup [.int .i64 130, .int .i64 0]) ?_ trivial ?_ ?_ ⟨by omega, ?_, Nat.le_refl _, ?_, trivial⟩ ?_)
 ·simp only [resVal, resVals, resVal1, one, go_sem]
 ·simp [nmA, nmAL]
 ·simp [Tx.rn, Tx.rnL]
 ·rw [kp_out (hn.imp id fun h => .inl h.2)]
  exact .ren (by simp [Tx.look, n1]; rfl) (by simp [rowsNm, nmA, nmAL, Dn]; omega) (by simp [Tx.rn, Tx.rnL, sg_out (show n.l ≤ L by omega)]; simp [sg])
 ·rw [kp_at0 (by simp)]
  exact .pure (by simp [Tx.look, n2])
 ·simp [UpdAll, keys]
theorem serB_nat {b x : Int} (h : serB b x = true) : x = (x.toNat : Int) ∧ x.toNat < 2 ^ b.toNat := by
 simp only [serB, Bool.and_eq_true, decide_eq_true_eq] at h
 have e : ((x.toNat : Nat) : Int) = x := by omega
 refine ⟨e.symm, ?_⟩
 have h2 := h.2
 rw [← e] at h2
 exact_mod_cast h2
theorem putBad_ok {F : SF} {L nx : Nat} (ty : TypeId) (v : PV) (fv : FuncId) (h1 : Meths.get meths ty "tannoy/chunk.valid" = some fv) (hv : ∀ (F : SF) (L nx : Nat), Con Try.prog fv [v] F L nx nx (.bool false) [] []) :
  Con Try.prog 84 [.ifc ty v] F L nx nx (.tup [.agg [.int .i64 0, .int .i64 0, .str []], .int .i64 320]) [] [] := by
 refine bdy Try.f84 ?_
 intro F3 hF1 hF2
 simp only [Try.f84, cx, h1, go_sem]
 refine CallVC.same (hv _ _ _) ?_
 simp only [go_sem]
 exact PostF.same (p := True) (.inr rfl) (by simp only [resVal, resVals, resVal1, one, go_sem]) trivial (by simp [Tx.nf, nfl]) (by simp [UpdAll])
theorem putGood_ok {F : SF} {L nx : Nat} (ty : TypeId) (v : PV) (fv fw : FuncId) (h1 : Meths.get meths ty "tannoy/chunk.valid" = some fv) (h2 : Meths.get meths ty "tannoy/chunk.write" = some fw) (hv : ∀ (F : SF) (L nx : Nat), Con Try.prog fv [v] F L nx nx (.bool true) [] [])
  (kind flags : Int) (t : List UInt8) (ht : t ≠ []) (htl : t.length ≤ 1000000) (hw : ∀ (F : SF) (L nx : Nat) (n : Nm), (n.l < L ∨ (n.l = L ∧ n.i < nx)) → bldF F n 181 none [] → Con Try.prog fw [v, .ptr n 0 0] F L nx (nx + 1) (.tup [.int .i64 kind, .int .i64 flags]) (bldU n 181 ⟨L, nx⟩ t) [n]) :
  Con Try.prog 84 [.ifc ty v] F L nx nx (.tup [.agg [.int .i64 kind, .int .i64 flags, .str t], .int .i64 0]) [] [] := by
 refine bdy Try.f84 ?_
 intro F3 hF1 hF2
 simp only [Try.f84, cx, h1, go_sem]
 refine CallVC.same (hv _ _ _) ?_
 simp only [h2, go_sem]
 refine CallVC.same (hw _ _ _ ⟨L + 1, 128⟩ (by simp) ⟨rfl, true, by simp⟩) ?_
 simp only [bldU, Nat.add_zero, go_sem]
 refine CallVC.same (bString_ok ⟨L + 1, 128⟩ 181 (by simp) ⟨L + 1, 192⟩ (by simp) t htl ⟨ht, by simp, by simp, by simp⟩) ?_
 simp only [go_sem]
 exact PostF.same (p := True) (.inr rfl) (by simp only [resVal, resVals, resVal1, one, go_sem]) trivial (by simp [Tx.nf, nfl]) (by simp [UpdAll])
theorem meths160v : Meths.get meths 160 "tannoy/chunk.valid" = some 121 := by simp [Meths.get, meths]
theorem meths160w : Meths.get meths 160 "tannoy/chunk.write" = some 122 := by simp [Meths.get, meths]
theorem incB_all {xs : List Int} (h : incB xs = true) : ∀ x ∈ xs, serB 16 x = true := by
 intro x hx
 obtain ⟨i, hi, rfl⟩ := List.getElem_of_mem hx
 unfold incB at h
 rw [List.all_eq_true] at h
 have := h i (by simpa using hi)
 simp only [Bool.and_eq_true] at this
 simpa [List.getD_eq_getElem?_getD, hi] using this.1
def resetB (kind num last res : Int) (xs : List Int) : List UInt8 :=
 if kind = 2 then putB 1 2 ++ putB 4 num.toNat ++ putB 1 res.toNat else putB 1 1 ++ putB 4 num.toNat ++ (putB 4 last.toNat ++ (xs.map Int.toNat).flatMap (putB 2))
theorem putReset_ok {F : SF} {L nx : Nat} (kind num last res : Int) (xs : List Int) (hlen : xs.length ≤ 1000000) :
  Con Try.prog 47 [rstP kind num last res (.fs 1 (xs.map eI))] F L nx nx
   (if resetV kind num last res xs then .tup [.agg [.int .i64 130, .int .i64 0, .str (resetB kind num last res xs)], .int .i64 0] else .tup [.agg [.int .i64 0, .int .i64 0, .str []], .int .i64 320]) [] [] := by
 have hva : ∀ (F : SF) (L nx : Nat), Con Try.prog 121 [rstP kind num last res (.fs 1 (xs.map eI))] F L nx nx (.bool (resetV kind num last res xs)) [] [] := fun F L nx => resetValid_ok kind num last res xs hlen
 cases hV : resetV kind num last res xs with
 | false =>
  rw [hV] at hva
  simp only [if_false, Bool.false_eq_true]
  refine bdy Try.f47 ?_
  intro F3 hF1 hF2
  simp only [Try.f47, cx, rstP, go_sem, meths]
  refine CallVC.same (putBad_ok 160 _ 121 meths160v hva) ?_
  simp only [go_sem]
  exact PostF.same (p := True) (.inr rfl) (by simp only [resVal, resVals, resVal1, one, go_sem]) trivial (by simp [Tx.nf, nfl]) (by simp [UpdAll])
 | true =>
  rw [hV] at hva
  simp only [if_true]
  have hw : ∀ (F : SF) (L nx : Nat) (n : Nm), (n.l < L ∨ (n.l = L ∧ n.i < nx)) → bldF F n 181 none [] → Con Try.prog 122 [rstP kind num last res (.fs 1 (xs.map eI)), .ptr n 0 0] F L nx (nx + 1) (.tup [.int .i64 130, .int .i64 0]) (bldU n 181 ⟨L, nx⟩ (resetB kind num last res xs)) [n] := by
   intro F L nx n hn hb
   unfold resetV at hV
   simp only [Bool.and_eq_true] at hV
   obtain ⟨⟨⟨⟨hi, h1⟩, h2⟩, h3⟩, h4⟩ := hV
   obtain ⟨e1, b1⟩ := serB_nat h1
   obtain ⟨e2, b2⟩ := serB_nat h2
   obtain ⟨e3, b3⟩ := serB_nat h3
   unfold resetB
   by_cases hk : kind = 2
   ·subst hk
    rw [if_pos rfl] at h4 ⊢
    have hx : xs = [] := by simp at h4; exact h4.2
    subst hx
    have := resetWrite2_ok (F := F) (L := L) (nx := nx) n hn num.toNat res.toNat last [] b1 (by simpa using b3) (by simp) hb
    rw [← e1, ← e3] at this
    exact this
   ·rw [if_neg hk] at h4 ⊢
    simp only [Bool.and_eq_true, beq_iff_eq, decide_eq_true_eq] at h4
    obtain ⟨⟨⟨rfl, h5⟩, h6⟩, h7⟩ := h4
    have hall := incB_all hi
    have ex : xs.map eI = (xs.map Int.toNat).map eN := by
     rw [List.map_map]
     apply List.map_congr_left
     intro x hx
     have := (serB_nat (hall x hx)).1
     simp only [Function.comp, eN, eI]
     rw [← this]
    rw [ex]
    have := resetWrite1_ok (F := F) (L := L) (nx := nx) n hn num.toNat last.toNat res (xs.map Int.toNat) b1 b2 (by
     intro x hx
     obtain ⟨y, hy, rfl⟩ := List.mem_map.1 hx
     have := (serB_nat (hall y hy)).2
     simpa using this) (by intro h; simp at h; subst h; simp at h6) (by simp; omega) hb
    rw [← e1, ← e2] at this
    exact this
  refine bdy Try.f47 ?_
  intro F3 hF1 hF2
  simp only [Try.f47, cx, rstP, go_sem, meths]
  refine CallVC.same (putGood_ok 160 _ 121 122 meths160v meths160w hva 130 0 (resetB kind num last res xs) ?_ ?_ hw) ?_
  ·intro h
   have := congrArg List.length h
   unfold resetB at this
   split at this <;> simp [putB_len] at this
  ·unfold resetB
   unfold resetV at hV
   simp only [Bool.and_eq_true] at hV
   have h30 : kind ≠ 2 → xs.length ≤ 30 := by
    intro hk
    have := hV.2
    rw [if_neg hk] at this
    simp at this; omega
   split
   ·simp [putB_len]
   ·rename_i hk
    have := h30 hk
    simp only [List.length_append, putB_len, flat_len, List.length_map]; omega
  simp only [go_sem]
  exact PostF.same (p := True) (.inr rfl) (by simp only [resVal, resVals, resVal1, one, go_sem]) trivial (by simp [Tx.nf, nfl]) (by simp [UpdAll])
structure Dat where
 tsn : Int
 st : Int
 sq : Int
 pr : Int
 fi : Bool
 la : Bool
 lo : Bool
 pl : List UInt8
 deriving DecidableEq, Inhabited
def Dat.row (d : Dat) : List PV := [.int .i64 d.tsn, .int .i64 d.st, .int .i64 d.sq, .int .i64 d.pr, .bool d.fi, .bool d.la, .bool d.lo, .str d.pl]
def Dat.ok (d : Dat) : Bool := (serB 32 d.tsn && serB 32 d.pr) && ((serB 16 d.st && serB 16 d.sq) && (decide (1 ≤ (d.pl.length : Int)) && (decide ((d.pl.length : Int) ≤ 1100) && (!d.lo || d.sq == 0))))
structure Msg where
 st : Int
 pr : Int
 lo : Bool
 tx : List UInt8
 deriving DecidableEq, Inhabited
def Msg.row (m : Msg) : List PV := [.int .i64 m.st, .int .i64 m.pr, .bool m.lo, .str m.tx]
def Msg.zero : Msg := ⟨0, 0, false, []⟩
def getT (ps : List Dat) (t : Int) : Option Dat := ps.find? fun d => d.tsn == t
def compG (ps : List Dat) (f : Dat) : Nat → Dat → List UInt8 → List Int → Option (List UInt8 × List Int)
 | 0, _, _, _ => none
 | k + 1, d, tx, ns =>
  if d.st != f.st || d.sq != f.sq || d.lo != f.lo || (d.fi && !ns.isEmpty) || ns.contains d.tsn then none
  else if d.la then some (tx ++ d.pl, ns ++ [d.tsn])
  else match getT ps ((d.tsn + 1) % 4294967296) with
   | none => none
   | some d' => compG ps f k d' (tx ++ d.pl) (ns ++ [d.tsn])
def complete (ps : List Dat) (f : Dat) : Option (Msg × List Int) :=
 if f.fi then (compG ps f (ps.length + 1) f [] []).map fun x => (⟨f.st, f.pr, f.lo, x.1⟩, x.2) else none
def dueG (inn : List Int) (ps : List Dat) : Option (Msg × List Int) :=
 ps.findSome? fun d => if !d.lo && d.sq != inn.getD d.st.toNat 0 then none else complete ps d
def withoutG (ps : List Dat) (h : Dat → Bool) : List Dat := ps.filter fun d => !h d
def oldB (inn : List Int) (st : Int) (d : Dat) : Bool := d.st == st && !d.lo && decide (lead d.sq (inn.getD st.toNat 0) 16 < 0)
def nextI (inn : List Int) (st sq : Int) : List Int := inn.set st.toNat ((sq + 1) % 65536)
def nextP (inn : List Int) (ps : List Dat) (st sq : Int) : List Dat := withoutG ps (oldB (nextI inn st sq) st)
def delG : Nat → List Int → List Dat → List Msg → List Int × List Dat × List Msg
 | 0, inn, ps, out => (inn, ps, out)
 | k + 1, inn, ps, out =>
  match dueG inn ps with
  | none => (inn, ps, out)
  | some (m, ns) =>
   let ps2 := withoutG ps fun d => ns.contains d.tsn
   if m.lo then delG k inn ps2 (out ++ [m])
   else delG k (nextI inn m.st (inn.getD m.st.toNat 0)) (nextP inn ps2 m.st (inn.getD m.st.toNat 0)) (out ++ [m])
def partOk (inn : List Int) (d : Dat) : Bool := d.ok && decide (d.st < inn.length) && (d.lo || decide (0 ≤ lead d.sq (inn.getD d.st.toNat 0) 16))
structure PsOk (inn : List Int) (ps : List Dat) : Prop where
 len : ps.length ≤ 80
 all : ∀ d ∈ ps, partOk inn d = true
 nodup : (ps.map Dat.tsn).Nodup
theorem getT_mem {ps : List Dat} {t : Int} {d : Dat} (h : getT ps t = some d) : d ∈ ps ∧ d.tsn = t := by
 unfold getT at h
 exact ⟨List.mem_of_find?_eq_some h, by simpa using List.find?_some h⟩
theorem nodup_sub {α : Type} [DecidableEq α] : ∀ {l m : List α}, l.Nodup → (∀ x ∈ l, x ∈ m) → l.length ≤ m.length
 | [], m, _, _ => Nat.zero_le _
 | a :: l, m, h, hs => by
  have ha : a ∈ m := hs a (by simp)
  have h2 := List.nodup_cons.1 h
  have := nodup_sub (l := l) (m := m.erase a) h2.2 (fun x hx => (List.mem_erase_of_ne (by rintro rfl; exact h2.1 hx)).2 (hs x (by simp [hx])))
  rw [List.length_erase_of_mem ha] at this
  have h3 : 0 < m.length := List.length_pos_of_mem ha
  simp only [List.length_cons]; omega
theorem dataValid_ok {F : SF} {L nx : Nat} (d : Dat) : Con Try.prog 128 [.agg d.row] F L nx nx (.bool d.ok) [] [] := by
 refine bdy Try.f128 ?_
 intro F3 hF1 hF2
 obtain ⟨tsn, st, sq, pr, fi, la, lo, pl⟩ := d
 unfold Dat.ok
 simp only [Try.f128, cx, Dat.row, Nat.add_zero, go_sem, meths]
 refine CallVC.pure (args2 := [_, .fs 1 ([tsn, pr].map eI)]) ⟨rfl, by simp [Wk, eI], trivial⟩ (small_ok 32 [tsn, pr] (by omega) (by omega) (by simp)) rfl ?_
 cases h1 : (serB 32 tsn && serB 32 pr) with
 | false =>
  simp only [h1, go_sem]
  exact .bool (.inr rfl) rfl rfl (by simp [UpdAll])
 | true =>
  simp only [h1, Nat.add_zero, go_sem]
  refine CallVC.pure (args2 := [_, .fs 1 ([st, sq].map eI)]) ⟨rfl, by simp [Wk, eI], trivial⟩ (small_ok 16 [st, sq] (by omega) (by omega) (by simp)) rfl ?_
  cases h2 : (serB 16 st && serB 16 sq) with
  | false =>
   simp only [h2, go_sem]
   exact .bool (.inr rfl) rfl rfl (by simp [UpdAll])
  | true =>
   cases h3 : decide (1 ≤ (pl.length : Int)) with
   | false =>
    simp only [h2, h3, Nat.add_zero, go_sem]
    exact .bool (.inr rfl) rfl rfl (by simp [UpdAll])
   | true =>
    cases h4 : decide ((pl.length : Int) ≤ 1100) with
    | false =>
     simp only [h2, h3, h4, Nat.add_zero, go_sem]
     exact .bool (.inr rfl) rfl rfl (by simp [UpdAll])
    | true =>
     cases lo with
     | false =>
      simp only [h2, h3, h4, Nat.add_zero, go_sem]
      exact .bool (.inr rfl) rfl rfl (by simp [UpdAll])
     | true =>
      simp only [h2, h3, h4, Nat.add_zero, go_sem]
      exact .bool (.inr rfl) rfl (by simp) (by simp [UpdAll])
def flD (la fi lo : Bool) : Nat → Int
 | 0 => 0
 | 1 => if la then 1 else 0
 | 2 => (if la then 1 else 0) + (if fi then 2 else 0)
 | _ => (if la then 1 else 0) + (if fi then 2 else 0) + (if lo then 4 else 0)
theorem dataWrite_ok {F : SF} {L nx : Nat} (n : Nm) (hn : n.l < L ∨ (n.l = L ∧ n.i < nx)) (tsn st sq pr : Nat) (fi la lo : Bool) (pl : List UInt8) (h1 : tsn < 256 ^ 4) (h2 : st < 256 ^ 2) (h3 : sq < 256 ^ 2) (h4 : pr < 256 ^ 4) (hp : pl ≠ []) (hpl : pl.length ≤ 1100) (hb : bldF F n 181 none []) :
  Con Try.prog 129 [.agg (Dat.mk tsn st sq pr fi la lo pl).row, .ptr n 0 0] F L nx (nx + 1) (.tup [.int .i64 0, .int .i64 (flD la fi lo 3)]) (bldU n 181 ⟨L, nx⟩ (putB 4 tsn ++ (putB 2 st ++ putB 2 sq) ++ putB 4 pr ++ pl)) [n] := by
 refine bdyN Try.f129 (hrd := (by simp; omega)) ?_
 intro F3 hF1 hF2
 have hFb : bldF F3 n 181 none [] := ⟨rfl, hb.2.imp fun p h => (hF1 n (by simp)).trans h⟩
 have n1 : ∀ k, (n = (⟨L + 1, k⟩ : Nm)) = False := nm_out (by omega)
 have n2 : ∀ k, ((⟨L + 1, k⟩ : Nm) = n) = False := nm_out' (by omega)
 simp only [Try.f129, cx, Dat.row, Nat.add_zero, go_sem, meths]
 obtain ⟨t1, e1⟩ : ∃ t, t = putB 4 tsn := ⟨_, rfl⟩
 obtain ⟨t2, e2⟩ : ∃ t, t = t1 ++ (putB 2 st ++ putB 2 sq) := ⟨_, rfl⟩
 obtain ⟨t3, e3⟩ : ∃ t, t = t2 ++ putB 4 pr := ⟨_, rfl⟩
 have l1 : t1.length = 4 := by rw [e1, putB_len]
 have l2 : t2.length = 8 := by rw [e2, List.length_append, List.length_append, putB_len, putB_len, l1]
 have l3 : t3.length = 12 := by rw [e3, List.length_append, putB_len, l2]
 have z1 : t1 ≠ [] := by intro h; rw [h] at l1; simp at l1
 have z2 : t2 ≠ [] := by intro h; rw [h] at l2; simp at l2
 have z3 : t3 ≠ [] := by intro h; rw [h] at l3; simp at l3
 rw [← e1, ← e2, ← e3]
 refine bput_call n (.inl (show n.l < L + 1 by omega)) none trivial [] 4 4 rfl (by omega) (by omega) [tsn] (by simpa using h1) (by simp) (by simp) ⟨L + 1, 224⟩ 1 rfl (by simp [eN]) (by intro h; rw [n1] at h; exact h) (by simp) ⟨rfl, hFb.2.imp fun p h => by simp [h, n1]⟩ t1 (by simp [e1]) ?_
 simp only [bldD, bldU, n1, n2, Nat.add_zero, go_sem]
 refine bput_call n (.inl (show n.l < L + 1 by omega)) (some ⟨L + 1, 256⟩) (.inr ⟨rfl, by simp⟩) t1 2 2 rfl (by omega) (by omega) [st, sq] (by simp; exact ⟨h2, h3⟩) (by simp) (by simp; omega) ⟨L + 1, 481⟩ 2 rfl (by simp [eN, n2]) (by intro h; rw [n1] at h; exact h) (by simp) ⟨z1, by simp [n1], by simp [n2], by simp [n2]⟩ t2 (by simp [e2]) ?_
 simp only [bldD, bldU, n1, n2, Nat.add_zero, go_sem]
 refine bput_call n (.inl (show n.l < L + 1 by omega)) (some ⟨L + 1, 513⟩) (.inr ⟨rfl, by simp⟩) t2 4 4 rfl (by omega) (by omega) [pr] (by simpa using h4) (by simp) (by simp; omega) ⟨L + 1, 642⟩ 1 rfl (by simp [eN, n2]) (by intro h; rw [n1] at h; exact h) (by simp) ⟨z2, by simp [n1], by simp [n2], by simp [n2]⟩ t3 (by simp [e3]) ?_
 simp only [bldD, bldU, n1, n2, Nat.add_zero, go_sem]
 refine ⟨by kernel_rfl, CallVC.same (writeString_ok n 181 (.inl rfl) (.inl (show n.l < L + 1 by omega)) (some ⟨L + 1, 674⟩) (.inr ⟨rfl, by simp⟩) t3 pl hp (by omega) ⟨z3, by simp [n1], by simp [n2], by simp [n2]⟩) ?_⟩
 simp only [bldD, bldU, n1, n2, Nat.add_zero, go_sem]
 refine ⟨okDyn_num (fun x => if x = n then 1 else x.i) (by simp only [numF, List.map, bldR, n2, if_true, if_false]; kernel_rfl), ?_⟩
 refine loopK.intro _ _ (I := fun i : Nat => ⟨[none, none, some (.ptr ⟨L + 1, 0⟩ 0 0), none, some (.int .i64 0), some (.int .i64 0), some (.int .i64 (flD la fi lo i)), none, none, none, none, none, none, none, none, none, none, none, none, none, none, none, none, none, none, none, none, none, none, none, none, none, none, none, none, none, none, none, none, none, none, none, none, none, none, none, some (.agg [.bool la, .bool fi, .bool lo]), some (.int .i64 i), none, none, none, none, none, none, none, none, none, none],
  [(n, .rows 181 2 true false [[.ptr n 0 0, .sl ⟨L + 1, 867⟩ 0 (t3 ++ pl).length]]), (⟨L + 1, 867⟩, .rows 5 1 true true (List.map rowB (t3 ++ pl)))], 10000 * (i + 1)⟩) (pre := fun i => i ≤ 3) (μ := fun i => 3 - i) 0 (by omega) ?_ ?_
 ·refine Sub.of (hfz hF2) (by simp only [flD, go_sem, subT, and_self, Int.natCast_zero]) ?_ (by simp [subK, keys]) (by simp)
  simp [subH, Tx.look, n1, n2]
 ·intro i hi
  have hc : i = 0 ∨ i = 1 ∨ i = 2 ∨ i = 3 := by omega
  rcases hc with rfl | rfl | rfl | rfl
  ·have f1 : decide (((0 : Nat) : Int) < 3) = true := rfl
   cases la
   all_goals
    simp only [f1, flD, go_sem]
    repeat refine sd1 ?_
    refine ⟨1, by omega, by omega, ?_⟩
    refine Sub.of (hfz hF2) (by simp only [go_sem, subT]; first | trivial | decide | (refine ⟨?_, ?_⟩ <;> first | trivial | decide)) ?_ (by simp [subK, keys]) (by simp)
    simp [subH, Tx.look, n2]
  ·have f1 : decide (((1 : Nat) : Int) < 3) = true := rfl
   cases la <;> cases fi
   all_goals
    simp only [f1, flD, go_sem]
    repeat refine sd1 ?_
    refine ⟨2, by omega, by omega, ?_⟩
    refine Sub.of (hfz hF2) (by simp only [go_sem, subT]; first | trivial | decide | (refine ⟨?_, ?_⟩ <;> first | trivial | decide)) ?_ (by simp [subK, keys]) (by simp)
    simp [subH, Tx.look, n2]
  ·have f1 : decide (((2 : Nat) : Int) < 3) = true := rfl
   cases la <;> cases fi <;> cases lo
   all_goals
    simp only [f1, flD, go_sem]
    repeat refine sd1 ?_
    refine ⟨3, by omega, by omega, ?_⟩
    refine Sub.of (hfz hF2) (by simp only [go_sem, subT]; first | trivial | decide | (refine ⟨?_, ?_⟩ <;> first | trivial | decide)) ?_ (by simp [subK, keys]) (by simp)
    simp [subH, Tx.look, n2]
  ·have f1 : decide (((3 : Nat) : Int) < 3) = false := rfl
   simp only [f1, go_sem]
   refine .now (PostN.val [867] (.inr rfl) (by simp) (p := True) (v0 := .tup [.int .i64 0, .int .i64 (flD la fi lo 3)]) ?_ trivial ?_ ?_ ⟨by omega, ?_, Nat.le_refl _, ?_, trivial⟩ ?_)
   ·simp only [resVal, resVals, resVal1, one, go_sem]
   ·simp [nmA, nmAL]
   ·simp [Tx.rn, Tx.rnL]
   ·rw [kp_out (hn.imp id fun h => .inl h.2)]
    exact .ren (by simp [Tx.look]; rfl) (by simp [rowsNm, nmA, nmAL, Dn]; omega) (by simp [Tx.rn, Tx.rnL, sg_out (show n.l ≤ L by omega)]; simp [sg])
   ·rw [kp_at0 (by simp)]
    exact .pure (by simp [Tx.look, n2])
   ·simp [UpdAll, keys]
theorem meths186v : Meths.get meths 186 "tannoy/chunk.valid" = some 128 := by simp [Meths.get, meths]
theorem meths186w : Meths.get meths 186 "tannoy/chunk.write" = some 129 := by simp [Meths.get, meths]
def dataB (d : Dat) : List UInt8 := putB 4 d.tsn.toNat ++ (putB 2 d.st.toNat ++ putB 2 d.sq.toNat) ++ putB 4 d.pr.toNat ++ d.pl
theorem putData_ok {F : SF} {L nx : Nat} (d : Dat) : Con Try.prog 91 [.agg d.row] F L nx nx
   (if d.ok then .tup [.agg [.int .i64 0, .int .i64 (flD d.la d.fi d.lo 3), .str (dataB d)], .int .i64 0] else .tup [.agg [.int .i64 0, .int .i64 0, .str []], .int .i64 320]) [] [] := by
 have hva : ∀ (F : SF) (L nx : Nat), Con Try.prog 128 [.agg d.row] F L nx nx (.bool d.ok) [] [] := fun F L nx => dataValid_ok d
 cases hV : d.ok with
 | false =>
  rw [hV] at hva
  simp only [if_false, Bool.false_eq_true]
  refine bdy Try.f91 ?_
  intro F3 hF1 hF2
  simp only [Try.f91, cx, Dat.row, go_sem, meths]
  refine CallVC.same (putBad_ok 186 _ 128 meths186v hva) ?_
  simp only [go_sem]
  exact PostF.same (p := True) (.inr rfl) (by simp only [resVal, resVals, resVal1, one, go_sem]) trivial (by simp [Tx.nf, nfl]) (by simp [UpdAll])
 | true =>
  rw [hV] at hva
  simp only [if_true]
  have hB := hV
  unfold Dat.ok at hB
  simp only [Bool.and_eq_true, decide_eq_true_eq] at hB
  obtain ⟨⟨b1, b2⟩, ⟨b3, b4⟩, b5, b6, b7⟩ := hB
  obtain ⟨e1, c1⟩ := serB_nat b1
  obtain ⟨e2, c2⟩ := serB_nat b2
  obtain ⟨e3, c3⟩ := serB_nat b3
  obtain ⟨e4, c4⟩ := serB_nat b4
  have hpl : d.pl ≠ [] := by intro h; rw [h] at b5; simp at b5
  have hw : ∀ (F : SF) (L nx : Nat) (n : Nm), (n.l < L ∨ (n.l = L ∧ n.i < nx)) → bldF F n 181 none [] → Con Try.prog 129 [.agg d.row, .ptr n 0 0] F L nx (nx + 1) (.tup [.int .i64 0, .int .i64 (flD d.la d.fi d.lo 3)]) (bldU n 181 ⟨L, nx⟩ (dataB d)) [n] := by
   intro F L nx n hn hb
   have := dataWrite_ok (F := F) (L := L) (nx := nx) n hn d.tsn.toNat d.st.toNat d.sq.toNat d.pr.toNat d.fi d.la d.lo d.pl c1 c3 c4 c2 hpl (by omega) hb
   rw [← e1, ← e2, ← e3, ← e4] at this
   exact this
  refine bdy Try.f91 ?_
  intro F3 hF1 hF2
  simp only [Try.f91, cx, Dat.row, go_sem, meths]
  refine CallVC.same (putGood_ok 186 _ 128 129 meths186v meths186w hva 0 (flD d.la d.fi d.lo 3) (dataB d) ?_ ?_ hw) ?_
  ·intro h
   have := congrArg List.length h
   unfold dataB at this
   simp [putB_len] at this
  ·unfold dataB
   simp only [List.length_append, putB_len]; omega
  simp only [go_sem]
  exact PostF.same (p := True) (.inr rfl) (by simp only [resVal, resVals, resVal1, one, go_sem]) trivial (by simp [Tx.nf, nfl]) (by simp [UpdAll])
theorem piece_ok {F : SF} {L nx : Nat} (d : Dat) : Con Try.prog 62 [.agg d.row] F L nx nx (.bool d.ok) [] [] := by
 refine bdy Try.f62 ?_
 intro F3 hF1 hF2
 simp only [Try.f62, cx, Dat.row, go_sem, meths]
 refine CallVC.same (putData_ok d) ?_
 cases hV : d.ok with
 | false =>
  simp only [if_false, Bool.false_eq_true, go_sem]
  exact .bool (.inr rfl) rfl rfl (by simp [UpdAll])
 | true =>
  simp only [if_true, go_sem]
  exact .bool (.inr rfl) rfl rfl (by simp [UpdAll])
end Go.Proofs.Ytfhhbkehlfipgaa
end
section
namespace Go.Tx
open Go.Sx (lt_of_get)
theorem keys_unown (F : SF) : ∀ (l : List Nm) (n : Nm), n ∈ keys (unown F l) → n ∈ l
 | [], _, h => by simp [unown, keys] at h
 | m :: l, n, h => by
  simp only [unown, keys, List.map_append, List.mem_append] at h
  rcases h with h | h
  ·have : n = m := by
    split at h <;> simp at h <;> exact h
   simp [this]
  ·exact List.mem_cons_of_mem _ (keys_unown F l n h)
theorem StepR.freeze {E : Env} {F : SF} {w : World} (h : HRel E F w) {n : Nm} {e : TypeId} {wd : Nat} {o : Bool} {rs rs1 : List (List PV)} (hn : F n = some (.rows e wd o false rs)) (hw : WkLL F rs rs1) (hne : n ∉ wkNLL rs rs1) :
  StepR E F w E ((F.upd (unown F (wkNLL rs rs1))).set n (.rows e wd o false rs1)) w := by
 generalize hns : wkNLL rs rs1 = ns at hne ⊢
 have hle : SLe (F.upd (unown F ns)) F := unown_le F ns
 have hS := StepR.less h hle
 have hFn : F.upd (unown F ns) n = some (.rows e wd o false rs) := by
  rw [upd_eq, setAll_not (fun hk => hne (keys_unown F ns n hk))]; exact hn
 let F4 : SF := (F.upd (unown F ns)).set n (.rows e wd o false rs1)
 have hown : ∀ m b, F4 m = some b → b.own = true → ∃ c, F m = some c ∧ c.own = true := by
  intro m b hb ho
  simp only [F4, SF.set] at hb
  split at hb
  ·rename_i he
   subst he
   injection hb with hb; subst hb
   exact ⟨_, hn, ho⟩
  ·exact ⟨b, hle.own hb ho, ho⟩
 have hown3 : ∀ m b, F4 m = some b → b.own = true → ∃ c, (F.upd (unown F ns)) m = some c ∧ c.own = true := by
  intro m b hb ho
  simp only [F4, SF.set] at hb
  split at hb
  ·rename_i he
   subst he
   injection hb with hb; subst hb
   exact ⟨_, hFn, ho⟩
  ·exact ⟨b, hb, ho⟩
 have hlive : ∀ m b, F4 m = some b → b.live = true → ∃ c, F m = some c ∧ c.live = true := by
  intro m b hb ho
  simp only [F4, SF.set] at hb
  split at hb
  ·rename_i he
   subst he
   exact ⟨_, hn, rfl⟩
  ·rcases hle m b hb with rfl | h1 | ⟨_, _, _, _, h1, _⟩ | ⟨_, _, _, h1, _⟩
   ·cases ho
   ·exact ⟨b, h1, ho⟩
   ·exact ⟨_, h1, rfl⟩
   ·exact ⟨_, h1, rfl⟩
 have hzone : ∀ q, Zn E (F.upd (unown F ns)) w q → Zn E F4 w q := by
  rintro q ⟨k1, k2⟩
  refine ⟨k1, fun m b i hm ho hi hz => ?_⟩
  obtain ⟨c, c1, c2⟩ := hown3 m b hm ho
  exact k2 m c i c1 c2 hi hz
 have hX : Ext E w (Zn E (F.upd (unown F ns)) w) E w (Zn E F4 w) := ⟨Env.le.refl _, hzone, fun _ _ => rfl⟩
 have hrel : HRel E F4 w := by
  refine ⟨fun m b hm => ?_, fun m1 m2 b c i j h1 h2 h12 ho hl hi hj hz1 hz2 => ?_⟩
  ·by_cases hmn : m = n
   ·subst hmn
    have hb : b = .rows e wd o false rs1 := by
     simp only [F4, SF.set, if_true] at hm; injection hm with hm; exact hm.symm
    subst hb
    obtain ⟨i, hi, hor⟩ := h.blk m _ hn
    refine ⟨i, hi, ?_⟩
    rcases hor with ⟨z1, rfl, z3, z4⟩ | ⟨hz, hRr⟩
    ·refine .inl ⟨z1, ?_, z3, z4⟩
     cases rs1 with
     | nil => rfl
     | cons a l => simp [WkLL] at hw
    ·refine .inr ⟨hz, ?_⟩
     obtain ⟨cs, fz, b1, b2, b3, b4⟩ := hRr.cells
     obtain ⟨l1, l2⟩ := wkLL_get hw
     have hlen1 : ∀ row ∈ rs1, row.length = wd := by
      intro row hrow
      obtain ⟨r, hr⟩ := List.getElem?_of_mem hrow
      have hlt := lt_of_get hr
      have hr0 := List.getElem?_eq_getElem (l := rs) (i := r) (by omega)
      obtain ⟨k1, _⟩ := l2 r _ row hr0 hr
      rw [← (wkL_get k1).1]
      exact hRr.len _ (List.mem_of_getElem? hr0)
     refine ⟨hRr.wd_eq, hRr.o0, hRr.wd_pos, hlen1, by rw [← l1]; exact hRr.le, hRr.cap, cs, fz, b1, b2, b3, ?_⟩
     refine (VRr_iff hlen1).2 fun r row1 c y hr1 hc1 => ?_
     have hlt := lt_of_get hr1
     have hr0 := List.getElem?_eq_getElem (l := rs) (i := r) (by omega)
     obtain ⟨k1, k2⟩ := l2 r _ row1 hr0 hr1
     obtain ⟨k3, k4⟩ := wkL_get k1
     have hct := lt_of_get hc1
     have hc0 := List.getElem?_eq_getElem (l := rs[r]) (i := c) (by omega)
     obtain ⟨k5, k6⟩ := k4 c _ y hc0 hc1
     obtain ⟨u, a1, a2, a3⟩ := (VRr_iff hRr.len).1 b4 r _ c _ hr0 hc0
     refine ⟨u, a1, a2, ?_⟩
     have hno : ∀ m ∈ wkN (rs[r])[c] y, ∀ c, (F.upd (unown F ns)) m = some c → c.own = false := fun m hm c hc => unown_own (by rw [← hns]; exact k2 m (k6 m hm)) hc
     exact VR.mono hX _ _ (wk_vr h hle _ y u k5 hno a3)
   ·have hm' : (F.upd (unown F ns)) m = some b := by simp only [F4, SF.set, if_neg hmn] at hm; exact hm
    exact (hS.rel.blk m b hm').mono hX fun _ _ _ => rfl
  ·obtain ⟨c1, d1, d2⟩ := hown m1 b h1 ho
   obtain ⟨c2, e1, e2⟩ := hlive m2 c h2 hl
   exact h.sep m1 m2 c1 c2 i j d1 e1 h12 d2 e2 hi hj hz1 hz2
 refine ⟨Env.le.refl _, hrel, rfl, rfl, rfl, Nat.le_refl _, fun _ _ _ => rfl, fun m b i hm ho hi hz => ?_⟩
 obtain ⟨c, c1, c2⟩ := hown m b hm ho
 exact .inr ⟨m, c, i, c1, c2, hi, hz, rfl⟩
theorem upd_append (l l' : List (Nm × SBlk)) (F : SF) : F.upd (l ++ l') = (F.upd l).upd l' := by
 induction l generalizing F with
 | nil => rfl
 | cons a l ih => obtain ⟨n, b⟩ := a; exact ih _
theorem Con.frz {P : Program} {f : FuncId} {args : List PV} {F : SF} {L nx top : Nat} {v : PV} {upd : List (Nm × SBlk)} {rd : List Nm} {n : Nm} {e : TypeId} {wd : Nat} {o : Bool} {rs rs1 : List (List PV)} (hn : F n = some (.rows e wd o false rs)) (hw : WkLL F rs rs1) (hne : n ∉ wkNLL rs rs1)
  (hc : Con P f args (F.upd (unown F (wkNLL rs rs1) ++ [(n, .rows e wd o false rs1)])) L nx top v upd rd) : Con P f args F L nx top v (unown F (wkNLL rs rs1) ++ [(n, .rows e wd o false rs1)] ++ upd) (n :: (wkNLL rs rs1 ++ rd)) := by
 refine ⟨hc.1, fun F2 hF2 E w args' hR hfr hdp hv => ?_⟩
 have hu : unown F2 (wkNLL rs rs1) = unown F (wkNLL rs rs1) := by
  have : ∀ l : List Nm, (∀ m ∈ l, F2 m = F m) → unown F2 l = unown F l := by
   intro l
   induction l with
   | nil => intro _; rfl
   | cons m l ih => intro h; simp only [unown, h m (by simp), ih (fun q hq => h q (by simp [hq]))]
  exact this _ (fun m hm => hF2 m (by simp [hm]))
 have hw2 : WkLL F2 rs rs1 := by
  have : ∀ a b : List (List PV), (∀ m ∈ wkNLL a b, F2 m = F m) → WkLL F a b → WkLL F2 a b := by
   intro a
   induction a with
   | nil => intro b _ h; cases b <;> simp [WkLL] at h ⊢
   | cons r a ih =>
    intro b hm h
    cases b with
    | nil => simp [WkLL] at h
    | cons r' b =>
     simp only [WkLL] at h ⊢
     exact ⟨wkL_congr h.1 (fun m hq => hm m (by simp [wkNLL, hq])), ih b (fun m hq => hm m (by simp [wkNLL, hq])) h.2⟩
  exact this _ _ (fun m hm => hF2 m (by simp [hm])) hw
 have hS := StepR.freeze hR ((hF2 n (by simp)).trans hn) hw2 hne
 rw [hu] at hS
 have hF4 : ∀ G : SF, G.upd (unown F (wkNLL rs rs1) ++ [(n, .rows e wd o false rs1)]) = (G.upd (unown F (wkNLL rs rs1))).set n (.rows e wd o false rs1) := fun G => by rw [upd_append]; rfl
 rw [← hF4] at hS
 have hL := hc.2 (F2.upd (unown F (wkNLL rs rs1) ++ [(n, .rows e wd o false rs1)])) (fun m hm => by rw [upd_eq, upd_eq]; exact setAll_at (hF2 m (by simp [hm]))) E w args' hS.rel hfr hdp (VRl.mono hS.ext _ _ hv)
 have conv : ∀ v' w', CGives E (F2.upd (unown F (wkNLL rs rs1) ++ [(n, .rows e wd o false rs1)])) w L nx top v upd v' w' → CGives E F2 w L nx top v (unown F (wkNLL rs rs1) ++ [(n, .rows e wd o false rs1)] ++ upd) v' w' := by
  rintro v' w' ⟨E', q1, q2, q3⟩
  unfold CGives
  rw [upd_append _ upd]
  exact ⟨E', q1, hS.trans q2, q3⟩
 unfold Lands Sx.Lands at hL ⊢
 split at hL
 ·exact conv _ _ hL
 ·exact conv _ _ hL
 ·intro cs
  obtain ⟨e, w', fr, ⟨v', he, hK⟩, hrest⟩ := hL cs
  exact ⟨e, w', fr, ⟨v', he, conv _ _ hK⟩, hrest⟩
 ·exact hL
theorem Sub.mem {L : Nat} {F0 : SF} {t : List (Option PV)} {H H' : List (Nm × SBlk)} {nx : Nat} (h : ∀ (E : Env) (w : World), HRel E (look F0 H) w → StepR E (look F0 H) w E (look F0 H') w) : Sub L F0 ⟨t, H, nx⟩ ⟨t, H', nx⟩ := by
 intro E0 w0 E a w hd0 hR
 have hS := h E w hR.step.rel
 refine ⟨E, hR.step.trans hS, ⟨by simpa using hR.tmps.size, fun i v hv => ?_⟩, hR.marks.mono hS.ext, hR.news⟩
 obtain ⟨v', a1, a2⟩ := hR.tmps.val i v hv
 exact ⟨v', a1, VR.mono hS.ext _ _ a2⟩
theorem Sub.letGo {L : Nat} {F0 : SF} {t : List (Option PV)} {H : List (Nm × SBlk)} {nx : Nat} (ns : List Nm) : Sub L F0 ⟨t, H, nx⟩ ⟨t, updH H (unown (look F0 H) ns), nx⟩ :=
 Sub.mem fun E w hR => by rw [look_updH]; exact StepR.less hR (unown_le _ _)
theorem Sub.freeze {L : Nat} {F0 : SF} {t : List (Option PV)} {H : List (Nm × SBlk)} {nx : Nat} {n : Nm} {e : TypeId} {wd : Nat} {o : Bool} {rs : List (List PV)} (rs1 : List (List PV)) (hn : look F0 H n = some (.rows e wd o false rs)) (hw : WkLL (look F0 H) rs rs1) (hne : n ∉ wkNLL rs rs1) :
  Sub L F0 ⟨t, H, nx⟩ ⟨t, updH H (unown (look F0 H) (wkNLL rs rs1) ++ [(n, .rows e wd o false rs1)]), nx⟩ :=
 Sub.mem fun E w hR => by
  rw [look_updH, upd_append]
  exact StepR.freeze hR hn hw hne
end Go.Tx
end
section
namespace Go.Proofs.Ytfhhbkehlfipgaa
open Go.Tx
set_option maxRecDepth 100000
set_option maxHeartbeats 16000000
theorem nS2 {x c : Nat} (h : 0 < c) : (x + c = x) = False := by apply eq_false; omega
theorem nS2' {x c : Nat} (h : 0 < c) : (x = x + c) = False := by apply eq_false; omega
theorem behind32_ok {F : SF} {L nx : Nat} (x : Int) (hx : 0 ≤ x) (hx2 : x ≤ 4294967295) : Con Try.prog 44 [.int .i64 x, .int .i64 32] F L nx nx (.int .i64 ((x + 1) % 4294967296)) [] [] := by
 have h := behind_ok (F := F) (L := L) (nx := nx) x 32 hx hx2 (by omega) (by omega)
 rwa [show (2 : Int) ^ (Int.toNat 32) = 4294967296 from rfl] at h
def tK (d : Dat) : PV := .int .i64 d.tsn
def tV (d : Dat) : PV := .agg d.row
def mapP (ps : List Dat) : PV := .fm (ps.map tK) (ps.map tV)
def resC : Option (Msg × List Int) → PV
 | some (m, ns) => .tup [.agg m.row, .fs 1 (ns.map eI)]
 | none => .tup [.agg Msg.zero.row, .fs 1 []]
theorem mGet_map (ps : List Dat) (t : Int) : mGet (ps.map tK) (ps.map tV) t = (getT ps t).map tV := by
 induction ps with
 | nil => rfl
 | cons d ps ih =>
  simp only [List.map_cons, tK, mGet, getT, List.find?_cons]
  by_cases h : d.tsn = t
  ·subst h; simp
  ·rw [if_neg h, show (d.tsn == t) = false by simpa using h]
   exact ih
theorem complete_ok {F : SF} {L nx : Nat} (sp : PV) (ps : List Dat) (d : Dat) (hlen : ps.length ≤ 80) (hall : ∀ x ∈ ps, x.ok = true) (hd : d ∈ ps) :
    Con Try.prog 92 [sp, .agg d.row, mapP ps] F L nx nx (resC (complete ps d)) [] [] := by
  refine bdy Try.f92 ?_
  intro F3 hF1 hF2
  have hn : ∀ (d2 : Dat), d2 ∈ ps → 0 ≤ d2.tsn ∧ d2.tsn < 4294967296 ∧ d2.pl.length ≤ 1100 := by
    intro d2 h2
    have := hall d2 h2
    have h32 : (2 : Int) ^ (Int.toNat 32) = 4294967296 := rfl
    simp only [Dat.ok, serB, Bool.and_eq_true, decide_eq_true_eq, h32] at this
    omega
  cases hfi : d.fi with
  | false =>
    have e : complete ps d = none := by simp [complete, hfi]
    rw [e]
    simp only [Try.f92, cx, Dat.row, mapP, hfi, resC, Msg.zero, Msg.row, go_sem, meths]
    exact PostF.rs (v0 := .tup [.agg [.int .i64 0, .int .i64 0, .bool false, .str []], .nilS]) (.inr rfl)
  | true =>
    simp only [Try.f92, cx, Dat.row, mapP, hfi, go_sem, meths]
    refine loopK.intro _ _ (I := fun z : Nat × Nat × Nat × Option Dat × List UInt8 × List Int => ⟨[none, none, some (.fm (ps.map tK) (ps.map tV)), none, some (.ptr ⟨L + 1, 0⟩ 0 0), none, some (.ptr ⟨L + 1, 32⟩ 0 0), some (.nilS), some (.ptr ⟨L + 1, 416⟩ 0 0), some (.sl ⟨L + 1, z.2.1⟩ 0 z.2.2.2.2.2.length), some (.ptr ⟨L + 1, z.2.2.1⟩ 0 0), some (.bool z.2.2.2.1.isSome), none, none, none, none, none, none, none, none, none, none, none, none, none, none, none, none, none, none, none, none, none, none, none, none, none, none, none, none, none, none, none, none, none, none, none, none, none, none, none, none, none, none, none, none, none, none, none, none, none, none, none, none, none, none, none, none, none, none, none, none, none, none, none, none, none, none, none, none, none, none, none, none, none, none],
      [(⟨L + 1, 0⟩, .rows 43 8 true true [[.int .i64 d.tsn, .int .i64 d.st, .int .i64 d.sq, .int .i64 d.pr, .bool true, .bool d.la, .bool d.lo, .str d.pl]]), (⟨L + 1, 32⟩, .rows 37 4 true true [[.int .i64 0, .int .i64 0, .bool false, .str []]]),
       (⟨L + 1, 416⟩, .rows 37 4 true true [[.int .i64 d.st, .int .i64 d.pr, .bool d.lo, .str z.2.2.2.2.1]]),
       (⟨L + 1, z.2.2.1⟩, .rows 43 8 true true [(z.2.2.2.1.getD ⟨0, 0, 0, 0, false, false, false, []⟩).row]), (⟨L + 1, z.2.1⟩, .rows 3 1 true true (z.2.2.2.2.2.map eI))], 10000 * (z.1 + 1)⟩)
      (pre := fun z => 544 ≤ z.2.1 ∧ 544 ≤ z.2.2.1 ∧ z.2.1 ≠ z.2.2.1 ∧ z.2.1 < 10000 * (z.1 + 1) ∧ z.2.2.1 < 10000 * (z.1 + 1) ∧ z.2.2.2.2.2.length = z.1 ∧ z.2.2.2.2.2.Nodup ∧ (∀ n ∈ z.2.2.2.2.2, n ∈ ps.map Dat.tsn) ∧ (∀ x, z.2.2.2.1 = some x → x ∈ ps) ∧ z.2.2.2.2.1.length ≤ 1100 * z.1 ∧
        compG ps d (ps.length + 1) d [] [] = z.2.2.2.1.bind fun x => compG ps d (ps.length + 1 - z.1) x z.2.2.2.2.1 z.2.2.2.2.2) (μ := fun z => ps.length + 1 - z.1) (0, 640, 544, some d, [], []) ⟨by simp, by simp, by simp, by simp, by simp, by simp, by simp, by simp, by simp; exact hd, by simp, by simp⟩ ?_ ?_
    · refine Sub.trans (Sub.nilName 9 3 (wd := 1) (by omega) rfl) ?_
      refine Sub.of (hfz hF2) (by simp only [go_sem, subT, and_self, Option.isSome]) ?_ (by simp only [go_sem, subK, and_self, true_or, or_true, List.not_mem_nil, List.mem_cons]) (by simp)
      simp [subH, Tx.look, updH, setH, Dat.row, hfi]
    · rintro ⟨i, q, p, o, tx, ns⟩ ⟨hq1, hp1, hqp, hq2, hp2, hni, hnd, hns, ho, htx, hC⟩
      simp only at hq1 hp1 hqp hq2 hp2 hni hnd hns ho htx hC ⊢
      have hil : i ≤ ps.length := by
        have := nodup_sub hnd hns
        simp at this; omega
      cases o with
      | none =>
        have e : complete ps d = none := by simp only [complete, hfi, if_true, hC]; rfl
        rw [e]
        simp only [Option.isSome, resC, Msg.zero, Msg.row, go_sem]
        exact PostF.rs (v0 := .tup [.agg [.int .i64 0, .int .i64 0, .bool false, .str []], .nilS]) (.inr rfl)
      | some x =>
        have hx := ho x rfl
        obtain ⟨hx1, hx2, hx3⟩ := hn x hx
        have p_0 : (p = 0) = False := by apply eq_false; omega
        have n0_p : (0 = p) = False := by apply eq_false; omega
        have p_32 : (p = 32) = False := by apply eq_false; omega
        have n32_p : (32 = p) = False := by apply eq_false; omega
        have p_416 : (p = 416) = False := by apply eq_false; omega
        have n416_p : (416 = p) = False := by apply eq_false; omega
        have p_q : (p = q) = False := by apply eq_false; omega
        have nq_p : (q = p) = False := by apply eq_false; omega
        have p_n1 : ∀ kk, (10000 * (i + 1) + kk = p) = False := fun kk => by apply eq_false; omega
        have p_n2 : ∀ kk, (p = 10000 * (i + 1) + kk) = False := fun kk => by apply eq_false; omega
        have p_n3 : (10000 * (i + 1) = p) = False := by apply eq_false; omega
        have p_n4 : (p = 10000 * (i + 1)) = False := by apply eq_false; omega
        have p_n5 : ∀ kk, ((⟨L + 1, p⟩ : Nm) == ⟨L + 1, 10000 * (i + 1) + kk⟩) = false := fun kk => by simp; omega
        have q_0 : (q = 0) = False := by apply eq_false; omega
        have n0_q : (0 = q) = False := by apply eq_false; omega
        have q_32 : (q = 32) = False := by apply eq_false; omega
        have n32_q : (32 = q) = False := by apply eq_false; omega
        have q_416 : (q = 416) = False := by apply eq_false; omega
        have n416_q : (416 = q) = False := by apply eq_false; omega
        have q_n1 : ∀ kk, (10000 * (i + 1) + kk = q) = False := fun kk => by apply eq_false; omega
        have q_n2 : ∀ kk, (q = 10000 * (i + 1) + kk) = False := fun kk => by apply eq_false; omega
        have q_n3 : (10000 * (i + 1) = q) = False := by apply eq_false; omega
        have q_n4 : (q = 10000 * (i + 1)) = False := by apply eq_false; omega
        have q_n5 : ∀ kk, ((⟨L + 1, q⟩ : Nm) == ⟨L + 1, 10000 * (i + 1) + kk⟩) = false := fun kk => by simp; omega
        obtain ⟨k, hk⟩ : ∃ k, ps.length + 1 - i = k + 1 := ⟨ps.length - i, by omega⟩
        have hC' : compG ps d (ps.length + 1) d [] [] = compG ps d (k + 1) x tx ns := by rw [hC, hk]; rfl
        have hnone : (x.st != d.st || x.sq != d.sq || x.lo != d.lo || (x.fi && !ns.isEmpty) || ns.contains x.tsn) = true → complete ps d = none := by
          intro h
          simp only [complete, hfi, if_true]; rw [hC', compG, if_pos h]; rfl
        have hgo : (x.st != d.st || x.sq != d.sq || x.lo != d.lo || (x.fi && !ns.isEmpty) || ns.contains x.tsn) = false → compG ps d (ps.length + 1) d [] [] = if x.la then some (tx ++ x.pl, ns ++ [x.tsn]) else match getT ps ((x.tsn + 1) % 4294967296) with
            | none => none
            | some d' => compG ps d k d' (tx ++ x.pl) (ns ++ [x.tsn]) := by
          intro h
          rw [hC']
          rw [compG, if_neg (by rw [h]; simp)] <;> rfl
        cases h1 : x.st != d.st with
        | true =>
          rw [hnone (by rw [h1]; rfl)]
          simp only [Nat.add_assoc, Option.isSome, Option.getD, Dat.row, h1, p_0, n0_p, p_32, n32_p, p_416, p_q, p_n1, n0_q, n32_q, q_n1, resC, Msg.zero, Msg.row, Nat.add_zero, go_sem]
          exact PostF.rs (v0 := .tup [.agg [.int .i64 0, .int .i64 0, .bool false, .str []], .nilS]) (.inr rfl)
        | false =>
        cases h2 : x.sq != d.sq with
        | true =>
          rw [hnone (by rw [h1, h2]; rfl)]
          simp only [Nat.add_assoc, Option.isSome, Option.getD, Dat.row, h1, p_0, n0_p, p_32, n32_p, p_416, p_q, p_n1, n0_q, n32_q, q_n1, h2, resC, Msg.zero, Msg.row, Nat.add_zero, go_sem]
          exact PostF.rs (v0 := .tup [.agg [.int .i64 0, .int .i64 0, .bool false, .str []], .nilS]) (.inr rfl)
        | false =>
        have e3 : (x.lo != d.lo) = !(x.lo == d.lo) := rfl
        cases h3 : x.lo == d.lo with
        | false =>
          rw [hnone (by rw [h1, h2, e3, h3]; rfl)]
          simp only [Nat.add_assoc, Option.isSome, Option.getD, Dat.row, h1, p_0, n0_p, p_32, n32_p, p_416, p_q, p_n1, n0_q, n32_q, q_n1, h2, h3, resC, Msg.zero, Msg.row, Nat.add_zero, go_sem]
          exact PostF.rs (v0 := .tup [.agg [.int .i64 0, .int .i64 0, .bool false, .str []], .nilS]) (.inr rfl)
        | true =>
        have h5 : (!ns.isEmpty) = decide ((0 : Int) < (ns.length : Int)) := by
          cases ns with
          | nil => rfl
          | cons a l => rw [dT (by simp only [List.length_cons]; omega)]; rfl
        have h7 : ns.contains x.tsn = ns.any fun z => x.tsn == z := List.contains_eq_any_beq
        cases h4 : x.fi && decide ((0 : Int) < (ns.length : Int)) with
        | true =>
          rw [Bool.and_eq_true] at h4
          rw [hnone (by rw [h1, h2, e3, h3, h5, h4.1, h4.2]; rfl)]
          simp only [Nat.add_assoc, Option.isSome, Option.getD, Dat.row, h1, p_0, n0_p, p_32, n32_p, p_416, p_q, p_n1, n0_q, n32_q, q_n1, h2, h3, h4.1, h4.2, resC, Msg.zero, Msg.row, Nat.add_zero, go_sem]
          exact PostF.rs (v0 := .tup [.agg [.int .i64 0, .int .i64 0, .bool false, .str []], .nilS]) (.inr rfl)
        | false =>
          cases h6 : ns.any fun z => x.tsn == z with
          | true =>
            rw [hnone (by rw [h1, h2, e3, h3, h5, h7, h4, h6]; rfl)]
            cases hf : x.fi with
            | false =>
              simp only [Nat.add_assoc, Option.isSome, Option.getD, Dat.row, h1, p_0, n0_p, p_32, p_416, p_q, n0_q, h2, h3, hf, resC, Msg.zero, Msg.row, Nat.add_zero, go_sem]
              refine CallVC.pure (args2 := [.fs 1 (ns.map eI), _]) ⟨by simp [Wk, q_0, q_32, q_416, nq_p, List.take_of_length_le], rfl, trivial⟩ (contains_ok ns x.tsn (by omega)) rfl ?_
              simp only [Nat.add_assoc, p_0, p_32, n32_p, p_416, p_q, p_n1, n32_q, q_n1, h6, Nat.add_zero, go_sem]
              exact PostF.rs (v0 := .tup [.agg [.int .i64 0, .int .i64 0, .bool false, .str []], .nilS]) (.inr rfl)
            | true =>
              have h8 : decide ((0 : Int) < (ns.length : Int)) = false := by rw [hf] at h4; exact h4
              simp only [Nat.add_assoc, Option.isSome, Option.getD, Dat.row, h1, p_0, n0_p, p_32, p_416, p_q, n0_q, h2, h3, hf, h8, resC, Msg.zero, Msg.row, Nat.add_zero, go_sem]
              refine CallVC.pure (args2 := [.fs 1 (ns.map eI), _]) ⟨by simp [Wk, q_0, q_32, q_416, nq_p, List.take_of_length_le], rfl, trivial⟩ (contains_ok ns x.tsn (by omega)) rfl ?_
              simp only [Nat.add_assoc, p_0, p_32, n32_p, p_416, p_q, p_n1, n32_q, q_n1, h6, Nat.add_zero, go_sem]
              exact PostF.rs (v0 := .tup [.agg [.int .i64 0, .int .i64 0, .bool false, .str []], .nilS]) (.inr rfl)
          | false =>
            have hg := hgo (by rw [h1, h2, e3, h3, h5, h7, h4, h6]; rfl)
            cases hla : x.la with
            | true =>
              have e : complete ps d = some (⟨d.st, d.pr, d.lo, tx ++ x.pl⟩, ns ++ [x.tsn]) := by
                simp only [complete, hfi, if_true]; rw [hg, hla]; rfl
              rw [e]
              cases hf : x.fi with
              | false =>
                simp only [Nat.add_assoc, Option.isSome, Option.getD, Dat.row, h1, p_0, n0_p, p_32, p_416, p_q, n0_q, h2, h3, hf, hla, resC, Msg.row, Nat.add_zero, go_sem]
                refine CallVC.pure (args2 := [.fs 1 (ns.map eI), _]) ⟨by simp [Wk, q_0, q_32, q_416, nq_p, List.take_of_length_le], rfl, trivial⟩ (contains_ok ns x.tsn (by omega)) rfl ?_
                simp only [nS2, Nat.add_assoc, p_0, p_32, n32_p, p_416, n416_p, p_q, nq_p, p_n1, p_n2, q_0, q_32, n32_q, q_416, n416_q, q_n1, q_n2, q_n5, h6, List.length_map, Nat.add_zero, go_sem]
                repeat refine sd1 ?_
                exact PostF.rs (v0 := .tup [.agg [.int .i64 d.st, .int .i64 d.pr, .bool d.lo, .str (tx ++ x.pl)], .sl ⟨L + 1, 10000 * (i + 1) + 1408⟩ 0 (ns.length + 1)] ) (.inr rfl) (hw := by simp [Wk, WkL, Tx.look, List.take_of_length_le, nB, eI, p_n1, q_n1])
              | true =>
                have h8 : decide ((0 : Int) < (ns.length : Int)) = false := by rw [hf] at h4; exact h4
                simp only [Nat.add_assoc, Option.isSome, Option.getD, Dat.row, h1, p_0, n0_p, p_32, p_416, p_q, n0_q, h2, h3, hf, h8, hla, resC, Msg.row, Nat.add_zero, go_sem]
                refine CallVC.pure (args2 := [.fs 1 (ns.map eI), _]) ⟨by simp [Wk, q_0, q_32, q_416, nq_p, List.take_of_length_le], rfl, trivial⟩ (contains_ok ns x.tsn (by omega)) rfl ?_
                simp only [nS2, Nat.add_assoc, p_0, p_32, n32_p, p_416, n416_p, p_q, nq_p, p_n1, p_n2, q_0, q_32, n32_q, q_416, n416_q, q_n1, q_n2, q_n5, h6, List.length_map, Nat.add_zero, go_sem]
                repeat refine sd1 ?_
                exact PostF.rs (v0 := .tup [.agg [.int .i64 d.st, .int .i64 d.pr, .bool d.lo, .str (tx ++ x.pl)], .sl ⟨L + 1, 10000 * (i + 1) + 1504⟩ 0 (ns.length + 1)] ) (.inr rfl) (hw := by simp [Wk, WkL, Tx.look, List.take_of_length_le, nB, eI, p_n1, q_n1])
            | false =>
              have h32 : (2 : Int) ^ (Int.toNat 32) = 4294967296 := rfl
              have hik : intKeys (ps.map tK) := by intro k hk; obtain ⟨y, _, rfl⟩ := List.mem_map.1 hk; exact ⟨_, rfl⟩
              have hgt := mGet_map ps ((x.tsn + 1) % 4294967296)
              have hnd' : (ns ++ [x.tsn]).Nodup := by
                rw [List.nodup_append]
                refine ⟨hnd, by simp, fun a ha b hb => ?_⟩
                simp at hb; subst hb
                intro hab
                have : ns.any (fun z => x.tsn == z) = true := List.any_eq_true.2 ⟨a, ha, by simp [hab]⟩
                rw [h6] at this; cases this
              have hns' : ∀ n ∈ ns ++ [x.tsn], n ∈ ps.map Dat.tsn := by
                intro n hn'
                rcases List.mem_append.1 hn' with h | h
                · exact hns n h
                · simp at h; subst h; exact List.mem_map.2 ⟨x, hx, rfl⟩
              cases hf : x.fi with
              | false =>
                simp only [Nat.add_assoc, Option.isSome, Option.getD, Dat.row, h1, p_0, n0_p, p_32, p_416, p_q, n0_q, h2, h3, hf, hla, Nat.add_zero, go_sem]
                refine CallVC.pure (args2 := [.fs 1 (ns.map eI), _]) ⟨by simp [Wk, q_0, q_32, q_416, nq_p, List.take_of_length_le], rfl, trivial⟩ (contains_ok ns x.tsn (by omega)) rfl ?_
                simp only [nS2, Nat.add_assoc, p_0, p_32, p_416, n416_p, p_q, nq_p, p_n1, p_n2, q_0, q_32, q_416, n416_q, q_n1, q_n2, q_n5, h6, List.length_map, Nat.add_zero, go_sem]
                repeat refine sd1 ?_
                refine CallVC.same (behind32_ok x.tsn (by omega) (by omega)) ?_
                cases hGT : getT ps ((x.tsn + 1) % 4294967296) with
                | none =>
                  rw [hGT] at hgt hg
                  simp only [nS2, Nat.add_assoc, Option.isSome, Option.getD, p_n1, q_n1, hgt, Option.map_none, go_sem]
                  refine ⟨hik, (i + 1, 10000 * (i + 1) + 1408, 10000 * (i + 1) + 1568, none, tx ++ x.pl, ns ++ [x.tsn]), ⟨by simp only []; omega, by simp only []; omega, by simp only []; omega, by simp only []; omega, by simp only []; omega, by simp; omega, hnd', hns', by simp, by simp; omega, by rw [hg, hla]; rfl⟩, by simp only []; omega, ?_⟩
                  refine Sub.of (hfz hF2) (by simp [subT]) ?_ (by simp [subK, keys]) (by simp only []; omega)
                  simp [subH, Tx.look, eI, p_n1, q_n1, nB]
                | some y =>
                  rw [hGT] at hgt hg
                  simp only [nS2, Nat.add_assoc, Option.isSome, Option.getD, Dat.row, p_n1, q_n1, hgt, Option.map_some, tV, go_sem]
                  refine ⟨hik, (i + 1, 10000 * (i + 1) + 1408, 10000 * (i + 1) + 1568, some y, tx ++ x.pl, ns ++ [x.tsn]), ⟨by simp only []; omega, by simp only []; omega, by simp only []; omega, by simp only []; omega, by simp only []; omega, by simp; omega, hnd', hns', by intro z hz; simp at hz; subst hz; exact (getT_mem hGT).1, by simp; omega, by rw [hg, hla]; show _ = compG ps d (ps.length + 1 - (i + 1)) y (tx ++ x.pl) (ns ++ [x.tsn]); rw [show ps.length + 1 - (i + 1) = k by omega]; rfl⟩, by simp only []; omega, ?_⟩
                  refine Sub.of (hfz hF2) (by simp [subT]) ?_ (by simp [subK, keys]) (by simp only []; omega)
                  simp [subH, Tx.look, eI, p_n1, q_n1, nB]
              | true =>
                have h8 : decide ((0 : Int) < (ns.length : Int)) = false := by rw [hf] at h4; exact h4
                simp only [Nat.add_assoc, Option.isSome, Option.getD, Dat.row, h1, p_0, n0_p, p_32, p_416, p_q, n0_q, h2, h3, hf, h8, hla, Nat.add_zero, go_sem]
                refine CallVC.pure (args2 := [.fs 1 (ns.map eI), _]) ⟨by simp [Wk, q_0, q_32, q_416, nq_p, List.take_of_length_le], rfl, trivial⟩ (contains_ok ns x.tsn (by omega)) rfl ?_
                simp only [nS2, Nat.add_assoc, p_0, p_32, p_416, n416_p, p_q, nq_p, p_n1, p_n2, q_0, q_32, q_416, n416_q, q_n1, q_n2, q_n5, h6, List.length_map, Nat.add_zero, go_sem]
                repeat refine sd1 ?_
                refine CallVC.same (behind32_ok x.tsn (by omega) (by omega)) ?_
                cases hGT : getT ps ((x.tsn + 1) % 4294967296) with
                | none =>
                  rw [hGT] at hgt hg
                  simp only [nS2, Nat.add_assoc, Option.isSome, Option.getD, p_n1, q_n1, hgt, Option.map_none, go_sem]
                  refine ⟨hik, (i + 1, 10000 * (i + 1) + 1504, 10000 * (i + 1) + 1664, none, tx ++ x.pl, ns ++ [x.tsn]), ⟨by simp only []; omega, by simp only []; omega, by simp only []; omega, by simp only []; omega, by simp only []; omega, by simp; omega, hnd', hns', by simp, by simp; omega, by rw [hg, hla]; rfl⟩, by simp only []; omega, ?_⟩
                  refine Sub.of (hfz hF2) (by simp [subT]) ?_ (by simp [subK, keys]) (by simp only []; omega)
                  simp [subH, Tx.look, eI, p_n1, q_n1, nB]
                | some y =>
                  rw [hGT] at hgt hg
                  simp only [nS2, Nat.add_assoc, Option.isSome, Option.getD, Dat.row, p_n1, q_n1, hgt, Option.map_some, tV, go_sem]
                  refine ⟨hik, (i + 1, 10000 * (i + 1) + 1504, 10000 * (i + 1) + 1664, some y, tx ++ x.pl, ns ++ [x.tsn]), ⟨by simp only []; omega, by simp only []; omega, by simp only []; omega, by simp only []; omega, by simp only []; omega, by simp; omega, hnd', hns', by intro z hz; simp at hz; subst hz; exact (getT_mem hGT).1, by simp; omega, by rw [hg, hla]; show _ = compG ps d (ps.length + 1 - (i + 1)) y (tx ++ x.pl) (ns ++ [x.tsn]); rw [show ps.length + 1 - (i + 1) = k by omega]; rfl⟩, by simp only []; omega, ?_⟩
                  refine Sub.of (hfz hF2) (by simp [subT]) ?_ (by simp [subK, keys]) (by simp only []; omega)
                  simp [subH, Tx.look, eI, p_n1, q_n1, nB]
end Go.Proofs.Ytfhhbkehlfipgaa
end
