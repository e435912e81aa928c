/- Lemmas for the walk: C39. -/
import Derived.Test.YtfhhbkehlfipgaaCxN
import Derived.Test.YtfhhbkehlfipgaaCxO
section
set_option linter.unusedSimpArgs false
set_option linter.unusedVariables false
set_option linter.unnecessarySimpa false
namespace Go.Proofs.Ytfhhbkehlfipgaa
open Go.Tx
set_option maxRecDepth 100000
set_option maxHeartbeats 16000000
set_option linter.unusedSimpArgs false
set_option linter.unusedVariables false
/-! the law StreamsCut -/
theorem comesG_valid : ∀ (l : List Dat) {inn : List Int} {ps : List Dat} (out : List Msg), PsOk inn ps → dueG inn ps = none → inn.all (serB 16) = true → (∀ d ∈ l, d.ok = true ∧ d.st < inn.length) → ps.length + l.length ≤ 80 →
    PsOk (comesG inn ps l out).1 (comesG inn ps l out).2.1 ∧ dueG (comesG inn ps l out).1 (comesG inn ps l out).2.1 = none ∧ (comesG inn ps l out).1.all (serB 16) = true ∧ (comesG inn ps l out).1.length = inn.length
  | [], inn, ps, out, h, hD, hi, _, _ => ⟨h, hD, hi, rfl⟩
  | d :: l, inn, ps, out, h, hD, hi, hl, hlen => by
    simp only [List.length_cons] at hlen
    obtain ⟨e1, e2⟩ := hl d (by simp)
    have hv := takeG_valid h hD hi (d := d) (by omega) e1 (by omega)
    have hle := takeG_le inn ps d
    have hln := takeG_len inn ps d
    obtain ⟨a, b, c, e⟩ := comesG_valid l (out ++ (takeG inn ps d).2.2) hv.1 hv.2.1 hv.2.2 (fun x hx => by rw [hln]; exact hl x (by simp [hx])) (by omega)
    exact ⟨a, b, c, e.trans hln⟩
theorem piecesC_len (f st pr : Int) (N : Nat) (X : List UInt8) : (piecesC f st pr N X).length = N := by simp [piecesC]
theorem numG_one (f : Int) (out : List Int) (st pr : Int) (X : List UInt8) : (numG f out [⟨st, pr, true, X⟩] []).2 = piecesC f st pr ((X.length + 999) / 1000) X := by
  simp only [numG, List.nil_append, List.length_nil, stampL, piecesC, cutsM, sendD_len, seqS, if_true]
  apply List.map_congr_left
  intro i hi
  have := List.mem_range.1 hi
  simp [stamp, sendD, pcC, tsnC, List.getD_eq_getElem?_getD, this]
theorem piecesC_ok {f st pr : Int} {N : Nat} {X : List UInt8} {n : Nat} (hN : N = (X.length + 999) / 1000) (hst : 0 ≤ st) (hst2 : st < n) (hn : n ≤ 16) (hpr : 0 ≤ pr) (hpr2 : pr < 4294967296) : ∀ d ∈ piecesC f st pr N X, d.ok = true ∧ d.st < n := by
  intro d hd
  obtain ⟨i, hi, rfl⟩ := List.mem_map.1 hd
  have hi := List.mem_range.1 hi
  have h32 : (2 : Int) ^ (Int.toNat 32) = 4294967296 := rfl
  have h16 : (2 : Int) ^ (Int.toNat 16) = 65536 := rfl
  refine ⟨?_, hst2⟩
  have hl : 1 ≤ (pieceS X i).length ∧ (pieceS X i).length ≤ 1000 := by simp [pieceS]; omega
  obtain ⟨p, hp⟩ : ∃ p, p = pieceS X i := ⟨_, rfl⟩
  have ht : 0 ≤ tsnC f i ∧ tsnC f i < 4294967296 := by unfold tsnC; omega
  rw [← hp] at hl
  simp only [Dat.ok, pcC, ← hp, serB, h32, h16, Bool.and_eq_true, decide_eq_true_eq, Bool.or_eq_true, Bool.not_true, beq_self_eq_true, Bool.false_or]
  exact ⟨⟨ht, hpr, hpr2⟩, ⟨⟨hst, by omega⟩, by omega, by omega⟩, by omega, by omega, trivial⟩
theorem slice_row {P : List Dat} {a b : Nat} : ((P.map Dat.row).drop a).take b = ((P.drop a).take b).map Dat.row := by rw [List.map_take, List.map_drop]
theorem text_pieces (X : List UInt8) : ∀ n, (List.range n).flatMap (pieceS X) = X.take (1000 * n)
  | 0 => by simp
  | n + 1 => by rw [List.range_succ, List.flatMap_append, text_pieces X n]; simp [takeS]
theorem cutLaw_ok {F : SF} {L nx : Nat} (o i : Nat) (f : Nat) (hf : f < 4294967296) (a b : Int) (w r : PV) (st kd sz at_ : Nat) (lo first : Bool) (hst : st < 256) (hkd : kd < 256) (hsz : sz < 65536) (hat : at_ < 256) :
    Con Try.prog 6 [.agg [.int .u8 o, .int .u8 i, .int .u32 f, .int .u16 a, .int .u16 b, w, r], .agg [.int .u8 st, .int .u8 kd, .int .u16 sz, .bool lo], .int .u8 at_, .bool first] F L nx nx (.bool true) [] [] := by
  have f0 : ((0 : Int) != 0) = false := rfl
  have hnew : ∀ F L nx, Con Try.prog 20 [.int .i64 2, .int .i64 2] F L nx nx (.tup [strV (zrs 2) (zrs 2) 0 (-1) [] [], .int .i64 0]) [] [] := fun F L nx => new_ok 2 2 (by omega) (by omega) (by omega) (by omega)
  have t1 : ((sz : Int).tmod 2300) = ((sz % 2300 : Nat) : Int) := rfl
  have t2 : IntKind.u16.wrap (1000 + ((sz % 2300 : Nat) : Int)) = ((1000 + sz % 2300 : Nat) : Int) := by
    have : ((1000 : Int) + ((sz % 2300 : Nat) : Int)) = ((1000 + sz % 2300 : Nat) : Int) := by omega
    rw [this]
    simp only [IntKind.wrap, IntKind.signed, IntKind.bits]
    simp
    omega
  refine Con.body (cxOk (L + 1)) rfl rfl (fn := Try.f6) (c := Try.f6.body.getD .skip) (by kernel_rfl) (by rfl) (by kernel_rfl) rfl (by simp) ?_
  intro F3 hF1 hF2
  simp only [Try.f6, cx, t1, t2, nm_beq, Nat.reduceBEq, nB, nB', nS2, nS2', Nat.add_assoc, Nat.reduceAdd, Nat.add_zero, go_sem, Meths.get, meths, Nat.reduceSub, Nat.reduceAdd, Nat.reduceMul, Nat.reduceEqDiff, Nat.reduceLT, Nat.reduceLeDiff, Nat.reduceBEq, Nat.reduceBNe, reduceIte, reduceCtorEq, Int.reduceToNat, String.reduceEq]
  refine CallVC.same (hnew _ _ _) ?_
  simp only [strV, t1, t2, f0, nm_beq, Nat.reduceBEq, nB, nB', nS2, nS2', Nat.add_assoc, Nat.reduceAdd, List.map_nil, Nat.add_zero, go_sem, Meths.get, meths, Nat.reduceSub, Nat.reduceAdd, Nat.reduceMul, Nat.reduceEqDiff, Nat.reduceLT, Nat.reduceLeDiff, Nat.reduceBEq, Nat.reduceBNe, reduceIte, reduceCtorEq, Int.reduceToNat, String.reduceEq]
  refine ⟨by omega, CallVC.same (message_ok st kd (1000 + sz % 2300) 2 true hst hkd (by omega) (by omega) (by omega)) ?_⟩
  obtain ⟨S, hS⟩ : ∃ x, x = st % 2 := ⟨_, rfl⟩
  obtain ⟨P, hP⟩ : ∃ x, x = 50 + kd % 4 := ⟨_, rfl⟩
  obtain ⟨X, hX⟩ : ∃ x, x = msgText (1000 + sz % 2300) := ⟨_, rfl⟩
  have hXl : 1001 ≤ X.length ∧ X.length ≤ 3300 := by rw [hX]; simp [msgText]; omega
  have hSl : S < 2 := by omega
  have hPl : P < 54 := by omega
  rw [← hS, ← hP, ← hX]
  obtain ⟨N, hN⟩ : ∃ x, x = (X.length + 999) / 1000 := ⟨_, rfl⟩
  have hN4 : N = 2 ∨ N = 3 ∨ N = 4 := by omega
  have hz : (zrs 2).length = 2 := rfl
  have hzs : (zrs 2).all (serB 16) = true := rfl
  have hnum : ∀ F L nx, Con Try.prog 21 [strV (zrs 2) (zrs 2) 0 (-1) [] [], .fs 4 [[.int .i64 S, .int .i64 P, .bool true, .str X]], .int .i64 f] F L nx nx (.tup [strV (numG f (zrs 2) [⟨S, P, true, X⟩] []).1 (zrs 2) 0 (-1) [] [], .fs 8 ((piecesC f S P N X).map Dat.row), .bool true]) [] [] := by
    intro F L nx
    have h := numbered_ok (F := F) (L := L) (nx := nx) (zrs 2) (zrs 2) 0 (by omega) (by omega) hzs (by omega) (by omega) hzs rfl [⟨S, P, true, X⟩] (by
      intro m hm
      simp at hm; subst hm
      exact ⟨by simp only []; omega, by simp only [hz]; omega, by simp [serB]; omega, by simp only []; omega, by simp only []; omega⟩) (by simp) f (by omega) (by omega)
    rw [numG_one, ← hN] at h
    exact h
  obtain ⟨out2, hout2⟩ : ∃ x, x = (numG f (zrs 2) [⟨S, P, true, X⟩] []).1 := ⟨_, rfl⟩
  obtain ⟨R, hR⟩ : ∃ x, x = piecesC f S P N X := ⟨_, rfl⟩
  have hRl : R.length = N := by rw [hR]; exact piecesC_len _ _ _ _ _
  have hRo := piecesC_ok (f := f) (st := S) (pr := P) (N := N) (X := X) (n := 2) hN (by omega) (by omega) (by omega) (by omega) (by omega)
  simp only [← hout2, ← hR] at hnum
  rw [← hR] at hRo
  simp only [strV, List.map_nil] at hnum
  simp only [t1, t2, f0, nm_beq, Nat.reduceBEq, nB, nB', nS2, nS2', Nat.add_assoc, Nat.reduceAdd, List.map_nil, Nat.add_zero, go_sem, Meths.get, meths, Nat.reduceSub, Nat.reduceAdd, Nat.reduceMul, Nat.reduceEqDiff, Nat.reduceLT, Nat.reduceLeDiff, Nat.reduceBEq, Nat.reduceBNe, reduceIte, reduceCtorEq, Int.reduceToNat, String.reduceEq]
  refine ⟨⟨by omega, by omega⟩, CallVC.gen (args2 := [.agg [.fs 1 ((zrs 2).map eI), .fs 1 ((zrs 2).map eI), .fs 8 [], .int .i64 0, .int .i64 (-1), .fs 1 []], .fs 4 [[.int .i64 S, .int .i64 P, .bool true, .str X]], .int .i64 f]) (by simp [Wk, WkL, List.take_of_length_le]) (hnum _ _ _) ?_⟩
  have f1 : decide ((N : Int) < 2) = false := dF (by omega)
  obtain ⟨k, hk⟩ : ∃ x, x = 1 + at_ % (N - 1) := ⟨_, rfl⟩
  have hk1 : 1 ≤ k ∧ k < N := by
    have := Nat.mod_lt at_ (show N - 1 > 0 by omega)
    omega
  have t3 : ((at_ : Int).tmod ((N : Int) - 1)) = ((at_ % (N - 1) : Nat) : Int) := by rw [show (N : Int) - 1 = ((N - 1 : Nat) : Int) by omega]; rfl
  have t4 : (1 : Int) + ((at_ % (N - 1) : Nat) : Int) = (k : Int) := by omega
  obtain ⟨p1, p2, p3, c1, c2, c3, c4⟩ := cut_plain (f := f) (st := S) (pr := P) (N := N) (X := X) (inn := zrs 2) (k := k) (first := first) (by omega) (by omega) hN4 hk1.1 hk1.2
  rw [← hR] at c1 c4
  have hP0 : PsOk (zrs 2) [] := ⟨by simp, by simp, by simp⟩
  have hl1 : ∀ d ∈ (R.take k).drop (if first then 1 else 0), d.ok = true ∧ d.st < (zrs 2).length := fun d hd => hRo d (List.mem_of_mem_take (List.mem_of_mem_drop hd))
  have hl2 : ∀ d ∈ R.drop k, d.ok = true ∧ d.st < (zrs 2).length := fun d hd => hRo d (List.mem_of_mem_drop hd)
  have v1 := comesG_valid ((R.take k).drop (if first then 1 else 0)) (inn := zrs 2) (ps := []) [] hP0 rfl hzs hl1 (by simp; omega)
  rw [c1] at v1
  have hSt : Str0 (zrs 2) (zrs 2) 0 (-1) [] := ⟨by simp [hz], by simp [hz], hzs, by simp [hz], by simp [hz], hzs, rfl, .inl rfl, rfl, by simp⟩
  have hcm1 := fun F L nx => comes_ok (F := F) (L := L) (nx := nx) (zrs 2) (zrs 2) [] 0 (-1) hSt [] hP0 rfl ((R.take k).drop (if first then 1 else 0)) hl1 (by simp; omega)
  rw [c1] at hcm1
  have htk : 0 ≤ tsnC f (k - 1) ∧ tsnC f (k - 1) < 4294967296 := by unfold tsnC; omega
  have hfv : fwdV (tsnC f (k - 1)) [] = true := by
    have h32 : (2 : Int) ^ (Int.toNat 32) = 4294967296 := rfl
    simp [fwdV, serB, h32]; omega
  have hsk := fun F L nx => skip_ok (F := F) (L := L) (nx := nx) (zrs 2) (zrs 2) [] 0 (-1) hSt p1 v1.1 v1.2.1 (tsnC f (k - 1)) [] hfv rfl
  rw [c2] at hsk
  have v2 := skipG_valid v1.1 hzs (tsnC f (k - 1)) [] (by simp)
  rw [c2] at v2
  have hp2 : p2.length + (R.drop k).length ≤ 80 := by rw [c3]; simp only [List.length_drop, hRl]; split <;> omega
  have hcm2 := fun F L nx => comes_ok (F := F) (L := L) (nx := nx) (zrs 2) (zrs 2) [] 0 (-1) hSt p2 v2.1 v2.2.1 (R.drop k) hl2 hp2
  rw [c4] at hcm2
  simp only [strV, fwdP, List.map_nil] at hcm1 hsk hcm2
  have e0 : ((k : Int) - 1).toNat = k - 1 := by omega
  have r0 : (R.map Dat.row).getD (k - 1) [] = [.int .i64 (tsnC f (k - 1)), .int .i64 S, .int .i64 0, .int .i64 P, .bool (k - 1 == 0), .bool (k - 1 + 1 == N), .bool true, .str (pieceS X (k - 1))] := by
    rw [hR]; simp [piecesC, List.getD_eq_getElem?_getD, show k - 1 < N by omega, pcC, Dat.row]
  have f00 : (((0 : Nat) : Int) != 0) = false := rfl
  have f01 : (((0 : Nat) : Int) == 0) = true := rfl
  cases first with
  | true =>
    simp only [if_true, Bool.false_eq_true, if_false] at hcm1 c3 hcm2
    have hp0 : p2 = [] := List.length_eq_zero_iff.1 c3
    simp only [wkNL, wkN, unown, t3, t4, f0, f1, hRl, nm_beq, Nat.reduceBEq, nB, nB', nS2, nS2', Nat.add_assoc, Nat.reduceAdd, List.length_map, List.map_nil, Nat.add_zero, go_sem, Meths.get, meths, Nat.reduceSub, Nat.reduceAdd, Nat.reduceMul, Nat.reduceEqDiff, Nat.reduceLT, Nat.reduceLeDiff, Nat.reduceBEq, Nat.reduceBNe, reduceIte, reduceCtorEq, Int.reduceToNat, String.reduceEq]
    repeat refine And.intro (by first | omega | exact ⟨by omega, by omega⟩ | exact ⟨by omega, by omega, by omega⟩ | exact ⟨⟨by omega, by omega⟩, by omega, by omega⟩ | exact okS (by kernel_rfl)) ?_
    rw [show List.take (k - 1) (List.drop 1 (R.map Dat.row)) = ((R.take k).drop 1).map Dat.row by rw [List.drop_take, List.map_take, List.map_drop]]
    refine CallVC.same (hcm1 _ _ _) ?_
    simp only [t3, t4, f0, f00, f01, f1, hRl, e0, r0, nm_beq, Nat.reduceBEq, nB, nB', nS2, nS2', Nat.add_assoc, Nat.reduceAdd, List.length_map, List.map_nil, List.length_nil, Nat.add_zero, go_sem, Meths.get, meths, Nat.reduceSub, Nat.reduceAdd, Nat.reduceMul, Nat.reduceEqDiff, Nat.reduceLT, Nat.reduceLeDiff, Nat.reduceBEq, Nat.reduceBNe, reduceIte, reduceCtorEq, Int.reduceToNat, String.reduceEq]
    repeat refine And.intro (by first | omega | exact ⟨by omega, by omega⟩ | exact ⟨by omega, by omega, by omega⟩ | exact ⟨⟨by omega, by omega⟩, by omega, by omega⟩ | exact okDyn_num (fun x => x.i) (by kernel_rfl) | kernel_rfl | exact okDyn_num (fun _ => 0) (by kernel_rfl)) ?_
    refine CallVC.gen (args2 := [.agg [.fs 1 ((zrs 2).map eI), .fs 1 ((zrs 2).map eI), .fs 8 (p1.map Dat.row), .int .i64 0, .int .i64 (-1), .fs 1 []], .agg [.int .i64 (tsnC f (k - 1)), .fs 2 []]]) (by simp [Wk, WkL]) (hsk _ _ _) ?_
    simp only [wkNL, wkN, unown, t3, t4, f0, f00, f01, f1, hRl, hp0, e0, r0, nm_beq, Nat.reduceBEq, nB, nB', nS2, nS2', Nat.add_assoc, Nat.reduceAdd, List.length_map, List.map_nil, List.length_nil, Nat.add_zero, go_sem, Meths.get, meths, Nat.reduceSub, Nat.reduceAdd, Nat.reduceMul, Nat.reduceEqDiff, Nat.reduceLT, Nat.reduceLeDiff, Nat.reduceBEq, Nat.reduceBNe, reduceIte, reduceCtorEq, Int.reduceToNat, String.reduceEq]
    repeat refine And.intro (by first | omega | exact ⟨by omega, by omega⟩ | exact ⟨by omega, by omega, by omega⟩ | exact ⟨⟨by omega, by omega⟩, by omega, by omega⟩ | exact okDyn_num (fun x => x.i) (by kernel_rfl) | kernel_rfl | exact okDyn_num (fun _ => 0) (by kernel_rfl)) ?_
    rw [show List.take (N - k) (List.drop k (R.map Dat.row)) = (R.drop k).map Dat.row by rw [List.map_drop, List.take_of_length_le (by simp [hRl])]]
    rw [hp0] at hcm2
    simp only [List.map_nil] at hcm2
    refine CallVC.same (hcm2 _ _ _) ?_
    simp only [wkNL, wkN, unown, t3, t4, f0, f00, f01, f1, hRl, e0, r0, nm_beq, Nat.reduceBEq, nB, nB', nS2, nS2', Nat.add_assoc, Nat.reduceAdd, List.length_map, List.map_nil, List.length_nil, Nat.add_zero, go_sem, Meths.get, meths, Nat.reduceSub, Nat.reduceAdd, Nat.reduceMul, Nat.reduceEqDiff, Nat.reduceLT, Nat.reduceLeDiff, Nat.reduceBEq, Nat.reduceBNe, reduceIte, reduceCtorEq, Int.reduceToNat, String.reduceEq]
    repeat refine And.intro (by first | omega | exact ⟨by omega, by omega⟩ | exact ⟨by omega, by omega, by omega⟩ | exact ⟨⟨by omega, by omega⟩, by omega, by omega⟩ | exact okDyn_num (fun x => x.i) (by kernel_rfl) | kernel_rfl | exact okDyn_num (fun _ => 0) (by kernel_rfl)) ?_
    exact .bool (.inr rfl) rfl rfl (by simp [UpdAll, keys])
  | false =>
    simp only [Bool.false_eq_true, if_false, List.drop_zero] at hcm1 c3 hcm2
    have htx : (List.range N).flatMap (pieceS X) = X := by rw [text_pieces, List.take_of_length_le (by omega)]
    rw [htx] at hcm2
    have hsm : ∀ F L nx, Con Try.prog 28 [.fs 4 [[.int .i64 S, .int .i64 P, .bool true, .str X]], .fs 4 [[.int .i64 S, .int .i64 P, .bool true, .str X]]] F L nx nx (.bool true) [] [] := by
      intro F L nx
      have := same_ok (F := F) (L := L) (nx := nx) [⟨S, P, true, X⟩] [⟨S, P, true, X⟩] (by simp) (by simp)
      simpa [Msg.row] using this
    simp only [List.map_cons, List.map_nil, Msg.row] at hcm2
    simp only [wkNL, wkN, unown, t3, t4, f0, f1, hRl, nm_beq, Nat.reduceBEq, nB, nB', nS2, nS2', Nat.add_assoc, Nat.reduceAdd, List.length_map, List.map_nil, Nat.add_zero, go_sem, Meths.get, meths, Nat.reduceSub, Nat.reduceAdd, Nat.reduceMul, Nat.reduceEqDiff, Nat.reduceLT, Nat.reduceLeDiff, Nat.reduceBEq, Nat.reduceBNe, reduceIte, reduceCtorEq, Int.reduceToNat, String.reduceEq]
    repeat refine And.intro (by first | omega | exact ⟨by omega, by omega⟩ | exact ⟨by omega, by omega, by omega⟩ | exact ⟨⟨by omega, by omega⟩, by omega, by omega⟩ | exact okS (by kernel_rfl)) ?_
    rw [show List.take (k - 0) (R.map Dat.row) = (R.take k).map Dat.row by rw [List.map_take]; rfl]
    refine CallVC.same (hcm1 _ _ _) ?_
    simp only [t3, t4, f0, f00, f01, f1, hRl, e0, r0, nm_beq, Nat.reduceBEq, nB, nB', nS2, nS2', Nat.add_assoc, Nat.reduceAdd, List.length_map, List.map_nil, List.length_nil, Nat.add_zero, go_sem, Meths.get, meths, Nat.reduceSub, Nat.reduceAdd, Nat.reduceMul, Nat.reduceEqDiff, Nat.reduceLT, Nat.reduceLeDiff, Nat.reduceBEq, Nat.reduceBNe, reduceIte, reduceCtorEq, Int.reduceToNat, String.reduceEq]
    repeat refine And.intro (by first | omega | exact ⟨by omega, by omega⟩ | exact ⟨by omega, by omega, by omega⟩ | exact ⟨⟨by omega, by omega⟩, by omega, by omega⟩ | exact okDyn_num (fun x => x.i) (by kernel_rfl) | kernel_rfl | exact okDyn_num (fun _ => 0) (by kernel_rfl)) ?_
    refine CallVC.gen (args2 := [.agg [.fs 1 ((zrs 2).map eI), .fs 1 ((zrs 2).map eI), .fs 8 (p1.map Dat.row), .int .i64 0, .int .i64 (-1), .fs 1 []], .agg [.int .i64 (tsnC f (k - 1)), .fs 2 []]]) (by simp [Wk, WkL]) (hsk _ _ _) ?_
    simp only [wkNL, wkN, unown, t3, t4, f0, f00, f01, f1, hRl, c3, e0, r0, bne_self_eq_false, nm_beq, Nat.reduceBEq, nB, nB', nS2, nS2', Nat.add_assoc, Nat.reduceAdd, List.length_map, List.map_nil, List.length_nil, Nat.add_zero, go_sem, Meths.get, meths, Nat.reduceSub, Nat.reduceAdd, Nat.reduceMul, Nat.reduceEqDiff, Nat.reduceLT, Nat.reduceLeDiff, Nat.reduceBEq, Nat.reduceBNe, reduceIte, reduceCtorEq, Int.reduceToNat, String.reduceEq]
    repeat refine And.intro (by first | omega | exact ⟨by omega, by omega⟩ | exact ⟨by omega, by omega, by omega⟩ | exact ⟨⟨by omega, by omega⟩, by omega, by omega⟩ | exact okDyn_num (fun x => x.i) (by kernel_rfl) | kernel_rfl | exact okDyn_num (fun _ => 0) (by kernel_rfl)) ?_
    rw [show List.take (N - k) (List.drop k (R.map Dat.row)) = (R.drop k).map Dat.row by rw [List.map_drop, List.take_of_length_le (by simp [hRl])]]
    refine CallVC.same (hcm2 _ _ _) ?_
    simp only [wkNL, wkN, unown, t3, t4, f0, f00, f01, f1, hRl, e0, r0, nm_beq, Nat.reduceBEq, nB, nB', nS2, nS2', Nat.add_assoc, Nat.reduceAdd, List.length_map, List.map_nil, List.length_nil, Nat.add_zero, go_sem, Meths.get, meths, Nat.reduceSub, Nat.reduceAdd, Nat.reduceMul, Nat.reduceEqDiff, Nat.reduceLT, Nat.reduceLeDiff, Nat.reduceBEq, Nat.reduceBNe, reduceIte, reduceCtorEq, Int.reduceToNat, String.reduceEq]
    repeat refine And.intro (by first | omega | exact ⟨by omega, by omega⟩ | exact ⟨by omega, by omega, by omega⟩ | exact ⟨⟨by omega, by omega⟩, by omega, by omega⟩ | exact okDyn_num (fun x => x.i) (by kernel_rfl) | kernel_rfl | exact okDyn_num (fun _ => 0) (by kernel_rfl)) ?_
    refine CallVC.gen (args2 := [.fs 4 [[.int .i64 S, .int .i64 P, .bool true, .str X]], .fs 4 [[.int .i64 S, .int .i64 P, .bool true, .str X]]]) (by simp [Wk, WkL]) (hsm _ _ _) ?_
    simp only [wkNL, wkN, unown, nm_beq, Nat.reduceBEq, nB, nB', nS2, nS2', Nat.add_assoc, Nat.reduceAdd, Nat.add_zero, go_sem, Meths.get, meths, Nat.reduceSub, Nat.reduceAdd, Nat.reduceMul, Nat.reduceEqDiff, Nat.reduceLT, Nat.reduceLeDiff, Nat.reduceBEq, Nat.reduceBNe, reduceIte, reduceCtorEq, Int.reduceToNat, String.reduceEq]
    exact .bool (.inr rfl) rfl rfl (by simp [UpdAll, keys])
end Go.Proofs.Ytfhhbkehlfipgaa
end
