/- Lemmas for the walk: ZC55. -/
import Derived.Test.YtfhhbkehlfipgaaGreatP17
set_option linter.all false
section
namespace Go.Proofs.YtfhhbkehlfipgaaGreat
open Go.Tx
set_option maxRecDepth 100000
set_option maxHeartbeats 16000000
theorem strW0 : Str0 [0, 0] [0, 0] 0 (-1) [] := ⟨by decide, by decide, by decide, by decide, by decide, by decide, by decide, .inl rfl, rfl, by simp⟩
theorem works_ok {F : SF} {L nx : Nat} : Con Tryz.prog 6 [] F L nx nx (.bool true) [] [] := by
 have f0 : ((0 : Int) != 0) = false := rfl
 have eI0 : ∀ x : Int, eI x = [.int .i64 x] := fun _ => rfl
 have hrep := fun F L nx => repeat_ok (F := F) (L := L) (nx := nx) [109] 2500 (by omega) (by simp)
 rw [repeatL_one, show List.replicate 2500 (109 : UInt8) = txW from rfl] at hrep
 have hme : ∀ m ∈ [mW, nW], MsgOk 2 m := by
  intro m hm
  simp only [List.mem_cons, List.not_mem_nil, or_false] at hm
  rcases hm with rfl | rfl
  ·exact ⟨by decide, by decide, by decide, by show 1 ≤ txW.length; rw [txW_len]; omega, by show txW.length ≤ 8000; rw [txW_len]; omega⟩
  ·exact ⟨by decide, by decide, by decide, by decide, by decide⟩
 have hnum := fun F L nx => numbered_ok (F := F) (L := L) (nx := nx) [0, 0] [0, 0] 0 (by decide) (by decide) (by decide) (by decide) (by decide) (by decide) (by decide) [mW, nW] hme (by decide) 10 (by decide) (by decide)
 rw [numW] at hnum
 have q0 := pW_len0
 have q1 := pW_len1
 have q2 := pW_len2
 have q3 := pW_all
 obtain ⟨p, hp⟩ : ∃ x, x = pW 0 := ⟨_, rfl⟩
 obtain ⟨q, hq⟩ : ∃ x, x = pW 1 := ⟨_, rfl⟩
 obtain ⟨r, hr⟩ : ∃ x, x = pW 2 := ⟨_, rfl⟩
 obtain ⟨X, hX⟩ : ∃ x, x = txW := ⟨_, rfl⟩
 have hXl := txW_len
 rw [← hp] at q0 q3 hnum
 rw [← hq] at q1 q3 hnum
 rw [← hr] at q2 q3 hnum
 simp only [strV, List.map_cons, List.map_nil, Dat.row, Msg.row, l0, l1, l2, l3, mW, nW, eI0] at hnum
 rw [← hX] at hnum hrep q3 hXl
 have pl0 : ((p.length : Int) != 1000) = false := by rw [q0]; rfl
 have pl2 : ((r.length : Int) != 500) = false := by rw [q2]; rfl
 have n44 : (((4 : Nat) : Int) != 4) = false := rfl
 have n11 : (((1 : Nat) : Int) == 1) = true := rfl
 have n00 : (((0 : Nat) : Int) != 0) = false := rfl
 have n55 : ((8 : Int) == 8) = true := rfl
 have hP0 : PsOk [0, 0] [] := ⟨by simp, by simp, by simp⟩
 have ok0 : (l0 p).ok = true := by
  have h32 : (2 : Int) ^ (Int.toNat 32) = 4294967296 := rfl
  have h16 : (2 : Int) ^ (Int.toNat 16) = 65536 := rfl
  simp [Dat.ok, l0, serB, q0]
 have ok1 : (l1 q).ok = true := by
  have h32 : (2 : Int) ^ (Int.toNat 32) = 4294967296 := rfl
  have h16 : (2 : Int) ^ (Int.toNat 16) = 65536 := rfl
  simp [Dat.ok, l1, serB, q1]
 have ok2 : (l2 r).ok = true := by
  have h32 : (2 : Int) ^ (Int.toNat 32) = 4294967296 := rfl
  have h16 : (2 : Int) ^ (Int.toNat 16) = 65536 := rfl
  simp [Dat.ok, l2, serB, q2]
 have ok3 : l3.ok = true := rfl
 have ok4 : l4.ok = true := rfl
 have okA : ∀ d ∈ [l3, l2 r, l0 p], d.ok = true ∧ d.st < ([0, 0] : List Int).length := by
  intro d hd
  simp only [List.mem_cons, List.not_mem_nil, or_false] at hd
  rcases hd with rfl | rfl | rfl <;> exact ⟨by assumption, by show (1 : Int) < 2; omega⟩
 have okB : ∀ d ∈ [l3, l2 r, l0 p, l1 q], d.ok = true ∧ d.st < ([0, 0] : List Int).length := by
  intro d hd
  simp only [List.mem_cons, List.not_mem_nil, or_false] at hd
  rcases hd with rfl | rfl | rfl | rfl <;> exact ⟨by assumption, by show (1 : Int) < 2; omega⟩
 have okC : ∀ d ∈ [l4], d.ok = true ∧ d.st < ([0, 0] : List Int).length := by
  intro d hd
  simp only [List.mem_cons, List.not_mem_nil, or_false] at hd
  rcases hd with rfl <;> exact ⟨by assumption, by show (1 : Int) < 2; omega⟩
 have okD : ∀ d ∈ [l4, l2 r, l0 p, l1 q], d.ok = true ∧ d.st < ([0, 0] : List Int).length := by
  intro d hd
  simp only [List.mem_cons, List.not_mem_nil, or_false] at hd
  rcases hd with rfl | rfl | rfl | rfl <;> exact ⟨by assumption, by show (1 : Int) < 2; omega⟩
 have okE : ∀ d ∈ [l3], d.ok = true ∧ d.st < ([0, 0] : List Int).length := by
  intro d hd
  simp only [List.mem_cons, List.not_mem_nil, or_false] at hd
  rcases hd with rfl <;> exact ⟨by assumption, by show (1 : Int) < 2; omega⟩
 have hcA := fun F L nx => comes_ok (F := F) (L := L) (nx := nx) [0, 0] [0, 0] [] 0 (-1) strW0 [] hP0 rfl _ okA (by simp)
 have hcB := fun F L nx => comes_ok (F := F) (L := L) (nx := nx) [0, 0] [0, 0] [] 0 (-1) strW0 [] hP0 rfl _ okB (by simp)
 have hcC := fun F L nx => comes_ok (F := F) (L := L) (nx := nx) [0, 0] [0, 0] [] 0 (-1) strW0 [] hP0 rfl _ okC (by simp)
 have hcD := fun F L nx => comes_ok (F := F) (L := L) (nx := nx) [0, 0] [0, 0] [] 0 (-1) strW0 [] hP0 rfl _ okD (by simp)
 have hcE := fun F L nx => comes_ok (F := F) (L := L) (nx := nx) [0, 0] [0, 0] [] 0 (-1) strW0 [] hP0 rfl _ okE (by simp)
 rw [comes1] at hcA
 rw [comes2, List.nil_append, List.append_assoc, q3] at hcB
 rw [comes3] at hcC
 rw [comes4, List.nil_append, List.append_assoc, q3] at hcD
 rw [comes5] at hcE
 simp only [strV, List.map_cons, List.map_nil, Dat.row, Msg.row, l0, l1, l2, l3, l4, nW, nW2, eI0] at hcA hcB hcC hcD hcE
 have hsA := fun F L nx => same_ok (F := F) (L := L) (nx := nx) [⟨1, 0, false, X⟩, nW] [⟨1, 0, false, X⟩, nW] (by simp) (by simp)
 have hsB := fun F L nx => same_ok (F := F) (L := L) (nx := nx) [nW2] [nW2] (by simp) (by simp)
 have hsC := fun F L nx => same_ok (F := F) (L := L) (nx := nx) [nW2, ⟨1, 0, false, X⟩] [nW2, ⟨1, 0, false, X⟩] (by simp) (by simp)
 have hsD := fun F L nx => same_ok (F := F) (L := L) (nx := nx) [nW] [nW] (by simp) (by simp)
 simp only [List.map_cons, List.map_nil, Msg.row, nW, nW2, decide_true] at hsA hsB hsC hsD
 have hP3 : PsOk [0, 0] [l3] := ⟨by simp, by intro d hd; simp only [List.mem_cons, List.not_mem_nil, or_false] at hd; subst hd; rfl, by simp⟩
 have hsk := fun F L nx => skip_ok (F := F) (L := L) (nx := nx) [0, 0] [0, 0] [] 0 (-1) strW0 [l3] hP3 rfl 12 [(1, 0)] rfl rfl
 rw [skipW] at hsk
 have hd1 := fun F L nx => dropsAll_ok (F := F) (L := L) (nx := nx) (flW p q r) [-1, 0] (by simp [flW]) (by simp)
 have hd2 := fun F L nx => dropsAll_ok (F := F) (L := L) (nx := nx) (flW p q r) [-1, 1] (by simp [flW]) (by simp)
 rw [dropsW1] at hd1
 rw [dropsW2] at hd2
 have hi1 := fun F L nx => ints_ok (F := F) (L := L) (nx := nx) [10, 11, 12] [10, 11, 12] (by simp) (by simp)
 have hi2 := fun F L nx => ints_ok (F := F) (L := L) (nx := nx) [0, 0] [0, 0] (by simp) (by simp)
 rw [show (([10, 11, 12] : List Int) == [10, 11, 12]) = true from rfl] at hi1
 rw [show (([0, 0] : List Int) == [0, 0]) = true from rfl] at hi2
 have hS2 : Str0 [0, 2] [0, 0] 0 (-1) [] := ⟨by decide, by decide, by decide, by decide, by decide, by decide, by decide, .inl rfl, rfl, by simp⟩
 have hS3 : Str0 [0, 2] [0, 0] 0 (-1) [1] := ⟨by decide, by decide, by decide, by decide, by decide, by decide, by decide, .inl rfl, rfl, by simp⟩
 have hask := fun F L nx => ask0_ok (F := F) (L := L) (nx := nx) [0, 2] [0, 0] 0 (-1) hS2 13 [1] (by decide) (by decide) rfl (by decide)
 have hs8 := fun F L nx => send8_ok (F := F) (L := L) (nx := nx) [0, 2] [0, 0] [1] 0 (-1) hS3 [] hP0 rfl 1 0 false [110] (by decide) (by decide) (by decide) (by decide) (by decide) rfl
 have hans := fun F L nx => answered1_ok (F := F) (L := L) (nx := nx) [0, 2] [0, 0] 0 (-1) [1] (by decide) hS3 rfl
 rw [show zeroAt [0, 2] [1] ([1] : List Int).length = [0, 0] from rfl, show ((0 : Int) + 1) % 4294967296 = 1 from rfl] at hans
 have hs9 := fun F L nx => sendF_ok (F := F) (L := L) (nx := nx) [0, 0] [0, 0] 1 (by decide) (by decide) (by decide) (by decide) (by decide) (by decide) (by decide) 1 0 false [110] (by decide) (by decide) (by decide) (by decide)
 rw [show sendD ((1 : Nat) : Int) 0 (seqS [0, 0] 1 false) false [110] ((([110] : List UInt8).length + 999) / 1000) = [⟨0, 1, 0, 0, true, true, false, [110]⟩] from rfl, show outS [0, 0] 1 false = [0, 1] from rfl, show ((1 : Nat) : Int) = 1 from rfl] at hs9
 simp only [strV, strZ, strV0, rstP, fwdP, kE, List.map_cons, List.map_nil, Dat.row, Msg.row, Fl.row, l0, l1, l2, l3, nW, eI0, flW] at hsk hd1 hd2 hi1 hi2 hask hs8 hans hs9
 refine bdy Tryz.f6 ?_
 intro F3 hF1 hF2
 simp (config := {maxSteps := 2000000}) only [Tryz.f6, cx, List.append_eq, List.cons_append, List.nil_append]
 simp (config := {maxSteps := 2000000}) only [Nat.reduceAdd, go_sem, meths, Nat.reduceSub, Nat.reduceAdd, Nat.reduceLT]
 refine CallVC.same (new_ok 2 2 (by omega) (by omega) (by omega) (by omega)) ?_
 simp (config := {maxSteps := 2000000}) only [strV, zrs, List.replicate, List.map_cons, eI0, Nat.reduceBEq, Nat.reduceAdd, go_sem, Nat.reduceAdd, Nat.reduceLT, Nat.reduceLeDiff, Nat.reduceBEq]
 refine CallVC.same (hrep _ _ _) ?_
 simp (config := {maxSteps := 2000000}) only [Nat.reduceBEq, Nat.reduceAdd, go_sem, Nat.reduceAdd, Nat.reduceMul, Nat.reduceEqDiff, Nat.reduceLT, Nat.reduceLeDiff, Nat.reduceBEq]
 refine CallVC.gen (by simp [Wk, WkL]) (hnum _ _ _) ?_
 simp (config := {maxSteps := 2000000}) only [wkNL, wkN, unown, f0, n44, pl0, pl2, Nat.reduceBEq, Nat.reduceAdd, Nat.add_zero, go_sem, Nat.reduceAdd, Nat.reduceMul, Nat.reduceEqDiff, Nat.reduceLT, Nat.reduceLeDiff, Nat.reduceBEq, Int.reduceToNat]
 repeat refine sd1 ?_
 refine CallVC.gen (by simp [Wk, WkL]) (hcA _ _ _) ?_
 simp (config := {maxSteps := 2000000}) only [wkNL, wkN, unown, Nat.reduceBEq, Nat.reduceAdd, Nat.add_zero, go_sem, Nat.reduceAdd, Nat.reduceMul, Nat.reduceEqDiff, Nat.reduceLT, Nat.reduceLeDiff, Nat.reduceBEq, Int.reduceToNat]
 repeat refine sd1 ?_
 refine CallVC.gen (by simp [Wk, WkL]) (hcB _ _ _) ?_
 simp (config := {maxSteps := 2000000}) only [wkNL, wkN, unown, Nat.reduceBEq, Nat.reduceAdd, go_sem, Nat.reduceAdd, Nat.reduceMul, Nat.reduceEqDiff, Nat.reduceLT, Nat.reduceLeDiff, Nat.reduceBEq, Int.reduceToNat]
 repeat refine sd1 ?_
 refine CallVC.gen (by simp [Wk, WkL]) (hcC _ _ _) ?_
 simp (config := {maxSteps := 2000000}) only [wkNL, wkN, unown, Nat.reduceBEq, Nat.reduceAdd, Nat.add_zero, go_sem, Nat.reduceAdd, Nat.reduceMul, Nat.reduceEqDiff, Nat.reduceLT, Nat.reduceLeDiff, Nat.reduceBEq, Int.reduceToNat]
 repeat refine sd1 ?_
 refine CallVC.gen (by simp [Wk, WkL]) (hcD _ _ _) ?_
 simp (config := {maxSteps := 2000000}) only [wkNL, wkN, unown, n00, Nat.reduceBEq, Nat.reduceAdd, go_sem, Nat.reduceAdd, Nat.reduceMul, Nat.reduceEqDiff, Nat.reduceLT, Nat.reduceLeDiff, Nat.reduceBEq]
 repeat refine sd1 ?_
 refine CallVC.gen (by simp [Wk, WkL]) (hsA _ _ _) ?_
 simp (config := {maxSteps := 2000000}) only [wkNL, wkN, unown, Nat.reduceBEq, Nat.reduceAdd, go_sem, Nat.reduceAdd, Nat.reduceMul, Nat.reduceEqDiff, Nat.reduceLT, Nat.reduceLeDiff, Nat.reduceBEq]
 repeat refine sd1 ?_
 refine CallVC.gen (by simp [Wk, WkL]) (hsB _ _ _) ?_
 simp (config := {maxSteps := 2000000}) only [wkNL, wkN, unown, Nat.reduceBEq, Nat.reduceAdd, go_sem, Nat.reduceAdd, Nat.reduceMul, Nat.reduceEqDiff, Nat.reduceLT, Nat.reduceLeDiff, Nat.reduceBEq]
 repeat refine sd1 ?_
 refine CallVC.gen (by simp [Wk, WkL]) (hsC _ _ _) ?_
 simp (config := {maxSteps := 2000000}) only [wkNL, wkN, unown, Nat.reduceBEq, Nat.reduceAdd, go_sem, Nat.reduceAdd, Nat.reduceMul, Nat.reduceEqDiff, Nat.reduceLT, Nat.reduceLeDiff, Nat.reduceBEq, Int.reduceToNat]
 repeat refine sd1 ?_
 refine CallVC.gen (by simp [Wk, WkL]) (hcE _ _ _) ?_
 simp (config := {maxSteps := 2000000}) only [wkNL, wkN, unown, Nat.reduceBEq, Nat.reduceAdd, go_sem, Nat.reduceAdd, Nat.reduceMul, Nat.reduceEqDiff, Nat.reduceLT, Nat.reduceLeDiff, Nat.reduceBEq]
 repeat refine sd1 ?_
 refine CallVC.gen (by simp [Wk, WkL]) (hsk _ _ _) ?_
 simp (config := {maxSteps := 2000000}) only [wkNL, wkN, unown, f0, Nat.reduceBEq, Nat.reduceAdd, go_sem, Nat.reduceAdd, Nat.reduceMul, Nat.reduceEqDiff, Nat.reduceLT, Nat.reduceLeDiff, Nat.reduceBEq]
 repeat refine sd1 ?_
 refine CallVC.gen (by simp [Wk, WkL]) (hsD _ _ _) ?_
 simp (config := {maxSteps := 2000000}) only [wkNL, wkN, unown, Nat.reduceBEq, Nat.reduceAdd, Nat.add_zero, go_sem, Nat.reduceAdd, Nat.reduceMul, Nat.reduceEqDiff, Nat.reduceLT, Nat.reduceLeDiff, Nat.reduceBEq, Int.reduceToNat]
 repeat refine sd1 ?_
 refine CallVC.gen (by simp [Wk, WkL]) (hd1 _ _ _) ?_
 simp (config := {maxSteps := 2000000}) only [wkNL, wkN, unown, Nat.reduceBEq, Nat.reduceAdd, go_sem, Nat.reduceAdd, Nat.reduceMul, Nat.reduceEqDiff, Nat.reduceLT, Nat.reduceBEq]
 repeat refine sd1 ?_
 refine CallVC.gen (by simp [Wk, WkL]) (hd2 _ _ _) ?_
 simp (config := {maxSteps := 2000000}) only [wkNL, wkN, unown, f0, Nat.reduceBEq, Nat.reduceAdd, go_sem, Nat.reduceAdd, Nat.reduceMul, Nat.reduceEqDiff, Nat.reduceLT, Nat.reduceBEq]
 repeat refine sd1 ?_
 refine CallVC.gen (by simp [Wk, WkL]) (hi1 _ _ _) ?_
 simp (config := {maxSteps := 2000000}) only [wkNL, wkN, unown, f0, n00, Nat.reduceBEq, Nat.reduceAdd, go_sem, Nat.reduceAdd, Nat.reduceMul, Nat.reduceEqDiff, Nat.reduceLT, Nat.reduceLeDiff, Nat.reduceBEq]
 repeat refine sd1 ?_
 refine CallVC.gen (by simp [Wk, WkL]) (hask _ _ _) ?_
 simp (config := {maxSteps := 2000000}) only [wkNL, wkN, unown, Nat.reduceBEq, Nat.reduceAdd, go_sem, Nat.reduceAdd, Nat.reduceEqDiff, Nat.reduceLT, Nat.reduceLeDiff, Nat.reduceBEq]
 repeat refine sd1 ?_
 refine CallVC.same (hs8 _ _ _) ?_
 simp (config := {maxSteps := 2000000}) only [Nat.reduceBEq, Nat.reduceAdd, go_sem, Nat.reduceAdd, Nat.reduceEqDiff, Nat.reduceLT, Nat.reduceLeDiff, Nat.reduceBEq]
 repeat refine sd1 ?_
 refine CallVC.gen (by simp [Wk, WkL]) (hans _ _ _) ?_
 simp (config := {maxSteps := 2000000}) only [wkNL, wkN, unown, Nat.reduceBEq, Nat.reduceAdd, go_sem, Nat.reduceAdd, Nat.reduceEqDiff, Nat.reduceLT, Nat.reduceLeDiff, Nat.reduceBEq]
 repeat refine sd1 ?_
 refine CallVC.same (hs9 _ _ _) ?_
 simp (config := {maxSteps := 2000000}) only [n55, Nat.reduceBEq, Nat.reduceAdd, Nat.add_zero, go_sem, Nat.reduceAdd, Nat.reduceMul, Nat.reduceEqDiff, Nat.reduceLT, Nat.reduceLeDiff, Nat.reduceBEq]
 repeat refine sd1 ?_
 refine CallVC.gen (by simp [Wk, WkL]) (hi2 _ _ _) ?_
 simp (config := {maxSteps := 2000000}) only [wkNL, wkN, unown, n11, Nat.reduceBEq, Nat.reduceAdd, Nat.add_zero, go_sem, Nat.reduceAdd, Nat.reduceEqDiff, Nat.reduceLT, Nat.reduceLeDiff, Nat.reduceBEq, Int.reduceToNat]
 repeat refine sd1 ?_
 exact .bool (.inr rfl) rfl rfl (by simp [UpdAll])
end Go.Proofs.YtfhhbkehlfipgaaGreat
end
